/- Proved: BlockTells answers true: the program's blocks and their symbols are the document's. Conditions: the arguments' numbers are of their kinds, and there are fewer of them than memory holds. -/
import Derived.Test.YtbfhinfblepidaaBp
import Derived.Test.YtbfhinfblepidaaBt
namespace Go.Proofs.Ytbfhinfblepidaa.Pure
open Go.RowKit Go.Proofs.Ytbfhinfblepidaa.PSolveTells Go.Proofs.Ytbfhinfblepidaa.PSeedTells Go.Proofs.Ytbfhinfblepidaa.PBlockTells Go.Proofs.YtbfhinfblepidaaW.PrintWords Go.Proofs.YtbfhinfblepidaaW.PrintLast Go.Proofs.Ytbfhinfblepidaa.Rw Go.Proofs.Ytbfhinfblepidaa.Pc Go.Proofs.Ytbfhinfblepidaa.FSolveTells Go.Proofs.Ytbfhinfblepidaa.FSeedTells Go.Proofs.Ytbfhinfblepidaa.Sl Go.Proofs.Ytbfhinfblepidaa.Sd Go.Proofs.Ytbfhinfblepidaa.Bs Go.Proofs.Ytbfhinfblepidaa.Bn Go.Proofs.Ytbfhinfblepidaa.Br Go.Proofs.Ytbfhinfblepidaa.Bp Go.Proofs.Ytbfhinfblepidaa.Bt

/-! ### the example -/
def P0 : List (List F) := [[97, 98], [120, 50], [202, 87], [25, 80], [171, 53]]
theorem solB_ex : solB 1 2 0 [[97, 98]] = (tll P0, 0) := by decide +kernel
theorem sym_ex : symR 1 0 2 P0 0 = ([97, 98], 0) := by decide +kernel
theorem rk1 : rk 1 0 (src 1) = kL 1 := by decide +kernel
theorem find_hit {k d j : Nat} (h : rk k (j : Int) (src k) = kL k) : find k (d + 1) j = ((j : Int), 0) := by unfold find; rw [if_pos h]
theorem seed1 : seedOf 1 = (0, 0) := by
  unfold seedOf
  rw [if_neg (by omega)]
  exact find_hit (k := 1) (d := 255) (j := 0) rk1
theorem block_none : blockR 1 [] = (none, 1) := by unfold blockR; rw [if_pos (by simp)]
theorem block_ex : blockR 2 [[97, 98]] = (some (1, 0, tll P0), 0) := by
  unfold blockR
  rw [if_neg (by decide), if_neg (by decide)]
  have hs : seedOf ((([([97, 98] : List F)] : List (List F)).length : Nat) : Int) = (0, 0) := seed1
  rw [hs, if_neg (by decide)]
  have hb : solB ([([97, 98] : List F)] : List (List F)).length (2 : Int).toNat ((0, 0) : Int × Int).1 [[97, 98]] = (tll P0, 0) := solB_ex
  rw [hb, if_neg (by decide)]
  rfl
theorem live_ev : ∃ k0, ∀ k, k0 ≤ k → Live k := by
  obtain ⟨a, ha⟩ := (new_ev 1 [] (by simp) (by simp)).1
  obtain ⟨b, hb⟩ := (new_ev 2 [[97, 98]] (by simp) (by simp)).1
  obtain ⟨c, hc⟩ := (sym_ev (n := 1) (j := 0) (z := 2) (by decide) (by decide) (by decide) (by decide) (by decide) P0 (by decide) 0).1
  rw [block_none] at ha
  rw [block_ex] at hb
  rw [sym_ex] at hc
  exact ⟨a + b + c, fun k hk => ⟨0, tll P0, ha k (by omega), hb k (by omega), hc k (by omega)⟩⟩

theorem blockR_none {z : Int} {L : List (List F)} {e : Int} (h : blockR z L = (none, e)) : e ≠ 0 := by
  unfold blockR at h
  split at h
  · injection h with _ h; omega
  · split at h
    · injection h with _ h; omega
    · split at h
      · rename_i h1; injection h with _ h; rw [← h]; exact h1
      · split at h
        · rename_i h1; injection h with _ h; rw [← h]; exact h1
        · injection h with h _; cases h
theorem blockR_some {z : Int} {L : List (List F)} {b : Nat × Nat × List (List Int)} {e : Int} (h : blockR z L = (some b, e)) :
    e = 0 ∧ 1 ≤ b.1 ∧ b.1 ≤ 40 ∧ b.2.1 ≤ 255 ∧ 1 ≤ z ∧ z ≤ 64 ∧ ∃ P : List (List F), b.2.2 = tll P ∧ ∀ r ∈ P, r.length = z.toNat := by
  unfold blockR at h
  split at h
  · injection h with h _; cases h
  · rename_i hb
    split at h
    · injection h with h _; cases h
    · split at h
      · injection h with h _; cases h
      · split at h
        · injection h with h _; cases h
        · injection h with h he
          obtain rfl := Option.some.inj h
          have hn := seed_nat (L.length : Int)
          exact ⟨he.symm, by simp only; omega, by simp only; omega, by simp only; omega, by omega, by omega, solB_shape _ _ _ _⟩
theorem told (z : Int) (L : List (List F)) (hL : L.length < 2 ^ 40) (hs : ∀ r ∈ L, r.length < 2 ^ 40) (esi : Int) : ∃ k0, ∀ k, k0 ≤ k → Bt.Told k z (tll L) esi := by
  obtain ⟨⟨a, ha⟩, ⟨b, hb⟩⟩ := new_ev z L hL hs
  generalize hB : blockR z L = B at ha hb
  obtain ⟨o, e⟩ := B
  cases o with
  | none => exact ⟨a + b, fun k hk => .inl ⟨e, blockR_none hB, ha k (by omega), hb k (by omega)⟩⟩
  | some q =>
    obtain ⟨n, j, Q⟩ := q
    obtain ⟨rfl, h1, h2, h3, h4, h5, P, h6, h7⟩ := blockR_some hB
    simp only at h1 h2 h3 h6
    subst h6
    obtain ⟨y, rfl⟩ : ∃ y : Nat, z = (y : Int) := ⟨z.toNat, by omega⟩
    obtain ⟨⟨c, hc⟩, ⟨d, hd⟩⟩ := sym_ev h1 h2 h3 (z := y) (by omega) (by omega) P (fun r hr => by rw [h7 r hr]; omega) esi
    generalize symR n j y P esi = s at hc hd
    obtain ⟨x, g⟩ := s
    exact ⟨a + b + c + d, fun k hk => .inr ⟨_, _, _, _, _, _, _, x, g, _, _, ha k (by omega), hb k (by omega), hc k (by omega), hd k (by omega), w_ok h2, rW_ok h2, l_ok h2, rL_ok h2⟩⟩
theorem BlockTells (z : Int) (_ : -2 ^ 63 ≤ z ∧ z < 2 ^ 63) (L : List (List Int)) (hL : L.length < 2 ^ 48 ∧ ∀ r ∈ L, r.length < 2 ^ 48 ∧ ∀ x ∈ r, 0 ≤ x ∧ x ≤ 255) (esi : Int) (_ : -2 ^ 63 ≤ esi ∧ esi < 2 ^ 63) : Ev (fun k => fountainlaw10_BlockTells.f k z L esi) true := by
  obtain ⟨M, rfl⟩ := tll_of L fun r hr => (hL.2 r hr).2
  have m1 : M.length < 2 ^ 50 := by have := hL.1; rw [tll_length] at this; omega
  have m2 : ∀ r ∈ M, r.length < 2 ^ 50 := fun r hr => by
    have := (hL.2 (tl r) (List.mem_map.2 ⟨r, hr, rfl⟩)).1
    rw [tl_length] at this; omega
  obtain ⟨a, ha⟩ := live_ev
  have fin : ∀ k0, (∀ k, k0 ≤ k → Hyp k z (tll M) esi) → Ev (fun k => fountainlaw10_BlockTells.f k z (tll M) esi) true := fun k0 h => ⟨k0, fun k hk => by
    show fountainlaw10_BlockTells.f k z (tll M) esi = some true
    unfold fountainlaw10_BlockTells.f; exact if_pos (h k hk)⟩
  by_cases c1 : 45 < (M.length : Int)
  · exact fin a fun k hk => ⟨ha k hk, .inl (by rw [tll_length]; exact c1)⟩
  obtain ⟨t, ⟨b, hb⟩, ht⟩ := few_ev M m1 m2
  cases t with
  | false => exact fin (a + b) fun k hk => ⟨ha k (by omega), .inr (.inl (hb k (by omega)))⟩
  | true =>
    obtain ⟨_, g2⟩ := ht rfl
    have hs : ∀ r ∈ M, r.length < 2 ^ 40 := fun r hr => by have := g2 r hr; omega
    obtain ⟨c, hc⟩ := to_ev M (by omega) hs
    obtain ⟨d, hd⟩ := told z M (by omega) hs esi
    exact fin (a + b + c + d) fun k hk => ⟨ha k (by omega), .inr (.inr ⟨hb k (by omega), hc k (by omega), hd k (by omega)⟩)⟩
end Go.Proofs.Ytbfhinfblepidaa.Pure
