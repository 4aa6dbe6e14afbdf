/- Proved: BlockSource answers true: the first symbols of a block are its source. Conditions: the argument's numbers are bytes, and there are fewer of them than memory holds. -/
import Derived.Test.YtbfhinfblepidaaBq
import Derived.Test.YtbfhinfblepidaaBo
namespace Go.Proofs.Ytbfhinfblepidaa.Pure
open Go.RowKit Go.Proofs.Ytbfhinfblepidaa.PSolveTells Go.Proofs.Ytbfhinfblepidaa.PSeedTells Go.Proofs.Ytbfhinfblepidaa.PBlockTells Go.Proofs.YtbfhinfblepidaaW.PrintWords Go.Proofs.YtbfhinfblepidaaW.PrintLast Go.Proofs.Ytbfhinfblepidaa.Mt Go.Proofs.Ytbfhinfblepidaa.Rw Go.Proofs.Ytbfhinfblepidaa.Pc Go.Proofs.Ytbfhinfblepidaa.Sv Go.Proofs.Ytbfhinfblepidaa.FSolveTells Go.Proofs.Ytbfhinfblepidaa.FSeedTells Go.Proofs.Ytbfhinfblepidaa.Sl Go.Proofs.Ytbfhinfblepidaa.Sd Go.Proofs.Ytbfhinfblepidaa.Bs Go.Proofs.Ytbfhinfblepidaa.Bn Go.Proofs.Ytbfhinfblepidaa.Bp Go.Proofs.Ytbfhinfblepidaa.Bq Go.Proofs.Ytbfhinfblepidaa.Bo

/-! ### the example -/
def P0 : List (List F) := [[97, 98], [120, 50], [202, 87], [25, 80], [171, 53]]
theorem solB_ex : solB 1 2 0 [[97, 98]] = (tll P0, 0) := by decide +kernel
theorem sym_ex : symR 1 0 2 P0 0 = ([97, 98], 0) := by decide +kernel
theorem rk1 : rk 1 0 (src 1) = kL 1 := by decide +kernel
theorem find_hit {k d j : Nat} (h : rk k (j : Int) (src k) = kL k) : find k (d + 1) j = ((j : Int), 0) := by unfold find; rw [if_pos h]
theorem seed1 : seedOf 1 = (0, 0) := by
  unfold seedOf
  rw [if_neg (by omega)]
  exact find_hit (k := 1) (d := 255) (j := 0) rk1
theorem block_none : blockR 1 [] = (none, 1) := by unfold blockR; rw [if_pos (by simp)]
theorem block_ex : blockR 2 [[97, 98]] = (some (1, 0, tll P0), 0) := by
  unfold blockR
  rw [if_neg (by decide), if_neg (by decide)]
  have hs : seedOf ((([([97, 98] : List F)] : List (List F)).length : Nat) : Int) = (0, 0) := seed1
  rw [hs, if_neg (by decide)]
  have hb : solB ([([97, 98] : List F)] : List (List F)).length (2 : Int).toNat ((0, 0) : Int × Int).1 [[97, 98]] = (tll P0, 0) := solB_ex
  rw [hb, if_neg (by decide)]
  rfl
theorem live_ev : ∃ k0, ∀ k, k0 ≤ k → Live k := by
  obtain ⟨a, ha⟩ := (new_ev 1 [] (by simp) (by simp)).1
  obtain ⟨b, hb⟩ := (new_ev 2 [[97, 98]] (by simp) (by simp)).1
  obtain ⟨c, hc⟩ := (sym_ev (n := 1) (j := 0) (z := 2) (by decide) (by decide) (by decide) (by decide) (by decide) P0 (by decide) 0).1
  rw [block_none] at ha
  rw [block_ex] at hb
  rw [sym_ex] at hc
  exact ⟨a + b + c, fun k hk => ⟨0, tll P0, ha k (by omega), hb k (by omega), hc k (by omega)⟩⟩

theorem upto {p : Nat → Nat → Prop} (n : Nat) (h : ∀ i, i < n → ∃ k0, ∀ k, k0 ≤ k → p i k) : ∃ k0, ∀ k, k0 ≤ k → ∀ i, i < n → p i k := by
  induction n with
  | zero => exact ⟨0, fun k _ i hi => absurd hi (Nat.not_lt_zero _)⟩
  | succ n ih =>
    obtain ⟨a, ha⟩ := ih (fun i hi => h i (by omega))
    obtain ⟨b, hb⟩ := h n (by omega)
    exact ⟨a + b, fun k hk i hi => by
      by_cases e : i = n
      · subst e; exact hb k (by omega)
      · exact ha k (by omega) i (by omega)⟩
theorem ro_row (M : List (List F)) (i : Nat) : Mt.ro (tll M) i = tl (row M i) := ro_tll M i
/-- What a block comes to, whose rows are as long as the first. -/
theorem block_is (z : Nat) (M : List (List F)) (h1 : 1 ≤ M.length) (h2 : M.length ≤ 40) (hz1 : 1 ≤ z) (hz : z ≤ 64) :
    blockR (z : Int) M = (none, 10) ∨ blockR (z : Int) M = (none, 5) ∨ ∃ j P, j ≤ 255 ∧ blockR (z : Int) M = (some (M.length, j, tll P), 0) ∧ Parts M.length z j M P ∧ ∀ r ∈ M, r.length = z := by
  unfold blockR
  rw [if_neg (by omega)]
  by_cases ho : (tll M).any (odd (z : Int)) = true
  · left; rw [if_pos ho]
  rw [if_neg ho]
  right
  have hr : ∀ r ∈ M, r.length = z := fun r hr => by
    apply Classical.byContradiction
    intro hne
    refine ho (List.any_eq_true.2 ⟨tl r, List.mem_map_of_mem hr, decide_eq_true ?_⟩)
    rw [tl_length]; omega
  have hs : seedOf (M.length : Int) = find M.length 256 0 := by
    unfold seedOf; rw [if_neg (by omega), Int.toNat_natCast]
  rw [hs, Int.toNat_natCast]
  rcases find_says M.length 256 0 with e | ⟨i, g1, g2, e, g3, _⟩
  · left; rw [e, if_pos (by decide)]
  · right
    rw [e]
    obtain ⟨P, hP, hp⟩ := solB_good h1 h2 hz1 hz (j := i) (by omega) g3 M rfl
    refine ⟨i, P, by omega, ?_, hp, hr⟩
    simp only
    rw [if_neg (by simp), hP, if_neg (by simp), Int.toNat_natCast]
theorem told (M : List (List F)) (z : Nat) (hz : (row M 0).length = z) (h1 : 1 ≤ M.length) (h2 : M.length ≤ 12) (hz1 : 1 ≤ z) (hz2 : z ≤ 64) (hs : ∀ r ∈ M, r.length < 2 ^ 40) : ∃ k0, ∀ k, k0 ≤ k → Bo.ToldS k (tll M) := by
  obtain ⟨⟨a, ha⟩, _⟩ := new_ev (z : Int) M (by omega) hs
  have e0 : (Mt.ro (tll M) 0).length = z := by rw [ro_row, tl_length, hz]
  unfold Bo.ToldS
  rw [e0]
  rcases block_is z M h1 (by omega) hz1 hz2 with e | e | ⟨j, P, hj, e, hp, hr⟩
  · rw [e] at ha; exact ⟨a, fun k hk => .inl ⟨10, .inl rfl, ha k hk⟩⟩
  · rw [e] at ha; exact ⟨a, fun k hk => .inl ⟨5, .inr rfl, ha k hk⟩⟩
  · rw [e] at ha
    obtain ⟨b, hb⟩ := upto (p := fun i k => sym.f k (M.length : Int) ((kS M.length : Nat) : Int) 2 (j : Int) (z : Int) (tll P) (i : Int) = some (Mt.ro (tll M) i, 0)) M.length (fun i hi => by
      obtain ⟨c, hc⟩ := (sym_ev h1 (by omega) hj hz1 hz2 P (fun r hr' => by rw [hp.row r hr']; omega) (i : Int)).1
      have hv : symR M.length j z P (i : Int) = (Mt.ro (tll M) i, 0) := by
        unfold symR
        rw [if_neg (by omega), if_pos hp.len, Int.toNat_natCast, source h1 (by omega) hj rfl hr hp i hi, ro_row]
      rw [hv] at hc
      exact ⟨c, hc⟩)
    exact ⟨a + b, fun k hk => .inr ⟨_, _, _, _, _, ha k (by omega), fun i hi => hb k (by omega) i (by rwa [tll_length] at hi)⟩⟩
theorem BlockSource (L : List (List Int)) (hL : L.length < 2 ^ 48 ∧ ∀ r ∈ L, r.length < 2 ^ 48 ∧ ∀ x ∈ r, 0 ≤ x ∧ x ≤ 255) : Ev (fun k => fountainlaw10_BlockSource.f k L) true := by
  obtain ⟨M, rfl⟩ := tll_of L fun r hr => (hL.2 r hr).2
  have m1 : M.length < 2 ^ 50 := by have := hL.1; rw [tll_length] at this; omega
  have m2 : ∀ r ∈ M, r.length < 2 ^ 50 := fun r hr => by
    have := (hL.2 (tl r) (List.mem_map.2 ⟨r, hr, rfl⟩)).1
    rw [tl_length] at this; omega
  obtain ⟨a, ha⟩ := live_ev
  have fin : ∀ k0, (∀ k, k0 ≤ k → Bo.Hyp k (tll M)) → Ev (fun k => fountainlaw10_BlockSource.f k (tll M)) true := fun k0 h => ⟨k0, fun k hk => by
    show fountainlaw10_BlockSource.f k (tll M) = some true
    unfold fountainlaw10_BlockSource.f; exact if_pos (h k hk)⟩
  by_cases c1 : (M.length : Int) < 1
  · exact fin a fun k hk => ⟨ha k hk, .inl (by rw [tll_length]; exact c1)⟩
  by_cases c2 : 12 < (M.length : Int)
  · exact fin a fun k hk => ⟨ha k hk, .inr (.inl (by rw [tll_length]; exact c2))⟩
  obtain ⟨t, ⟨b, hb⟩, ht⟩ := few_ev M m1 m2
  cases t with
  | false => exact fin (a + b) fun k hk => ⟨ha k (by omega), .inr (.inr (.inl (hb k (by omega))))⟩
  | true =>
    obtain ⟨_, g2⟩ := ht rfl
    have hs : ∀ r ∈ M, r.length < 2 ^ 40 := fun r hr => by have := g2 r hr; omega
    have e0 : ((Mt.ro (tll M) 0).length : Int) = ((row M 0).length : Int) := by rw [ro_row, tl_length]
    by_cases c3 : ((row M 0).length : Int) < 1
    · exact fin (a + b) fun k hk => ⟨ha k (by omega), .inr (.inr (.inr ⟨hb k (by omega), .inl (by rw [e0]; exact c3)⟩))⟩
    by_cases c4 : 64 < ((row M 0).length : Int)
    · exact fin (a + b) fun k hk => ⟨ha k (by omega), .inr (.inr (.inr ⟨hb k (by omega), .inr (.inl (by rw [e0]; exact c4))⟩))⟩
    obtain ⟨c, hc⟩ := to_ev M (by omega) hs
    obtain ⟨d, hd⟩ := told M _ rfl (by omega) (by omega) (by omega) (by omega) hs
    exact fin (a + b + c + d) fun k hk => ⟨ha k (by omega), .inr (.inr (.inr ⟨hb k (by omega), .inr (.inr ⟨hc k (by omega), hd k (by omega)⟩)⟩))⟩
end Go.Proofs.Ytbfhinfblepidaa.Pure
