/- slices.IndexFunc and slices.ContainsFunc over symbols (decode.Drop), with whatever function value that tells of each whether it is meant; and the two functions that decode.Block hands to them. Conditions: those that stand in the theorems. -/
import Derived.Test.YtbfhinfblepidaaPDecodeTellsx0
import Derived.Test.YtbfhinfblepidaaMt
import Derived.Lib.Walk
namespace Go.Proofs.Ytbfhinfblepidaa.Cd
open Go.RowKit Go.Lib Go.Proofs.Ytbfhinfblepidaa.PDecodeTells Go.Proofs.YtbfhinfblepidaaW.PrintWords Go.Proofs.YtbfhinfblepidaaW.PrintLast Go.Proofs.YtbfhinfblepidaaW.PrintMore Go.Proofs.Ytbfhinfblepidaa.Mt
set_option linter.unusedVariables false
set_option linter.unusedSimpArgs false
def Tells (g : Nat) (lb : Array Value) (p : S111 → Bool) (L : List S111) (w : World) : Prop :=
  ∀ (W : World) (j : Nat) (A : Option Addr) (c : Nat), j < L.length → Below w.heap.size w W → RowC W A (rd_T111 L (j : Int)).f1 → (rd_T111 L (j : Int)).f1.length ≤ c →
    Calls Try.prog g (#[.agg #[.int .i64 (rd_T111 L (j : Int)).f0, .slice A (rd_T111 L (j : Int)).f1.length c]] ++ lb) W fun e w' => e = .returned (.bool (p (rd_T111 L (j : Int)))) ∧ Below w.heap.size w w'
def idx (p : S111 → Bool) : List S111 → Int → Int
  | [], _ => -1
  | r :: L, i => if p r = true then i else idx p L (i + 1)
theorem rd_succ (r : S111) (L : List S111) (m : Nat) : rd_T111 (r :: L) ((m + 1 : Nat) : Int) = rd_T111 L (m : Int) := by unfold rd_T111; rw [Int.toNat_natCast, Int.toNat_natCast]; rfl
theorem idx_hit {p : S111 → Bool} {L : List S111} : ∀ (k : Nat) (i : Int), k < L.length → p (rd_T111 L (k : Int)) = true → (∀ j : Nat, j < k → p (rd_T111 L (j : Int)) = false) → idx p L i = i + k := by
  induction L with
  | nil => intro k i h; simp at h
  | cons r L ih =>
    intro k i hk hp hj
    cases k with
    | zero => simp only [idx]; rw [if_pos (by simpa [rd_T111] using hp)]; simp
    | succ k =>
      have h0 := hj 0 (by omega)
      simp only [idx]
      rw [if_neg (by have : p r = false := by simpa [rd_T111] using h0
                     rw [this]; decide)]
      rw [ih k (i + 1) (by simpa using hk) (by rw [← rd_succ r]; exact hp) (fun j h => by rw [← rd_succ r]; exact hj (j + 1) (by omega))]
      omega
theorem idx_miss {p : S111 → Bool} {L : List S111} : ∀ (i : Int), (∀ j : Nat, j < L.length → p (rd_T111 L (j : Int)) = false) → idx p L i = -1 := by
  induction L with
  | nil => intro i _; rfl
  | cons r L ih =>
    intro i hj
    have h0 := hj 0 (by simp)
    simp only [idx]
    rw [if_neg (by have : p r = false := by simpa [rd_T111] using h0
                   rw [this]; decide)]
    exact ih (i + 1) (fun j h => by rw [← rd_succ r]; exact hj (j + 1) (by simp; omega))
set_option maxHeartbeats 2000000 in
theorem index_calls (g : Nat) (lb : Array Value) (eg : ∀ args w, (callFunc g args).run Try.prog w = .ok (.enter g args) w) (p : S111 → Bool) (A : Option Addr) (c : Nat) (L : List S111) (w : World)
    (hC : k111.C w A L.length L) (hp : Tells g lb p L w) :
    Calls Try.prog 107 #[.slice A L.length c, .func (.func g) #[] lb] w fun e w' => e = .returned (.int .i64 (idx p L 0)) ∧ Below w.heap.size w w' := by
  have hbig : L.length ≤ 9223372036854775807 := hC.2.1
  have hu111 := Try.underlying111
  go_enter Try.func107, Try.ntmps107
  go_wp2
  go_loopg [5, 8] L.length (fun gg _ s8 wr => ∃ kk : Nat, kk ≤ L.length ∧ L.length - kk ≤ gg ∧ s8 = .int .i64 kk ∧ Below w.heap.size w wr ∧ Aside (∀ j : Nat, j < kk → p (rd_T111 L (j : Int)) = false))
  case atStart => exact ⟨0, Nat.zero_le _, by omega, rfl, Below.refl _ _, fun j hj => absurd hj (Nat.not_lt_zero _)⟩
  case round =>
    obtain ⟨kk, hkk, hg, rfl, hb, A0⟩ := hrel
    by_cases hlt : kk < L.length
    · have hltz : (kk : Int) < (L.length : Int) := by omega
      obtain ⟨ad, A1, c1, rfl, hcell, hcell2, hl1, hC1⟩ := at_T111 (Kd.C_below hC hb) (kk : Int) (by omega) hltz
      have hcall := hp _ kk A1 c1 hlt hb hC1 hl1
      clear hC1
      generalize hy : p (rd_T111 L (kk : Int)) = q at hcall
      rw [Int.toNat_natCast] at hcell hcell2
      cases q with
      | true =>
        go_wp2_with (go_at_fn g; refine hcall.mono ?_; rintro e w' ⟨rfl, hb'⟩)
        go_ret
        refine ⟨?_, hb'⟩
        rw [idx_hit kk 0 hlt hy A0.out]
        simp
      | false =>
        go_wp2_with (go_at_fn g; refine hcall.mono ?_; rintro e w' ⟨rfl, hb'⟩)
        go_roundg (L.length - (kk + 1))
        case measure => omega
        case rel =>
          refine ⟨kk + 1, by omega, by omega, by go_num, hb', (show Aside _ from fun j hj => ?_)⟩
          by_cases e : j = kk
          · subst e; exact hy
          · exact A0.out j (by omega)
    · have hltz : ¬ (kk : Int) < (L.length : Int) := by omega
      go_wp2
      go_ret
      refine ⟨?_, hb⟩
      rw [idx_miss 0 (fun j h => A0.out j (by omega))]
      rfl
set_option maxHeartbeats 2000000 in
theorem contains_calls (g : Nat) (lb : Array Value) (eg : ∀ args w, (callFunc g args).run Try.prog w = .ok (.enter g args) w) (p : S111 → Bool) (A : Option Addr) (c : Nat) (L : List S111) (w : World)
    (hC : k111.C w A L.length L) (hp : Tells g lb p L w) :
    Calls Try.prog 86 #[.slice A L.length c, .func (.func g) #[] lb] w fun e w' => e = .returned (.bool (decide (0 ≤ idx p L 0))) ∧ Below w.heap.size w w' := by
  have hcon := index_calls g lb eg p A c L w hC hp
  generalize idx p L 0 = r at hcon ⊢
  go_enter Try.func86, Try.ntmps86
  go_wp2_with (go_at_call 107; refine hcon.mono ?_; rintro e w' ⟨rfl, hb'⟩)
  go_ret
  exact ⟨rfl, hb'⟩
def bad (e : Int) : Bool := decide (e < 0) || decide (16777216 ≤ e)
theorem wrong.calls (e : Int) (w : World) : Calls Try.prog 88 #[.int .i64 e] w fun x w' => x = .returned (.bool (bad e)) ∧ Below w.heap.size w w' := by
  unfold bad
  by_cases h1 : e < 0
  · rw [decide_eq_true h1]
    go_enter Try.func88, Try.ntmps88
    go_wp2
    go_ret
    exact ⟨rfl, Below.refl _ _⟩
  · rw [decide_eq_false h1]
    go_enter Try.func88, Try.ntmps88
    go_wp2
    go_ret
    exact ⟨rfl, Below.refl _ _⟩
theorem tells_bad (L : List S111) (w : World) : Tells 87 #[] (fun x => bad x.f0) L w := by
  intro W j A c hj hb hC hl
  show Calls Try.prog 87 #[.agg #[.int .i64 (rd_T111 L (j : Int)).f0, .slice A (rd_T111 L (j : Int)).f1.length c]] W fun e w' => e = .returned (.bool (bad (rd_T111 L (j : Int)).f0)) ∧ Below w.heap.size w w'
  generalize rd_T111 L (j : Int) = x at hC hl
  have hu111 := Try.underlying111
  have HB := Aside0.mk hb
  clear hC hl hj hb
  go_enter Try.func87, Try.ntmps87
  go_wp2_with (go_at_call 88; (with_reducible refine (wrong.calls x.f0 _).mono ?_); rintro e w' ⟨rfl, hb'⟩)
  go_ret
  exact ⟨rfl, below_step (show Below w.heap.size w _ from bel) hb'⟩
def odd (z : Int) (x : S111) : Bool := decide ((x.f1.length : Int) ≠ z)
theorem tells_odd (gb : Nat) (z : Int) (L : List S111) (w : World) (hbox : w.heap[gb]? = some (.cells #[.int .i64 z] 3 (0, 0))) : Tells 89 #[.pointer (some ⟨gb, 0, none⟩)] (odd z) L w := by
  intro W j A c hj hb hC hl
  have hbox2 : W.heap[gb]? = some (.cells #[.int .i64 z] 3 (0, 0)) := blk_below hbox hb
  show Calls Try.prog 89 #[.agg #[.int .i64 (rd_T111 L (j : Int)).f0, .slice A (rd_T111 L (j : Int)).f1.length c], .pointer (some ⟨gb, 0, none⟩)] W fun e w' => e = .returned (.bool (odd z (rd_T111 L (j : Int)))) ∧ Below w.heap.size w w'
  generalize rd_T111 L (j : Int) = x at hC hl
  have hu111 := Try.underlying111
  have HB := Aside0.mk hb
  have hcell := fun o => (blk_cell (blk_below hbox2 (below_alloc (Below.refl W.heap.size W) o)) 0).trans (rfl : (#[Value.int .i64 z] : Array Value)[0]? = some (.int .i64 z))
  clear hC hl hj hb hbox hbox2
  unfold odd
  by_cases h : (x.f1.length : Int) = z
  · have h2 : ((x.f1.length : Int) != z) = false := bne_eq_false_iff_eq.2 h
    have h3 : decide ((x.f1.length : Int) ≠ z) = false := decide_eq_false (fun k => k h)
    rw [h3]
    clear h h3
    go_enter Try.func89, Try.ntmps89
    go_wp2
    go_ret
    exact ⟨by simp_all, bel⟩
  · have h2 : ((x.f1.length : Int) != z) = true := bne_iff_ne.2 h
    have h3 : decide ((x.f1.length : Int) ≠ z) = true := decide_eq_true h
    rw [h3]
    clear h h3
    go_enter Try.func89, Try.ntmps89
    go_wp2
    go_ret
    exact ⟨by simp_all, bel⟩
end Go.Proofs.Ytbfhinfblepidaa.Cd
