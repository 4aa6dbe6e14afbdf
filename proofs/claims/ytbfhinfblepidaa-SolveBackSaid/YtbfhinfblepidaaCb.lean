/- slices.ContainsFunc over a row of bytes with solve.Solve$1: is there an element that is not 0. Conditions: those that stand in the theorems. (Numbers of functions: seat B.) -/
import Derived.Test.YtbfhinfblepidaaMt
namespace Go.Proofs.Ytbfhinfblepidaa.Cb
open Go.RowKit Go.Lib Go.Proofs.YtbfhinfblepidaaW.PrintWords Go.Proofs.YtbfhinfblepidaaW.PrintLast Go.Proofs.YtbfhinfblepidaaW.PrintMore Go.Proofs.Ytbfhinfblepidaa.Mt
set_option linter.unusedVariables false
set_option linter.unusedSimpArgs false
theorem nz.calls (x : Int) (w : World) : Calls Try.prog 67 #[.int .u8 x] w fun e w' => e = .returned (.bool (decide (x ≠ 0))) ∧ Below w.heap.size w w' := by
  by_cases h : x = 0
  · have h2 : (x != 0) = false := bne_eq_false_iff_eq.2 h
    have h3 : decide (x ≠ 0) = false := decide_eq_false (fun k => k h)
    rw [h3]
    clear h h3
    go_enter Try.func67, Try.ntmps67
    go_wp2
    go_ret
    exact ⟨by simp_all, Below.refl _ _⟩
  · have h2 : (x != 0) = true := bne_iff_ne.2 h
    have h3 : decide (x ≠ 0) = true := decide_eq_true h
    rw [h3]
    clear h h3
    go_enter Try.func67, Try.ntmps67
    go_wp2
    go_ret
    exact ⟨by simp_all, Below.refl _ _⟩
/-- Where the first element stands that is not 0. -/
def ix : List Int → Int → Int
  | [], _ => -1
  | x :: l, i => if x ≠ 0 then i else ix l (i + 1)
theorem ix_hit {l : List Int} : ∀ (k : Nat) (i : Int), k < l.length → rd l (k : Int) ≠ 0 → (∀ j : Nat, j < k → rd l (j : Int) = 0) → ix l i = i + k := by
  induction l with
  | nil => intro k i h; simp at h
  | cons x l ih =>
    intro k i hk hp hj
    cases k with
    | zero => simp only [ix]; rw [if_pos (by simpa [rd] using hp)]; simp
    | succ k =>
      have h0 := hj 0 (by omega)
      simp only [ix]
      rw [if_neg (by have : x = 0 := by simpa [rd] using h0
                     exact fun k => k this)]
      have e : ∀ m : Nat, rd (x :: l) ((m + 1 : Nat) : Int) = rd l (m : Int) := fun m => by unfold rd; rw [Int.toNat_natCast, Int.toNat_natCast]; rfl
      rw [ih k (i + 1) (by simpa using hk) (by rw [← e]; exact hp) (fun j h => by rw [← e]; exact hj (j + 1) (by omega))]
      omega
theorem ix_miss {l : List Int} : ∀ (i : Int), (∀ j : Nat, j < l.length → rd l (j : Int) = 0) → ix l i = -1 := by
  induction l with
  | nil => intro i _; rfl
  | cons x l ih =>
    intro i hj
    have h0 := hj 0 (by simp)
    simp only [ix]
    rw [if_neg (by have : x = 0 := by simpa [rd] using h0
                   exact fun k => k this)]
    have e : ∀ m : Nat, rd (x :: l) ((m + 1 : Nat) : Int) = rd l (m : Int) := fun m => by unfold rd; rw [Int.toNat_natCast, Int.toNat_natCast]; rfl
    exact ih (i + 1) (fun j h => by rw [← e]; exact hj (j + 1) (by simp; omega))
set_option maxHeartbeats 2000000 in
theorem index.calls (A : Option Addr) (c : Nat) (L : List Int) (w : World) (hC : RowC w A L) :
    Calls Try.prog 100 #[.slice A L.length c, .func (.func 67) #[] #[]] w fun e w' => e = .returned (.int .i64 (ix L 0)) ∧ Below w.heap.size w w' := by
  have hbig : L.length ≤ 9223372036854775807 := hC.2.1
  have HC := Aside0.mk hC
  clear hC
  go_enter Try.func100, Try.ntmps100
  go_wp2
  go_loopg [5, 8] L.length (fun gg _ s8 wr => ∃ kk : Nat, kk ≤ L.length ∧ L.length - kk ≤ gg ∧ s8 = .int .i64 kk ∧ Below w.heap.size w wr ∧ Aside (∀ j : Nat, j < kk → rd L (j : Int) = 0))
  case atStart => exact ⟨0, Nat.zero_le _, by omega, rfl, Below.refl _ _, fun j hj => absurd hj (Nat.not_lt_zero _)⟩
  case round =>
    obtain ⟨kk, hkk, hg, rfl, hb, A0⟩ := hrel
    by_cases hlt : kk < L.length
    · have hltz : (kk : Int) < (L.length : Int) := by omega
      obtain ⟨ad, rfl, hcell⟩ := Kd.at_int (Kd.C_below HC.out hb) (kk : Int) (by omega) hltz
      obtain ⟨x, hy⟩ : ∃ x, rd L (kk : Int) = x := ⟨_, rfl⟩
      rw [Int.toNat_natCast, hy] at hcell
      by_cases hx : x = 0
      · have hcall := nz.calls x wr
        rw [decide_eq_false (fun k => k hx)] at hcall
        have YX := Aside0.mk (hy.trans hx)
        clear hy hx
        go_wp2_with (go_at_call 67; refine hcall.mono ?_; rintro e w' ⟨rfl, hb'⟩)
        go_roundg (L.length - (kk + 1))
        case measure => omega
        case rel =>
          refine ⟨kk + 1, by omega, by omega, by go_num, below_step hb hb', (show Aside _ from fun j hj => ?_)⟩
          by_cases e : j = kk
          · subst e; exact YX.out
          · exact A0.out j (by omega)
      · have hcall := nz.calls x wr
        rw [decide_eq_true hx] at hcall
        have YX := Aside0.mk (show rd L (kk : Int) ≠ 0 by rw [hy]; exact hx)
        clear hy hx
        go_wp2_with (go_at_call 67; refine hcall.mono ?_; rintro e w' ⟨rfl, hb'⟩)
        go_ret
        refine ⟨?_, below_step hb hb'⟩
        rw [ix_hit kk 0 hlt YX.out A0.out]
        simp
    · have hltz : ¬ (kk : Int) < (L.length : Int) := by omega
      go_wp2
      go_ret
      refine ⟨?_, hb⟩
      rw [ix_miss 0 (fun j h => A0.out j (by omega))]
      rfl
def any (L : List Int) : Bool := decide (0 ≤ ix L 0)
set_option maxHeartbeats 2000000 in
theorem any.calls (A : Option Addr) (c : Nat) (L : List Int) (w : World) (hC : RowC w A L) :
    Calls Try.prog 66 #[.slice A L.length c, .func (.func 67) #[] #[]] w fun e w' => e = .returned (.bool (any L)) ∧ Below w.heap.size w w' := by
  have hcon := index.calls A c L w hC
  unfold any
  generalize ix L 0 = r at hcon ⊢
  go_enter Try.func66, Try.ntmps66
  go_wp2_with (go_at_call 100; refine hcon.mono ?_; rintro e w' ⟨rfl, hb'⟩)
  go_ret
  exact ⟨rfl, hb'⟩
end Go.Proofs.Ytbfhinfblepidaa.Cb
