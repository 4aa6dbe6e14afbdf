/- slices.ContainsFunc over a row of bytes with solve.Solve$1: is there an element that is not 0. Conditions: those that stand in the theorems. (Numbers of functions: seat B.) -/
import Derived.Test.YtbfhinfblepidaaMt
namespace Go.Proofs.Ytbfhinfblepidaa.Cb
open Go.RowKit Go.Lib Go.Proofs.YtbfhinfblepidaaW.PrintWords Go.Proofs.YtbfhinfblepidaaW.PrintLast Go.Proofs.YtbfhinfblepidaaW.PrintMore Go.Proofs.Ytbfhinfblepidaa.Mt
set_option linter.unusedVariables false
set_option linter.unusedSimpArgs false
theorem nz.calls (x : Int) (w : World) : Calls Try.prog 67 #[.int .u8 x] w fun e w' => e = .returned (.bool (decide (x ≠ 0))) ∧ Below w.heap.size w w' := by
  by_cases h : x = 0
  · have h2 : (x != 0) = false := bne_eq_false_iff_eq.2 h
    have h3 : decide (x ≠ 0) = false := decide_eq_false (fun k => k h)
    rw [h3]
    clear h h3
    go_enter Try.func67, Try.ntmps67
    go_wp2
    go_ret
    exact ⟨by simp_all, Below.refl _ _⟩
  · have h2 : (x != 0) = true := bne_iff_ne.2 h
    have h3 : decide (x ≠ 0) = true := decide_eq_true h
    rw [h3]
    clear h h3
    go_enter Try.func67, Try.ntmps67
    go_wp2
    go_ret
    exact ⟨by simp_all, Below.refl _ _⟩
def ix : List Int → Int → Int
  | [], _ => -1
  | x :: l, i => if x ≠ 0 then i else ix l (i + 1)
theorem ix_hit {l : List Int} : ∀ (k : Nat) (i : Int), k < l.length → rd l (k : Int) ≠ 0 → (∀ j : Nat, j < k → rd l (j : Int) = 0) → ix l i = i + k := by
  induction l with
  | nil => intro k i h; simp at h
  | cons x l ih =>
    intro k i hk hp hj
    cases k with
    | zero => simp only [ix]; rw [if_pos (by simpa [rd] using hp)]; simp
    | succ k =>
      have h0 := hj 0 (by omega)
      simp only [ix]
      rw [if_neg (by have : x = 0 := by simpa [rd] using h0
                     exact fun k => k this)]
      have e : ∀ m : Nat, rd (x :: l) ((m + 1 : Nat) : Int) = rd l (m : Int) := fun m => by unfold rd; rw [Int.toNat_natCast, Int.toNat_natCast]; rfl
      rw [ih k (i + 1) (by simpa using hk) (by rw [← e]; exact hp) (fun j h => by rw [← e]; exact hj (j + 1) (by omega))]
      omega
theorem ix_miss {l : List Int} : ∀ (i : Int), (∀ j : Nat, j < l.length → rd l (j : Int) = 0) → ix l i = -1 := by
  induction l with
  | nil => intro i _; rfl
  | cons x l ih =>
    intro i hj
    have h0 := hj 0 (by simp)
    simp only [ix]
    rw [if_neg (by have : x = 0 := by simpa [rd] using h0
                   exact fun k => k this)]
    have e : ∀ m : Nat, rd (x :: l) ((m + 1 : Nat) : Int) = rd l (m : Int) := fun m => by unfold rd; rw [Int.toNat_natCast, Int.toNat_natCast]; rfl
    exact ih (i + 1) (fun j h => by rw [← e]; exact hj (j + 1) (by simp; omega))
set_option maxHeartbeats 2000000 in
theorem index.calls (A : Option Addr) (c : Nat) (L : List Int) (w : World) (hC : RowC w A L) :
    Calls Try.prog 100 #[.slice A L.length c, .func (.func 67) #[] #[]] w fun e w' => e = .returned (.int .i64 (ix L 0)) ∧ Below w.heap.size w w' := by
  have hbig : L.length ≤ 9223372036854775807 := hC.2.1
  have HC := Aside0.mk hC
  clear hC
  go_enter Try.func100, Try.ntmps100
  go_wp2
  go_loopg [5, 8] L.length (fun gg _ s8 wr => ∃ kk : Nat, kk ≤ L.length ∧ L.length - kk ≤ gg ∧ s8 = .int .i64 kk ∧ Below w.heap.size w wr ∧ Aside (∀ j : Nat, j < kk → rd L (j : Int) = 0))
  case atStart => exact ⟨0, Nat.zero_le _, by omega, rfl, Below.refl _ _, fun j hj => absurd hj (Nat.not_lt_zero _)⟩
  case round =>
    obtain ⟨kk, hkk, hg, rfl, hb, A0⟩ := hrel
    by_cases hlt : kk < L.length
    · have hltz : (kk : Int) < (L.length : Int) := by omega
      obtain ⟨ad, rfl, hcell⟩ := Kd.at_int (Kd.C_below HC.out hb) (kk : Int) (by omega) hltz
      obtain ⟨x, hy⟩ : ∃ x, rd L (kk : Int) = x := ⟨_, rfl⟩
      rw [Int.toNat_natCast, hy] at hcell
      by_cases hx : x = 0
      · have hcall := nz.calls x wr
        rw [decide_eq_false (fun k => k hx)] at hcall
        have YX := Aside0.mk (hy.trans hx)
        clear hy hx
        go_wp2_with (go_at_call 67; refine hcall.mono ?_; rintro e w' ⟨rfl, hb'⟩)
        go_roundg (L.length - (kk + 1))
        case measure => omega
        case rel =>
          refine ⟨kk + 1, by omega, by omega, by go_num, below_step hb hb', (show Aside _ from fun j hj => ?_)⟩
          by_cases e : j = kk
          · subst e; exact YX.out
          · exact A0.out j (by omega)
      · have hcall := nz.calls x wr
        rw [decide_eq_true hx] at hcall
        have YX := Aside0.mk (show rd L (kk : Int) ≠ 0 by rw [hy]; exact hx)
        clear hy hx
        go_wp2_with (go_at_call 67; refine hcall.mono ?_; rintro e w' ⟨rfl, hb'⟩)
        go_ret
        refine ⟨?_, below_step hb hb'⟩
        rw [ix_hit kk 0 hlt YX.out A0.out]
        simp
    · have hltz : ¬ (kk : Int) < (L.length : Int) := by omega
      go_wp2
      go_ret
      refine ⟨?_, hb⟩
      rw [ix_miss 0 (fun j h => A0.out j (by omega))]
      rfl
def any (L : List Int) : Bool := decide (0 ≤ ix L 0)
set_option maxHeartbeats 2000000 in
theorem any.calls (A : Option Addr) (c : Nat) (L : List Int) (w : World) (hC : RowC w A L) :
    Calls Try.prog 66 #[.slice A L.length c, .func (.func 67) #[] #[]] w fun e w' => e = .returned (.bool (any L)) ∧ Below w.heap.size w w' := by
  have hcon := index.calls A c L w hC
  unfold any
  generalize ix L 0 = r at hcon ⊢
  go_enter Try.func66, Try.ntmps66
  go_wp2_with (go_at_call 100; refine hcon.mono ?_; rintro e w' ⟨rfl, hb'⟩)
  go_ret
  exact ⟨rfl, hb'⟩
end Go.Proofs.Ytbfhinfblepidaa.Cb
namespace Go.Proofs.Ytbfhinfblepidaa.Cr
open Go.RowKit Go.Lib Go.Proofs.YtbfhinfblepidaaW.PrintWords Go.Proofs.YtbfhinfblepidaaW.PrintLast Go.Proofs.YtbfhinfblepidaaW.PrintMore Go.Proofs.Ytbfhinfblepidaa.Mt
set_option linter.unusedVariables false
set_option linter.unusedSimpArgs false
theorem info31 : (Try.prog.info? 31).map (fun i => (i.zero, i.size, i.bytes)) = some (some (.slice none 0 0), 1, 24) := by kernel_rfl
theorem nil_eq (A : Option Addr) (n c : Nat) (w : World) : (binOp .eql 28 (.slice A n c) (.slice none 0 0)).run Try.prog w = .ok (.bool A.isNone) w := by
  have e : ∃ d, Op.maxDepth = d + 1 := ⟨_, rfl⟩
  obtain ⟨d, hd⟩ := e
  cases A <;> simp [binOp, Op.equal, hd, Op.equalIn, run_underlying Try.underlying28]
set_option maxHeartbeats 2000000 in
theorem clone.calls (A : Option Addr) (c : Nat) (L : List (List Int)) (w : World) (hr : (Kd.slice 5 (Kd.int .u8)).C w A L.length L) (hbig : L.length < 2 ^ 40) :
    Calls Try.prog 68 #[.slice A L.length c] w fun e w' => ∃ A' c', e = .returned (.slice A' L.length c') ∧ L.length ≤ c' ∧ (Kd.slice 5 (Kd.int .u8)).C w' A' L.length L ∧ Below w.heap.size w w' := by
  cases A with
  | none =>
    have h0 : L = [] := by
      rcases Nat.eq_zero_or_pos L.length with h0 | h0
      · exact List.eq_nil_of_length_eq_zero h0
      · obtain ⟨ad, h, _⟩ := hr.2.2 h0
        cases h
    subst h0
    have hq := nil_eq none 0 c w
    have HR := Aside0.mk hr
    clear hr
    go_enter Try.func68, Try.ntmps68
    go_wp2
    go_ret
    exact ⟨none, 0, rfl, Nat.le_refl _, HR.out, Below.refl _ _⟩
  | some ad =>
    have HF := Aside0.mk (Kd.C_F (Kd.heap_slice 5 (Kd.heap_int .u8)) hr)
    clear hr
    have hq := nil_eq (some ad) L.length c w
    go_enter Try.func68, Try.ntmps68
    go_wp2_with (first | ((with_reducible refine gate_dst (N := 5) rfl ?_); refine Kd.R_lit (Kd.slice 5 (Kd.int .u8)) w.heap.size 31 ?hg (N := 5) ?hd (xs := ([] : List (List Int))) (inner := []) (ok := fun _ => True) (okp := fun _ => True) ?hr ?hp (fun _ hk => hk) trivial (Below.refl _ _) (Nat.le_refl _) (by simp) ?_; (case hd => rfl); (case hg => rfl); (case hr => first | (go_simp; done) | (go_simp; rfl)); (case hp => exact ⟨by simp, fun j x h => by simp at h⟩); intro v1 w1 ho hb hg hat; have HO := Aside0.mk (Kd.R_N ho); have HB := Aside0.mk hb; have HBS := Aside0.mk (Kd.R_base ho); have HF1 := Aside0.mk (Kd.F_below HF.out hb); clear ho hb hg hat) | ((with_reducible refine gate_builtin (b := .append) (xs := #[.tmp 5, .tmp 6]) rfl ?_); at_builtin; refine Kd.N_append_rows (Kd.slice 5 (Kd.int .u8)) (w0 := w) w.heap.size rfl (.tmp 5) (.tmp 6) 28 31 (.slice none 0 0) 24 rfl Try.underlying28 info31 rfl (by decide) (by omega) v1 ([] : List (List Int)) L _ _ _ (fun _ => True) (fun k => k < w.heap.size) rfl rfl ?aO ?aR (fun k hk => ⟨trivial, fun e => by have := HBS.out k e.symm; omega⟩) (fun _ _ => trivial) ?aB ?aS ?aL ?_; (case aR => exact HF1.out); (case aB => exact HB.out); (case aS => exact below_size HB.out); (case aL => simp only [List.length_nil]; omega); (case aO => exact HO.out); intro v2 w2 ho2 hb2 hg hat; rw [List.nil_append] at ho2; have HO2 := Aside0.mk ho2; have HB2 := Aside0.mk hb2; clear ho2 hb2 hg hat))
    go_ret
    obtain ⟨A', c', rfl, l', C'⟩ := Kd.N_reads HO2.out
    exact ⟨A', c', rfl, l', C', HB2.out⟩
end Go.Proofs.Ytbfhinfblepidaa.Cr
