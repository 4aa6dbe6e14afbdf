/- slices.Clone of rows: what it answers. Conditions: those that stand in the theorems. (Numbers: seat B.) -/
import Derived.Test.YtbfhinfblepidaaMt
namespace Go.Proofs.Ytbfhinfblepidaa.Cr
open Go.RowKit Go.Lib Go.Proofs.YtbfhinfblepidaaW.PrintWords Go.Proofs.YtbfhinfblepidaaW.PrintLast Go.Proofs.YtbfhinfblepidaaW.PrintMore Go.Proofs.Ytbfhinfblepidaa.Mt
set_option linter.unusedVariables false
set_option linter.unusedSimpArgs false
theorem info31 : (Try.prog.info? 31).map (fun i => (i.zero, i.size, i.bytes)) = some (some (.slice none 0 0), 1, 24) := by kernel_rfl
theorem nil_eq (A : Option Addr) (n c : Nat) (w : World) : (binOp .eql 28 (.slice A n c) (.slice none 0 0)).run Try.prog w = .ok (.bool A.isNone) w := by
  have e : ∃ d, Op.maxDepth = d + 1 := ⟨_, rfl⟩
  obtain ⟨d, hd⟩ := e
  cases A <;> simp [binOp, Op.equal, hd, Op.equalIn, run_underlying Try.underlying28]
set_option maxHeartbeats 2000000 in
theorem clone.calls (A : Option Addr) (c : Nat) (L : List (List Int)) (w : World) (hr : (Kd.slice 5 (Kd.int .u8)).C w A L.length L) (hbig : L.length < 2 ^ 40) :
    Calls Try.prog 68 #[.slice A L.length c] w fun e w' => ∃ A' c', e = .returned (.slice A' L.length c') ∧ L.length ≤ c' ∧ (Kd.slice 5 (Kd.int .u8)).C w' A' L.length L ∧ Below w.heap.size w w' := by
  cases A with
  | none =>
    have h0 : L = [] := by
      rcases Nat.eq_zero_or_pos L.length with h0 | h0
      · exact List.eq_nil_of_length_eq_zero h0
      · obtain ⟨ad, h, _⟩ := hr.2.2 h0
        cases h
    subst h0
    have hq := nil_eq none 0 c w
    have HR := Aside0.mk hr
    clear hr
    go_enter Try.func68, Try.ntmps68
    go_wp2
    go_ret
    exact ⟨none, 0, rfl, Nat.le_refl _, HR.out, Below.refl _ _⟩
  | some ad =>
    have HF := Aside0.mk (Kd.C_F (Kd.heap_slice 5 (Kd.heap_int .u8)) hr)
    clear hr
    have hq := nil_eq (some ad) L.length c w
    go_enter Try.func68, Try.ntmps68
    go_wp2_with (first | ((with_reducible refine gate_dst (N := 5) rfl ?_); refine Kd.R_lit (Kd.slice 5 (Kd.int .u8)) w.heap.size 31 ?hg (N := 5) ?hd (xs := ([] : List (List Int))) (inner := []) (ok := fun _ => True) (okp := fun _ => True) ?hr ?hp (fun _ hk => hk) trivial (Below.refl _ _) (Nat.le_refl _) (by simp) ?_; (case hd => rfl); (case hg => rfl); (case hr => first | (go_simp; done) | (go_simp; rfl)); (case hp => exact ⟨by simp, fun j x h => by simp at h⟩); intro v1 w1 ho hb hg hat; have HO := Aside0.mk (Kd.R_N ho); have HB := Aside0.mk hb; have HBS := Aside0.mk (Kd.R_base ho); have HF1 := Aside0.mk (Kd.F_below HF.out hb); clear ho hb hg hat) | ((with_reducible refine gate_builtin (b := .append) (xs := #[.tmp 5, .tmp 6]) rfl ?_); at_builtin; refine Kd.N_append_rows (Kd.slice 5 (Kd.int .u8)) (w0 := w) w.heap.size rfl (.tmp 5) (.tmp 6) 28 31 (.slice none 0 0) 24 rfl Try.underlying28 info31 rfl (by decide) (by omega) v1 ([] : List (List Int)) L _ _ _ (fun _ => True) (fun k => k < w.heap.size) rfl rfl ?aO ?aR (fun k hk => ⟨trivial, fun e => by have := HBS.out k e.symm; omega⟩) (fun _ _ => trivial) ?aB ?aS ?aL ?_; (case aR => exact HF1.out); (case aB => exact HB.out); (case aS => exact below_size HB.out); (case aL => simp only [List.length_nil]; omega); (case aO => exact HO.out); intro v2 w2 ho2 hb2 hg hat; rw [List.nil_append] at ho2; have HO2 := Aside0.mk ho2; have HB2 := Aside0.mk hb2; clear ho2 hb2 hg hat))
    go_ret
    obtain ⟨A', c', rfl, l', C'⟩ := Kd.N_reads HO2.out
    exact ⟨A', c', rfl, l', C', HB2.out⟩
end Go.Proofs.Ytbfhinfblepidaa.Cr
