/- The statement BlockSumsSaid: the call returns true and leaves its arguments as they were. No conditions. Printed by a program of this session's own (wip/tools/rowgen.py). -/
import Derived.Test.YtbfhinfblepidaaRows
import Derived.Test.YtbfhinfblepidaaBm
import Derived.Test.YtbfhinfblepidaaPureBlockSums
import Derived.Test.YtbfhinfblepidaaOp
import Derived.WalkKit
import Derived.ProofKit
import Derived.OpenShut
import Derived.ShutString
import Derived.ChangeOld
import Derived.Below
import Derived.SizedLaws
namespace Go.Proofs.Ytbfhinfblepidaa.blockSums
open Go.ChangeShapes Go.WideShapes Go.ChangeAt Go.RowKit Go.Proofs.YtbfhinfblepidaaW.PrintWords Go.Proofs.YtbfhinfblepidaaW.PrintLast Go.Proofs.YtbfhinfblepidaaW.PrintMore
open Go.ChangeMaps (open_string shut_string)
theorem own : ownKnob Try.prog.godebug = none := by kernel_rfl
theorem laidOut : laidOutB Try.prog = true := by kernel_rfl
set_option maxRecDepth 100000 in
theorem lifted (os : Os) (started : os.Started) (H : Type) (enc : TypeId × Value → H) :
    ReturnsInHanded {} Try.checked os 13 .any (Rows.blockSumsSpec.pre6 enc Try.prog Try.f13 Rows.blockSumsRow.domain false) (Rows.blockSumsSpec.post enc Try.prog Try.f13 false true false false) := by
  refine returnsInHanded_of_change_sized (C := Try.checked) own started (by kernel_rfl) Try.func13
    (ChangeSpec.witness6 (enc := enc) (C := Try.checked) false ⟨#[], #[.slice none 0 0, .slice none 0 0, .int .i64 0], []⟩ 8 (by kernel_rfl) (by kernel_rfl) (by kernel_rfl) (by kernel_rfl)) ?_
  intro W base args ds gs before hval0 hW _ hsz0 _
  have hsz : (DataW.weightsEach Try.prog (Try.f13.params.toList ++ Rows.blockSumsSpec.plain.varTypes Try.prog) (ds ++ gs)).all (· ≤ reachBytes) = true := hsz0
  have hval : ∀ (j : Nat) t v, Try.f13.params[j]? = some t → args[j]? = some v → Value.okWide Try.prog W .any base t v := hval0
  have hW' := hW
  obtain ⟨p, q, hA0, hV, rfl, _, _⟩ := hW
  have hA : DataW.TrodAll enc Try.prog W 0 (fun _ => true) true Try.f13.params.toList args.toList ds p := hA0
  rw [Try.params13] at hA hval hsz
  obtain ⟨v0, vs0, d0, ds0, p0, q0, hargs, rfl, rfl, h0, r0⟩ := trodAll_cons hA
  obtain ⟨v1, vs1, d1, ds1, p1, q1, rfl, rfl, rfl, h1, r1⟩ := trodAll_cons r0
  obtain ⟨v2, vs2, d2, ds2, p2, q2, rfl, rfl, rfl, h2, r2⟩ := trodAll_cons r1
  obtain ⟨rfl, rfl, rfl⟩ := trodAll_nil r2
  obtain rfl : args = #[v0, v1, v2] := by cases args; simp_all
  obtain ⟨rfl, rfl⟩ := trodVars_none hV
  have lt0 : ∀ x ∈ p0, x.block < W.heap.size := by obtain ⟨m, hm⟩ := h0; exact DataW.trod_lt m _ _ _ hm
  obtain ⟨a0, n0, c0, rfl⟩ := okWide_slice Try.underlying34 (hval 0 34 v0 rfl rfl)
  obtain ⟨l0, rfl, C0, le0, g0⟩ := Op.slice_arg (kd := (Kd.slice 5 (Kd.int .u8))) Try.underlying34 (by kernel_rfl) (Op.opens_slice Try.underlying30 (by kernel_rfl) (Op.opens_int Try.underlying5)) hsz (j := 0) rfl rfl h0
  have lt1 : ∀ x ∈ p1, x.block < W.heap.size := by obtain ⟨m, hm⟩ := h1; exact DataW.trod_lt m _ _ _ hm
  obtain ⟨a1, n1, c1, rfl⟩ := okWide_slice Try.underlying34 (hval 1 34 v1 rfl rfl)
  obtain ⟨l1, rfl, C1, le1, g1⟩ := Op.slice_arg (kd := (Kd.slice 5 (Kd.int .u8))) Try.underlying34 (by kernel_rfl) (Op.opens_slice Try.underlying30 (by kernel_rfl) (Op.opens_int Try.underlying5)) hsz (j := 1) rfl rfl h1
  obtain ⟨a2, rfl, rfl, rfl, w2⟩ := open_int Try.underlying3 (hval 2 3 v2 rfl rfl) h2
  clear hA0 hval0 hsz0 hsz
  obtain ⟨k, h⟩ := (Pure.BlockSums l0 ⟨Op.small g0.1 (of_decide_eq_true (by kernel_rfl)), fun y0 hy0 => ⟨Op.small (g0.2 y0 hy0).1 (of_decide_eq_true (by kernel_rfl)), fun y1 hy1 => (Op.wf_u8 ((g0.2 y0 hy0).2 y1 hy1))⟩⟩ l1 ⟨Op.small g1.1 (of_decide_eq_true (by kernel_rfl)), fun y0 hy0 => ⟨Op.small (g1.2 y0 hy0).1 (of_decide_eq_true (by kernel_rfl)), fun y1 hy1 => (Op.wf_u8 ((g1.2 y0 hy0).2 y1 hy1))⟩⟩ a2 (Op.wf_i64 w2)).rounds
  refine (Bm.fountainlaw10_BlockSums.calls k a0 c0 l0 a1 c1 l1 a2 true W C0 le0 C1 le1 h).mono fun e W' ⟨he, bel⟩ => ?_
  subst he
  exact ⟨_, rfl, _, _, _, [], _, [], hW', trodAll_mk1 (shut_bool Try.underlying4 _), (trodAll_cons_mk (Below.trod laidOut (by kernel_rfl) (of_decide_eq_true (by kernel_rfl)) h0 bel lt0) (trodAll_cons_mk (Below.trod laidOut (by kernel_rfl) (of_decide_eq_true (by kernel_rfl)) h1 bel lt1) (trodAll_cons_mk (shut_int Try.underlying3 w2) trodAll_mk0))), rfl, bel.frame _, fun h => by cases h⟩
theorem over : Rows.blockSumsRow.holds Try.pinned (OpenSpec.ofChange Rows.blockSumsSpec) :=
  OpenClaim.holds_of_wide 13 Try.f13 rfl rfl rfl rfl rfl rfl rfl ⟨rfl, rfl, rfl, rfl, rfl⟩ rfl rfl rfl rfl rfl (by kernel_rfl) Try.func13 (by kernel_rfl)
    (of_decide_eq_true (by kernel_rfl)) (by unfold Func.isWrapper; first | (rw [if_pos (by decide +kernel)]; kernel_rfl) | (rw [if_neg (by decide +kernel)]; exact ⟨rfl, rfl⟩))
    (fun os started H enc _ => lifted os started H enc)
end Go.Proofs.Ytbfhinfblepidaa.blockSums
namespace Go.Proofs.Ytbfhinfblepidaa
/-- The row, under a short name, for the claim. -/
theorem blockSums_holds : Rows.BlockSumsSaid := blockSums.over
end Go.Proofs.Ytbfhinfblepidaa
