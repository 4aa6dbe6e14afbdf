/- The statement BlockSourceSaid: the call returns true and leaves its arguments as they were. No conditions. Printed by a program of this session's own (wip/tools/rowgen.py). -/
import Derived.Test.YtbfhinfblepidaaRows
import Derived.Test.YtbfhinfblepidaaBo
import Derived.Test.YtbfhinfblepidaaPureBlockSource
import Derived.Test.YtbfhinfblepidaaOp
import Derived.WalkKit
import Derived.ProofKit
import Derived.OpenShut
import Derived.ShutString
import Derived.ChangeOld
import Derived.Below
import Derived.SizedLaws
namespace Go.Proofs.Ytbfhinfblepidaa.blockSource
open Go.ChangeShapes Go.WideShapes Go.ChangeAt Go.RowKit Go.Proofs.YtbfhinfblepidaaW.PrintWords Go.Proofs.YtbfhinfblepidaaW.PrintLast Go.Proofs.YtbfhinfblepidaaW.PrintMore
open Go.ChangeMaps (open_string shut_string)
theorem own : ownKnob Try.prog.godebug = none := by kernel_rfl
theorem laidOut : laidOutB Try.prog = true := by kernel_rfl
set_option maxRecDepth 100000 in
theorem lifted (os : Os) (started : os.Started) (H : Type) (enc : TypeId × Value → H) :
    ReturnsInHanded {} Try.checked os 12 .any (Rows.blockSourceSpec.pre6 enc Try.prog Try.f12 Rows.blockSourceRow.domain false) (Rows.blockSourceSpec.post enc Try.prog Try.f12 false true false false) := by
  refine returnsInHanded_of_change_sized (C := Try.checked) own started (by kernel_rfl) Try.func12
    (ChangeSpec.witness6 (enc := enc) (C := Try.checked) false ⟨#[], #[.slice none 0 0], []⟩ 8 (by kernel_rfl) (by kernel_rfl) (by kernel_rfl) (by kernel_rfl)) ?_
  intro W base args ds gs before hval0 hW _ hsz0 _
  have hsz : (DataW.weightsEach Try.prog (Try.f12.params.toList ++ Rows.blockSourceSpec.plain.varTypes Try.prog) (ds ++ gs)).all (· ≤ reachBytes) = true := hsz0
  have hval : ∀ (j : Nat) t v, Try.f12.params[j]? = some t → args[j]? = some v → Value.okWide Try.prog W .any base t v := hval0
  have hW' := hW
  obtain ⟨p, q, hA0, hV, rfl, _, _⟩ := hW
  have hA : DataW.TrodAll enc Try.prog W 0 (fun _ => true) true Try.f12.params.toList args.toList ds p := hA0
  rw [Try.params12] at hA hval hsz
  obtain ⟨v0, vs0, d0, ds0, p0, q0, hargs, rfl, rfl, h0, r0⟩ := trodAll_cons hA
  obtain ⟨rfl, rfl, rfl⟩ := trodAll_nil r0
  obtain rfl : args = #[v0] := by cases args; simp_all
  obtain ⟨rfl, rfl⟩ := trodVars_none hV
  have lt0 : ∀ x ∈ p0, x.block < W.heap.size := by obtain ⟨m, hm⟩ := h0; exact DataW.trod_lt m _ _ _ hm
  obtain ⟨a0, n0, c0, rfl⟩ := okWide_slice Try.underlying34 (hval 0 34 v0 rfl rfl)
  obtain ⟨l0, rfl, C0, le0, g0⟩ := Op.slice_arg (kd := (Kd.slice 5 (Kd.int .u8))) Try.underlying34 (by kernel_rfl) (Op.opens_slice Try.underlying30 (by kernel_rfl) (Op.opens_int Try.underlying5)) hsz (j := 0) rfl rfl h0
  clear hA0 hval0 hsz0 hsz
  obtain ⟨k, h⟩ := (Pure.BlockSource l0 ⟨Op.small g0.1 (of_decide_eq_true (by kernel_rfl)), fun y0 hy0 => ⟨Op.small (g0.2 y0 hy0).1 (of_decide_eq_true (by kernel_rfl)), fun y1 hy1 => (Op.wf_u8 ((g0.2 y0 hy0).2 y1 hy1))⟩⟩).rounds
  refine (Bo.fountainlaw10_BlockSource.calls k a0 c0 l0 true W C0 le0 h).mono fun e W' ⟨he, bel⟩ => ?_
  subst he
  exact ⟨_, rfl, _, _, _, [], _, [], hW', trodAll_mk1 (shut_bool Try.underlying4 _), (trodAll_cons_mk (Below.trod laidOut (by kernel_rfl) (of_decide_eq_true (by kernel_rfl)) h0 bel lt0) trodAll_mk0), rfl, bel.frame _, fun h => by cases h⟩
theorem over : Rows.blockSourceRow.holds Try.pinned (OpenSpec.ofChange Rows.blockSourceSpec) :=
  OpenClaim.holds_of_wide 12 Try.f12 rfl rfl rfl rfl rfl rfl rfl ⟨rfl, rfl, rfl, rfl, rfl⟩ rfl rfl rfl rfl rfl (by kernel_rfl) Try.func12 (by kernel_rfl)
    (of_decide_eq_true (by kernel_rfl)) (by unfold Func.isWrapper; first | (rw [if_pos (by decide +kernel)]; kernel_rfl) | (rw [if_neg (by decide +kernel)]; exact ⟨rfl, rfl⟩))
    (fun os started H enc _ => lifted os started H enc)
end Go.Proofs.Ytbfhinfblepidaa.blockSource
namespace Go.Proofs.Ytbfhinfblepidaa
/-- The row, under a short name, for the claim. -/
theorem blockSource_holds : Rows.BlockSourceSaid := blockSource.over
end Go.Proofs.Ytbfhinfblepidaa
