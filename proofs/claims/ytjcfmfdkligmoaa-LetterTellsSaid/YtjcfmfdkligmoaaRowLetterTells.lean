/- The statement LetterTellsSaid: the call returns true and leaves its arguments as they were. No conditions. -/
import Derived.Lib.SmallJoins
import Derived.Test.YtjcfmfdkligmoaaOs
import Derived.Test.YtjcfmfdkligmoaaRows
import Derived.Test.YtjcfmfdkligmoaaLz
import Derived.Test.YtjcfmfdkligmoaaOp
import Derived.WalkKit
import Derived.ProofKit
import Derived.OpenShut
import Derived.ShutString
import Derived.ChangeOld
import Derived.Below
import Derived.SizedLaws
namespace Go.Proofs.Ytjcfmfdkligmoaa.letterTells
open Go.ChangeShapes Go.WideShapes Go.ChangeAt Go.RowKit Go.Proofs.YtjcfmfdkligmoaaW.PrintWords Go.Proofs.YtjcfmfdkligmoaaW.PrintLast Go.Proofs.YtjcfmfdkligmoaaW.PrintMore
open Go.ChangeMaps (open_string shut_string)
open Go.Joins
theorem own : ownKnob Try.prog.godebug = none := by kernel_rfl
theorem laidOut : laidOutB Try.prog = true := by kernel_rfl
set_option maxRecDepth 100000 in
theorem lifted (os : Os) (started : os.Started) (H : Type) (enc : TypeId × Value → H) :
    ReturnsInHanded {} Try.checked os 6 .any (Rows.letterTellsSpec.pre6 enc Try.prog Try.f6 Rows.letterTellsRow.domain false) (Rows.letterTellsSpec.post enc Try.prog Try.f6 false true false false) := by
  refine returnsInHanded_of_change_sized (C := Try.checked) own started (by kernel_rfl) Try.func6
    (ChangeSpec.witness6 (enc := enc) (C := Try.checked) false ⟨#[], #[.agg #[.int .i64 0, .int .i64 0, .int .i64 0, .int .i64 0, .int .i64 0, .int .i64 0, .slice none 0 0, .slice none 0 0], .slice none 0 0], []⟩ 8 (by kernel_rfl) (by kernel_rfl) (by kernel_rfl) (by kernel_rfl)) ?_
  intro W base args ds gs before hval0 hW _ hsz0 _
  have hsz : (DataW.weightsEach Try.prog (Try.f6.params.toList ++ Rows.letterTellsSpec.plain.varTypes Try.prog) (ds ++ gs)).all (· ≤ reachBytes) = true := hsz0
  have hval : ∀ (j : Nat) t v, Try.f6.params[j]? = some t → args[j]? = some v → Value.okWide Try.prog W .any base t v := hval0
  have hW' := hW
  obtain ⟨p, q, hA0, hV, rfl, _, _⟩ := hW
  have hA : DataW.TrodAll enc Try.prog W 0 (fun _ => true) true Try.f6.params.toList args.toList ds p := hA0
  rw [Try.params6] at hA hval hsz
  obtain ⟨v0, vs0, d0, ds0, p0, q0, hargs, rfl, rfl, h0, r0⟩ := trodAll_cons hA
  obtain ⟨v1, vs1, d1, ds1, p1, q1, rfl, rfl, rfl, h1, r1⟩ := trodAll_cons r0
  obtain ⟨rfl, rfl, rfl⟩ := trodAll_nil r1
  obtain rfl : args = #[v0, v1] := by cases args; simp_all
  obtain ⟨rfl, rfl⟩ := trodVars_none hV
  have lt0 : ∀ x ∈ p0, x.block < W.heap.size := by obtain ⟨m, hm⟩ := h0; exact DataW.trod_lt m _ _ _ hm
  have k0 := h0
  obtain ⟨cs0, rfl, _⟩ := okWide_struct Try.underlying45 (hval 0 45 v0 rfl rfl)
  obtain ⟨fu0, hf0⟩ := h0
  obtain ⟨a0, a1, a2, a3, a4, a5, A6, P, c6, A7, R, c7, ec0, C6, le6, C7, le7, _, g7, _, wf7⟩ := Os.open_letter hf0 (fun n hn => by have := List.all_eq_true.1 hsz n (DataW.weights_mem_each (j := 0) rfl rfl n hn); simpa using this)
  obtain rfl : cs0 = #[.int .i64 a0, .int .i64 a1, .int .i64 a2, .int .i64 a3, .int .i64 a4, .int .i64 a5, .slice A6 P.length c6, .slice A7 R.length c7] := Array.toList_inj.1 (by simpa [Value.cells] using ec0)
  have lt1 : ∀ x ∈ p1, x.block < W.heap.size := by obtain ⟨m, hm⟩ := h1; exact DataW.trod_lt m _ _ _ hm
  obtain ⟨Ab, n1, cb, rfl⟩ := okWide_slice Try.underlying26 (hval 1 26 v1 rfl rfl)
  obtain ⟨bs, rfl, Cb, leb, gb⟩ := Op.slice_arg (kd := (Kd.int .u8)) Try.underlying26 (by kernel_rfl) (Op.opens_int Try.underlying5) hsz (j := 1) rfl rfl h1
  clear hA0 hval0 hsz0 hsz
  have hb : Try.prog.bytesOf 28 = 96 := by kernel_rfl
  rw [hb] at g7
  have hr : R.length < 2 ^ 60 := by unfold reachBytes at g7; omega
  obtain ⟨k, LB, lv, X, fw, T, T2, l, l2, er, er2, g1, g2, g3, g4, g5, g6, g7, g8, g9, g10, g11, g12⟩ := Pure.LetterTells a0 a1 a2 a3 a4 a5 P R bs hr (fun x hx y hy => Op.wf_u8 (wf7 x hx y hy)) (fun y hy => Op.wf_u8 (gb.2 y hy))
  refine (Ls.tells.calls k LB lv a0 a1 a2 a3 a4 a5 A6 c6 P A7 c7 R Ab cb bs X fw T T2 l l2 er er2 W C6 le6 C7 le7 Cb leb g1 g2 g3 g4 g5 g6 g7 g8 g9 g10 g11 g12).mono fun e W' ⟨he, bel⟩ => ?_
  subst he
  exact ⟨_, rfl, _, _, _, [], _, [], hW', trodAll_mk1 (shut_bool Try.underlying4 _), (trodAll_cons_mk (Below.trod laidOut (by kernel_rfl) (of_decide_eq_true (by kernel_rfl)) k0 bel lt0) (trodAll_cons_mk (Below.trod laidOut (by kernel_rfl) (of_decide_eq_true (by kernel_rfl)) h1 bel lt1) trodAll_mk0)), rfl, bel.frame _, fun h => by cases h⟩
theorem over : Rows.letterTellsRow.holds Try.pinned (OpenSpec.ofChange Rows.letterTellsSpec) :=
  OpenClaim.holds_of_wide 6 Try.f6 rfl rfl rfl rfl rfl rfl rfl ⟨rfl, rfl, rfl, rfl, rfl⟩ rfl rfl rfl rfl rfl (by kernel_rfl) Try.func6 (by kernel_rfl)
    (of_decide_eq_true (by kernel_rfl)) (by unfold Func.isWrapper; first | (rw [if_pos (by decide +kernel)]; kernel_rfl) | (rw [if_neg (by decide +kernel)]; exact ⟨rfl, rfl⟩))
    (fun os started H enc _ => lifted os started H enc)
end Go.Proofs.Ytjcfmfdkligmoaa.letterTells
namespace Go.Proofs.Ytjcfmfdkligmoaa
theorem letterTells_holds : Rows.LetterTellsSaid := letterTells.over
end Go.Proofs.Ytjcfmfdkligmoaa
