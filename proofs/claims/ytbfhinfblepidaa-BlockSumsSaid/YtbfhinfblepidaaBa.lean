/- fountainlaw10.alive: true, if the program's blocks are what the document's example says. Conditions: those that stand in the theorems. -/
import Derived.Test.YtbfhinfblepidaaBn
import Derived.Test.YtbfhinfblepidaaAlSolveTells
import Derived.Test.YtbfhinfblepidaaXw
namespace Go.Proofs.Ytbfhinfblepidaa.Ba
open Go.RowKit Go.Lib Go.Proofs.Ytbfhinfblepidaa.PSolveTells Go.Proofs.Ytbfhinfblepidaa.PSeedTells Go.Proofs.Ytbfhinfblepidaa.PBlockTells Go.Proofs.YtbfhinfblepidaaW.PrintWords Go.Proofs.YtbfhinfblepidaaW.PrintLast Go.Proofs.YtbfhinfblepidaaW.PrintMore Go.Proofs.Ytbfhinfblepidaa.Mt Go.Proofs.Ytbfhinfblepidaa.Bs Go.Proofs.Ytbfhinfblepidaa.Bn
set_option linter.unusedVariables false
set_option linter.unusedSimpArgs false
theorem C0 (w : World) : (Kd.slice 5 (Kd.int .u8)).C w none ([] : List (List Int)).length [] := ⟨rfl, by simp, fun h => absurd h (Nat.lt_irrefl 0)⟩
theorem lit_row2 {w : World} (x y : Int) : RowC (w.alloc (.cells #[.int .u8 x, .int .u8 y] 5)) (some ⟨w.heap.size, 0, none⟩) [x, y] := by
 refine ⟨rfl, by simp, fun _ => ⟨_, rfl, fun j p hj => ?_⟩⟩
 cases j with
 | zero =>
  obtain rfl : x = p := by simpa using hj
  refine ⟨[.int .u8 x], rfl, rfl, fun i u hu => ?_⟩
  cases i with
  | succ i => simp at hu
  | zero =>
   obtain rfl : Value.int .u8 x = u := by simpa using hu
   exact (blk_cell (blk_new w _) 0).trans rfl
 | succ j => cases j with
  | succ j => simp at hj
  | zero =>
   obtain rfl : y = p := by simpa using hj
   refine ⟨[.int .u8 y], rfl, rfl, fun i u hu => ?_⟩
   cases i with
   | succ i => simp at hu
   | zero =>
    obtain rfl : Value.int .u8 y = u := by simpa using hu
    exact (blk_cell (blk_new w _) 1).trans rfl
set_option maxHeartbeats 8000000 in
set_option maxRecDepth 100000 in
theorem alive.calls (k : Nat) (j : Int) (P : List (List Int)) (w : World) (h1 : new.f k 1 [] = some (none, 1)) (h2 : new.f k 2 [[97, 98]] = some (some (1, 2, 2, j, P), 0)) (h3 : sym.f k 1 2 2 j 2 P 0 = some ([97, 98], 0)) :
 Calls Try.prog 46 #[] w fun e w' => e = .returned (.bool true) ∧ Below w.heap.size w w' := by
 have H1 := Aside0.mk h1
 have H2 := Aside0.mk h2
 have H3 := Aside0.mk h3
 have HB := Aside0.mk (Below.refl w.heap.size w)
 clear h1 h2 h3
 go_enter Try.func46, Try.ntmps46
 go_upto_region 2 with (go_at_call 47; (refine (new.calls k 1 none 0 [] _ _ (C0 _) (Nat.le_refl _) H1.out).mono ?_); rintro e w1 ⟨rfl, hb⟩; have n0_ := Aside0.mk (below_step HB.out hb); clear HB hb; have HB := n0_; clear n0_)
 go_upto_region 3 with (first | ((with_reducible refine gate_dst (N := 12) rfl ?_); refine Kd.R_lit (Kd.int .u8) _ 5 ?hg (N := 12) ?hd (xs := ([97, 98] : List Int)) (inner := [.int .u8 97, .int .u8 98]) (ok := fun _ => True) (okp := fun _ => True) ?hr ?hp (fun _ hk => hk) trivial (Below.refl _ _) (Nat.le_refl _) (by simp) ?_; (case hd => rfl); (case hg => rfl); (case hr => first | (go_simp; done) | (go_simp; rfl)); (case hp => exact (Reps.one (show Kd.M (Kd.int .u8) _ _ _ 97 [.int .u8 97] from rfl) (Reps.one (show Kd.M (Kd.int .u8) _ _ _ 98 [.int .u8 98] from rfl) (Reps.none _ _)))); intro v12 w2 ho hb hg_ hnew_; obtain ⟨A0, c0, rfl⟩ := Kd.R_slice ho; obtain ⟨w3, hcv_, hV, hB2, _⟩ := Xw.conv_bytes Try.underlying30 Try.underlying5 ho (by decide); have hcv : (convert 30 30 (.slice A0 2 c0)).run Try.prog w2 = .ok (.slice A0 2 c0) w3 := hcv_; clear hcv_; have CR := Aside0.mk (Kd.V_reads' hV).2.2; have CL := Aside0.mk (Kd.V_reads' hV).2.1; have n0_ := Aside0.mk (below_step HB.out (hb.trans hB2)); clear HB hb hB2 hV ho hg_ hnew_; have HB := n0_; clear n0_) | (go_at_call 47; (refine (new.calls k 2 _ 1 [[97, 98]] _ _ (AlSolveTells.lit_rows CR.out CL.out) (Nat.le_refl _) H2.out).mono ?_); rintro e w4 ⟨g, A, c, rfl, hg_, bx_, C_, lc_, hb⟩; have BX := Aside0.mk bx_; have CP := Aside0.mk C_; have LP := Aside0.mk lc_; have n0_ := Aside0.mk (below_step (show Below w.heap.size w _ from bel) hb); clear HB hb hg_ bx_ C_ lc_ hcv; have HB := n0_; clear n0_))
 go_upto_region 6 with (first | (go_at_call 49; (first | (with_reducible refine (fountainlaw10_num.calls 1 1 _ rfl).mono ?_) | (with_reducible refine (fountainlaw10_num.calls 0 0 _ rfl).mono ?_)); rintro e w' ⟨rfl, ⟨nd, rfl⟩⟩) | (go_at_call 50; (with_reducible refine (sym.calls k g 1 2 2 j 2 A c P 0 _ _ (blk_drewN BX.out _) (Kd.C_drewN CP.out _) LP.out H3.out).mono ?_); rintro e w5 ⟨Ar, cr, rfl, lr_, Cr_, hb⟩; have CR2 := Aside0.mk Cr_; have n1_ := Aside0.mk (blk_below (blk_drewN BX.out _) hb); have n0_ := Aside0.mk (below_step (show Below w.heap.size w _ from bel) hb); clear HB BX hb lr_ Cr_; have HB := n0_; have BX := n1_; clear n0_ n1_))
 have PL := Aside0.mk (show params_Params_L.f 1 2 2 = some 5 by unfold params_Params_L.f params_Params_W.f; simp only [Option.bind_some]; congr 1; unfold wrap64; omega)
 have hcv9n : ∀ m_ : Nat, (convert 31 9 (.slice Ar 2 cr)).run Try.prog (w5.drewN m_) = .ok (.string ⟨#[97, 98]⟩) (w5.drewN m_) := fun m_ => Kd.C_string (P := Try.prog) (A := Ar) (c := cr) Try.underlying31 Try.underlying5 Try.underlying9 (Kd.C_drewN CR2.out m_)
 have s0 : w5.cell? ⟨g, 0, none⟩ = some (.int .i64 1) := (blk_cell BX.out 0).trans rfl
 have s1 : w5.cell? ⟨g, 1, none⟩ = some (.int .i64 2) := (blk_cell BX.out 1).trans rfl
 have s2 : w5.cell? ⟨g, 2, none⟩ = some (.int .i64 2) := (blk_cell BX.out 2).trans rfl
 go_wp2_with (first | (go_at_call 49; (with_reducible refine (fountainlaw10_num.calls 0 0 _ rfl).mono ?_); rintro e w' ⟨rfl, ⟨nd, rfl⟩⟩) | (go_at_call 22; (with_reducible refine (params_Params_L.calls 1 2 2 5 _ PL.out).mono ?_); rintro e w6 ⟨rfl, hb⟩; have n1_ := Aside0.mk (blk_below (blk_drewN BX.out _) hb); have n0_ := Aside0.mk (below_step (show Below w.heap.size w _ from bel) hb); clear HB BX hb; have HB := n0_; have BX := n1_; clear n0_ n1_) | (go_at_call 53; (with_reducible refine (size.calls g 1 2 2 j 2 A c P.length _ BX.out).mono ?_); rintro e w7 ⟨rfl, hb⟩; have n0_ := Aside0.mk (below_step (show Below w.heap.size w _ from bel) hb); clear HB hb; have HB := n0_; clear n0_))
 go_ret
 exact ⟨rfl, HB.out⟩
end Go.Proofs.Ytbfhinfblepidaa.Ba
