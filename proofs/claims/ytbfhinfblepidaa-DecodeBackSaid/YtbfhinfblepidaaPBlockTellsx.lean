/- Written by a program (this session's own): functions that the law reaches, as plain Lean functions, each with the proof that the code comes to it. No conditions but those that stand in the theorems. -/
import Derived.Test.YtbfhinfblepidaaPq
import Derived.Test.YtbfhinfblepidaaPSolveTellsx
import Derived.Test.YtbfhinfblepidaaPSeedTellsx
import Derived.Test.YtbfhinfblepidaaProg
import Derived.Below
import Derived.Deep.Draws
import Derived.Deep.AppendLies
import Derived.Maps.AppendAt
import Derived.OwnWalk
import Derived.Laws.BytesArg
import Derived.Laws.MakeOwn
import Derived.Laws.OwnMore
import Derived.Deep.OwnRows
import Derived.Tactics
import Derived.Lib.ConvBytes
import Derived.Laws.Slices
import Derived.WalkKit
import Derived.KernelRfl
import Derived.RowKit3
import Derived.Deep.LoopGhost
import Derived.Deep.QuietTactic
import Derived.BigQuiet
import Derived.WideLaws
import Derived.Deep.DeepCutAuto
import Derived.Deep.CutBlock
import Derived.Deep.RegionHeld3
import Derived.Laws.Rows
import Derived.Lib.AppendStr
import Derived.ArgAppend
import Derived.Laws.IdiomCopy
import Derived.OrdersHeld
import Derived.Laws.BitsLemmas
import Derived.RowKit
import Derived.Test.YtbfhinfblepidaaWWords
import Derived.Test.YtbfhinfblepidaaPa
set_option maxHeartbeats 8000000
set_option maxRecDepth 100000
namespace Go.Proofs.Ytbfhinfblepidaa.PBlockTells
open Go.RowKit Go.Proofs.YtbfhinfblepidaaW.PrintWords Go.Proofs.YtbfhinfblepidaaW.PrintLast Go.Proofs.YtbfhinfblepidaaW.PrintMore Go.Proofs.Ytbfhinfblepidaa.PSolveTells Go.Proofs.Ytbfhinfblepidaa.PSeedTells
attribute [local go_sem] max2_int min2_int max_two min_two max_three min_three max_four min_four
set_option linter.unusedVariables false
set_option linter.unusedSimpArgs false
end Go.Proofs.Ytbfhinfblepidaa.PBlockTells
namespace Go.Proofs.Ytbfhinfblepidaa.PBlockTells
open Go.RowKit Go.Proofs.YtbfhinfblepidaaW.PrintWords Go.Proofs.YtbfhinfblepidaaW.PrintLast Go.Proofs.YtbfhinfblepidaaW.PrintMore Go.Proofs.Ytbfhinfblepidaa.PSolveTells Go.Proofs.Ytbfhinfblepidaa.PSeedTells
attribute [local go_sem] max2_int min2_int max_two min_two max_three min_three max_four min_four
set_option linter.unusedVariables false
set_option linter.unusedSimpArgs false
noncomputable def block_Parts.f (k : Nat) (a0_0 : Int) (a0_1 : Int) (a0_2 : Int) (a1 : Int) (a2 : Int) (l3 : List Int) (l4 : List (List Int)) : Option ((List (List Int)) × Int) := if 0 ≤ (wrap64 (a0_1 + a0_2)) then (if (wrap64 (a0_1 + a0_2) : Int).toNat ≤ 11728124029610 then ((some (List.replicate (wrap64 (a0_1 + a0_2) : Int).toNat [] : List (List Int))).bind fun y285 => ((params_Params_L.f a0_0 a0_1 a0_2).bind fun t288 => ((precode_Matrix.f k a0_0 a0_1 a0_2 a1 l3).bind fun t289 => (if y285.length + l4.length < 5864062014805 then ((Pz.solve.f t288 a2 t289 (y285 ++ l4)).bind fun bt295 => (some (bt295.1, bt295.2))) else (none))))) else (none)) else (none)
def block_Parts.T2 : Bool × List (List Nat × List Nat) := (true, [([], []), ([0], [0]), ([], []), ([], []), ([], []), ([], []), ([3, 4, 5, 1], [3, 4, 5]), ([], []), ([], []), ([7, 8, 6], [7, 8]), ([1, 2, 6, 9, 9], [1, 2, 6, 9]), ([10], [10]), ([10], [10]), ([11, 10, 0, 1, 2, 3, 4, 5, 6, 7, 8, 9, 10, 11, 12], [11]), ([12, 13, 0, 1, 2, 3, 4, 5, 6, 7, 8, 9, 10, 11, 12, 13], [12])])
def block_Parts.B2 : List Nat := [0, 1, 0, 0, 0, 0, 59, 0, 0, 507, 1023, 2047, 2047, 8191, 16383]
theorem block_Parts.tab2 : rtab .any (opsOf Try.f82 2) = block_Parts.T2 := by kernel_rfl
theorem block_Parts.bits2 : waitsOk block_Parts.T2.2 block_Parts.B2 = true := by kernel_rfl
theorem block_Parts.calls (k : Nat) (a0_0 : Int) (a0_1 : Int) (a0_2 : Int) (a1 : Int) (a2 : Int) (A3 : Option Addr) (c3 : Nat) (l3 : List Int) (P4_ : Nat → Prop) (A4 : Option Addr) (c4 : Nat) (l4 : List (List Int)) (r1 : List (List Int)) (r2 : Int) (w : World) (hr3 : Kd.C (Kd.int .i64) w A3 l3.length l3) (hc3 : l3.length ≤ c3) (hs4 : Kd.V (Kd.slice 5 (Kd.int .u8)) 31 w w.heap.size (fun k_ => P4_ k_) (.slice A4 l4.length c4) l4) (h : block_Parts.f k a0_0 a0_1 a0_2 a1 a2 l3 l4 = some (r1, r2)) :
 Calls Try.prog 82 #[.agg #[.int .i64 a0_0, .int .i64 a0_1, .int .i64 a0_2], .int .i64 a1, .int .i64 a2, .slice A3 l3.length c3, .slice A4 l4.length c4] w fun e w' => ∃ v0_ : Value, e = .returned (.tuple #[v0_, .int .i64 r2]) ∧ Kd.V (Kd.slice 5 (Kd.int .u8)) 31 w' w.heap.size (fun _ => True) v0_ r1 ∧ Below w.heap.size w w' := by
 have hu24 := Try.underlying24
 have HR3 := zA hr3
 have HC3 := zA hc3
 clear hr3 hc3
 have HO4 := zA (show Kd.V (Kd.slice 5 (Kd.int .u8)) 31 w w.heap.size (fun k_ => (P4_ k_ ∨ w.heap.size ≤ k_)) (.slice A4 l4.length c4) l4 from Kd.V_mono hs4 (fun k_ hk => .inl hk))
 have HB := zA (Below.refl w.heap.size w)
 have H : (if 0 ≤ (wrap64 (a0_1 + a0_2)) then (if (wrap64 (a0_1 + a0_2) : Int).toNat ≤ 11728124029610 then ((some (List.replicate (wrap64 (a0_1 + a0_2) : Int).toNat [] : List (List Int))).bind fun y285 => ((params_Params_L.f a0_0 a0_1 a0_2).bind fun t288 => ((precode_Matrix.f k a0_0 a0_1 a0_2 a1 l3).bind fun t289 => (if y285.length + l4.length < 5864062014805 then ((Pz.solve.f t288 a2 t289 (y285 ++ l4)).bind fun bt295 => (some (bt295.1, bt295.2))) else (none))))) else (none)) else (none)) = some (r1, r2) := h
 clear h
 obtain ⟨ji6, hji6⟩ : ∃ j_ : Int, (wrap64 (a0_1 + a0_2)) = j_ := ⟨_, rfl⟩
 replace H : (if 0 ≤ (ji6) then (if (ji6 : Int).toNat ≤ 11728124029610 then ((some (List.replicate (ji6 : Int).toNat [] : List (List Int))).bind fun y285 => ((params_Params_L.f a0_0 a0_1 a0_2).bind fun t288 => ((precode_Matrix.f k a0_0 a0_1 a0_2 a1 l3).bind fun t289 => (if y285.length + l4.length < 5864062014805 then ((Pz.solve.f t288 a2 t289 (y285 ++ l4)).bind fun bt295 => (some (bt295.1, bt295.2))) else (none))))) else (none)) else (none)) = some (r1, r2) := by first | (rw [hji6] at H; exact H) | (simp only [hji6] at H ⊢; exact H)
 have hji6w : (IntKind.i64.wrap (a0_1 + a0_2)) = ji6 := (i64_w _).trans hji6
 by_cases c7 : 0 ≤ (ji6)
 ·rw [if_pos c7] at H
  have c7b0 := eq_true c7
  have c7b1 : decide (0 ≤ (ji6)) = true := decide_eq_true c7
  clear c7
  by_cases c8 : (ji6 : Int).toNat ≤ 11728124029610
  ·rw [if_pos c8] at H
   have c8b0 := eq_true c8
   have c8b1 : decide ((ji6 : Int).toNat ≤ 11728124029610) = true := decide_eq_true c8
   clear c8
   obtain ⟨y285, hy285⟩ : ∃ y_ : List (List Int), y_ = (List.replicate (ji6 : Int).toNat []) := ⟨_, rfl⟩
   replace H : ((params_Params_L.f a0_0 a0_1 a0_2).bind fun t288 => ((precode_Matrix.f k a0_0 a0_1 a0_2 a1 l3).bind fun t289 => (if y285.length + l4.length < 5864062014805 then ((Pz.solve.f t288 a2 t289 (y285 ++ l4)).bind fun bt295 => (some (bt295.1, bt295.2))) else (none)))) = some (r1, r2) := zC H hy285
   have Ny285 := zA hy285
   clear hy285
   replace H := Option.bind_eq_some_iff.mp H
   obtain ⟨t288, A90, H⟩ := H
   try dsimp only at H
   have A9 := zA A90
   clear A90
   replace H := Option.bind_eq_some_iff.mp H
   obtain ⟨t289, A100, H⟩ := H
   try dsimp only at H
   have A10 := zA A100
   clear A100
   by_cases c11 : y285.length + l4.length < 5864062014805
   ·rw [if_pos c11] at H
    have LMc11 := zA c11
    clear c11
    obtain ⟨y292, hy292⟩ : ∃ y_ : List (List Int), y_ = (y285 ++ l4) := ⟨_, rfl⟩
    replace H : ((Pz.solve.f t288 a2 t289 y292).bind fun bt295 => (some (bt295.1, bt295.2))) = some (r1, r2) := zC H hy292
    have Ny292 := zA hy292
    clear hy292
    replace H := Option.bind_eq_some_iff.mp H
    obtain ⟨⟨t295, t296⟩, A120, H⟩ := H
    try dsimp only at H
    have A12 := zA A120
    clear A120
    simp only [Option.some.injEq, Prod.mk.injEq] at H
    obtain ⟨rfl, rfl⟩ := H
    go_enter Try.func82, Try.ntmps82
    try go_wp2_with (first | ((with_reducible refine gate_dst (N := 5) rfl ?_); refine box_event ?hg (N := 5) ?hd (cs := #[.int .i64 a0_0, .int .i64 a0_1, .int .i64 a0_2]) (t := 24) ?hr ?_; (case hd => rfl); (case hg => rfl); (case hr => first | (go_simp; done) | (go_simp; rfl)); intro gb284 hg w13 hbox hb; replace HO4 := zA (Kd.V_below (Kd.V_elderB (V_g HO4.out) gb284 (Nat.le_of_eq hg.symm)) hb); have BK284 := zA (hbox); have GW284 := zA ((by rw [hg]; exact bels : w.heap.size ≤ gb284)); have GE284 := zA ((by rw [hg]; exact bels : w.heap.size ≤ gb284)); replace HB := zA (belt hb); clear hb hbox hg; obtain ⟨hcz14_0, hcz14_1, hcz14_2, hfz14_0, hfz14_1, hfz14_2⟩ := box3 BK284.out) | ((with_reducible refine gate_dst (N := 18) rfl ?_); refine Kd.N_make (Kd.slice 5 (Kd.int .u8)) _ 31 rfl (N' := 18) rfl 28 _ _ rfl ji6 rfl rfl Try.underlying28 (.slice none 0 0) 24 info31 rfl (by decide) (by omega) [] (ok := fun k_ => w13.heap.size ≤ k_) (okp := fun _ => False) (Kd.FK_slice_mk (Nat.le_refl _) (Kd.F_nil _ _ _)) (fun _ hk => hk.elim) (Nat.le_refl _) (of_decide_eq_true asu) (Nat.le_trans (Nat.mul_le_mul_right _ (of_decide_eq_true asu : ji6.toNat ≤ 11728124029610)) (by omega)) (Below.refl _ _) (Nat.le_refl _) ?_; intro v286 w15 ho16 hb hg_ hnew_; clear hg_ hnew_; (first | rw [← Ny285.out] at ho16 | (simp only [Int.reduceToNat] at ho16; rw [← Ny285.out] at ho16)); replace HO4 := zA (Kd.V_elder' (V_g HO4.out) (by first | exact Kd.N_base ho16 | exact Kd.N_base (Kd.S_N ho16)) hb); have HO287 := zA (Kd.N_lower (Kd.N_mono (ok' := fun k_ => (P4_ k_ ∨ w.heap.size ≤ k_) ∧ k_ ≠ gb284) ho16 (fun k_ hk_ => ⟨(.inr (Nat.le_trans bels hk_)), (Kd.freshB (g := gb284) (o := .cells #[.int .i64 a0_0, .int .i64 a0_1, .int .i64 a0_2] 24 (0, 0)) (blk_g BK284.out) k_ hk_)⟩)) bels); replace BK284 := zA (blk_below (g := gb284) (o := .cells #[.int .i64 a0_0, .int .i64 a0_1, .int .i64 a0_2] 24 (0, 0)) (blk_g BK284.out) hb); replace HB := zA (belt hb); clear hb ho16))
    replace HO4 := zA (Kd.V_drew HO4.out)
    replace HO287 := zA (Kd.N_drew HO287.out)
    replace BK284 := zA (blk_drew BK284.out)
    replace HB := zA (below_drew1 HB.out)
    refine start_ (n := 15) (S := fun w' => w'.cell? ⟨gb284, 0, none⟩ = some (.int .i64 a0_0) ∧ w'.cell? ⟨gb284, 1, none⟩ = some (.int .i64 a0_1) ∧ w'.cell? ⟨gb284, 2, none⟩ = some (.int .i64 a0_2)) (ds := []) (ms 15 0) (by kernel_rfl) rfl rfl ⟨(blk_cell BK284.out 0).trans rfl, (blk_cell BK284.out 1).trans rfl, (blk_cell BK284.out 2).trans rfl⟩ (fun hHeld => ?_); refine with_tabW block_Parts.tab2 block_Parts.bits2 (fun HT_ HW_ => ?_)
    generalize w15.drew = w17 at HO4 HO287 BK284 HB hHeld ⊢
    refine run_ [(2, false, some 21), (4, false, some 23), (5, false, some 24), (7, false, some 26), (8, false, some 27), (0, true, some 19), (3, true, some 22)] (n := 7) (ms 15 445) rfl HT_.out HW_.out (by kernel_rfl) (fun _ _ _ _ h => h) hHeld ?_
    repeat (first | (refine Run.p (v := ?_) (a' := ?_) rfl rfl (Or.inl ⟨by rfl, ?_⟩) ?_ ?_; rotate_left; (focus intro w'; go_simp; with_reducible rfl); rotate_left; (focus simp only [Act.put, sx]; rfl)) | (refine Run.t (v := ?_) (a' := ?_) rfl rfl (Or.inl ⟨by rfl, ?_⟩) ?_ ?_; rotate_left; (focus rintro w' ⟨s0, s1, s2⟩; go_simp; with_reducible rfl); rotate_left; (focus simp only [Act.put, sx]; rfl)))
    refine Run.nil ?_
    refine one_ (i := 1) (N := some 20) (ms 15 447) rfl rfl (one_of HT_.out (by kernel_rfl)) (by decide) (fun K hK => ?_)
    refine goes_ Try.func22 (by kernel_rfl) rfl #[.agg #[.int .i64 a0_0, .int .i64 a0_1, .int .i64 a0_2]] (by rfl) rfl rfl agl ?_
    with_reducible refine (params_Params_L.calls a0_0 a0_1 a0_2 t288 _ A9.out).mono ?_
    rintro e w18 ⟨rfl, hb⟩
    refine ⟨_, rfl, ?_⟩
    replace HO4 := zA (Kd.V_below (V_g HO4.out) hb)
    replace HO287 := zA (Kd.N_below (N_g HO287.out) hb)
    replace BK284 := zA (blk_below (g := gb284) (o := .cells #[.int .i64 a0_0, .int .i64 a0_1, .int .i64 a0_2] 24 (0, 0)) (blk_g BK284.out) hb)
    replace HB := zA (belt hb)
    (try clear hb)
    (try clear hb2)
    (try clear hk)
    (try clear hi)
    refine hK.out _ _ ⟨(blk_cell BK284.out 0).trans rfl, (blk_cell BK284.out 1).trans rfl, (blk_cell BK284.out 2).trans rfl⟩ (fun hHeld => ?_)
    clear hK K
    refine norm_ (a' := ?_) ?_ ?_
    rotate_left
    ·show Act.put _ (some 20) _ = _
     simp only [Act.put, sx]
     rfl
    refine one_ (i := 6) (N := some 25) (ms 15 511) rfl rfl (one_of HT_.out (by kernel_rfl)) (by decide) (fun K hK => ?_)
    refine goes_ Try.func38 (by kernel_rfl) rfl #[.agg #[.int .i64 a0_0, .int .i64 a0_1, .int .i64 a0_2], .int .i64 a1, .slice A3 l3.length c3] (by rfl) rfl rfl agl ?_
    with_reducible refine (precode_Matrix.calls k a0_0 a0_1 a0_2 a1 _ _ l3 t289 _ ?side1 ?side2 A10.out).mono ?_
    (case side1 => repeat (first | exact (Kd.C_below HR3.out HB.out) | (with_reducible refine Kd.C_alloc ?_ _) | (with_reducible refine Kd.C_drewN ?_ _) | (with_reducible refine Kd.C_drew ?_)))
    (case side2 => exact HC3.out)
    rintro e w19 ⟨v290, rfl, ho0, hb⟩
    refine ⟨_, rfl, ?_⟩
    replace HO4 := zA (Kd.V_elder' (V_g HO4.out) (by first | exact Kd.N_base ho0 | exact Kd.N_base (Kd.S_N ho0)) hb)
    have HO291 := zA (Kd.N_lower (Kd.N_mono (ok' := fun k_ => (P4_ k_ ∨ w.heap.size ≤ k_) ∧ some k_ ≠ (v286 : Value).ownBlock ∧ k_ ≠ gb284) ho0 (fun k_ hk_ => ⟨(.inr (Nat.le_trans bels hk_)), (Kd.fresh' (Kd.N_lt (N_g HO287.out)) k_ hk_), (Kd.freshB (g := gb284) (o := .cells #[.int .i64 a0_0, .int .i64 a0_1, .int .i64 a0_2] 24 (0, 0)) (blk_g BK284.out) k_ hk_)⟩)) bels)
    replace HO287 := zA (Kd.N_elder' (N_g HO287.out) (by first | exact Kd.N_base ho0 | exact Kd.N_base (Kd.S_N ho0)) hb)
    replace BK284 := zA (blk_below (g := gb284) (o := .cells #[.int .i64 a0_0, .int .i64 a0_1, .int .i64 a0_2] 24 (0, 0)) (blk_g BK284.out) hb)
    replace HB := zA (belt hb)
    (try clear hb)
    (try clear hb2)
    (try clear hk)
    (try clear hi)
    (try clear ho0)
    refine hK.out _ _ ⟨(blk_cell BK284.out 0).trans rfl, (blk_cell BK284.out 1).trans rfl, (blk_cell BK284.out 2).trans rfl⟩ (fun hHeld => ?_)
    clear hK K
    refine norm_ (a' := ?_) ?_ ?_
    rotate_left
    ·show Act.put _ (some 25) _ = _
     simp only [Act.put, sx]
     rfl
    refine one_ (i := 9) (N := some 28) (ms 15 1023) rfl rfl (one_of HT_.out (by kernel_rfl)) (by decide) (fun K hK => ?_)
    refine Kd.N_append_rows_step (Kd.slice 5 (Kd.int .u8)) (w0 := w) w.heap.size (by rfl) (.tmp 26) (.tmp 27) 28 31 (.slice none 0 0) 24 rfl Try.underlying28 info31 rfl (by decide) (by omega) v286 y285 l4 _ _ _ (fun k_ => (P4_ k_ ∨ w.heap.size ≤ k_) ∧ some k_ ≠ (v290 : Value).ownBlock ∧ k_ ≠ gb284) (fun k_ => ((fun k_ => (P4_ k_ ∨ w.heap.size ≤ k_) ∧ some k_ ≠ (v290 : Value).ownBlock ∧ k_ ≠ gb284)) k_ ∧ some k_ ≠ (v286 : Value).ownBlock) rfl rfl ?aO ?aR (fun _ hk => hk) ?aF ?aB ?aS ?aL ?_
    (case aR => exact (by skip; exact Kd.V_F (Kd.V_mono (ok' := (fun k_ => ((fun k_ => (P4_ k_ ∨ w.heap.size ≤ k_) ∧ some k_ ≠ (v290 : Value).ownBlock ∧ k_ ≠ gb284)) k_ ∧ some k_ ≠ (v286 : Value).ownBlock)) (HO4.out) (fun k_ hk => ⟨⟨hk.1.1.1, ⟨hk.2, hk.1.1.2⟩⟩, hk.1.2⟩))))
    (case aB => exact bel)
    (case aF => exact (fun k_ hk => ⟨(.inr (Nat.le_trans bels hk)), Kd.fresh' (Kd.N_lt (N_g HO291.out)) k_ hk, Kd.freshB (g := gb284) (o := .cells #[.int .i64 a0_0, .int .i64 a0_1, .int .i64 a0_2] 24 (0, 0)) (blk_g BK284.out) k_ hk⟩))
    (case aO => exact (N_g (Kd.N_mono HO287.out (fun _ hk => ⟨hk.1.1, ⟨hk.2, hk.1.2⟩⟩))))
    (case aS => exact bels)
    (case aL => have := LMc11.out; omega)
    intro v293 w20 ho hb hg hat
    rw [← Ny292.out] at ho
    replace HO4 := zA (Kd.V_afterv (ok := (fun k_ => (P4_ k_ ∨ w.heap.size ≤ k_) ∧ some k_ ≠ (v290 : Value).ownBlock ∧ k_ ≠ gb284)) (V_g (Kd.V_mono HO4.out (fun _ hk => ⟨⟨hk.1.1.1, ⟨hk.2, hk.1.1.2⟩⟩, hk.1.2⟩))) hg hat)
    replace BK284 := zA (blk_grown (g := gb284) (o := .cells #[.int .i64 a0_0, .int .i64 a0_1, .int .i64 a0_2] 24 (0, 0)) (blk_g BK284.out) hg (Kd.N_ne HO287.out BK284.out (by decide)))
    replace HO291 := zA (Kd.N_afterv (ok := (fun k_ => (P4_ k_ ∨ w.heap.size ≤ k_) ∧ k_ ≠ gb284)) (N_g (Kd.N_mono HO291.out (fun _ hk => ⟨⟨hk.1, hk.2.2⟩, hk.2.1⟩))) hg hat)
    replace HB := zA (hb)
    have HO294 := zA (ho)
    clear HO287
    clear ho hb hg hat
    obtain ⟨Ao21, co21, eo21⟩ := Kd.N_slice HO291.out
    (first | subst eo21 | (injection eo21 with f1_ f2_ f3_; have f4_ := f1_.symm; have f5_ := f3_.symm; clear f1_ f2_ f3_; subst f4_; subst f5_))
    obtain ⟨Ao22, co22, eo22⟩ := Kd.N_slice HO294.out
    (first | subst eo22 | (injection eo22 with f1_ f2_ f3_; have f4_ := f1_.symm; have f5_ := f3_.symm; clear f1_ f2_ f3_; subst f4_; subst f5_))
    refine hK.out _ _ ⟨(blk_cell BK284.out 0).trans rfl, (blk_cell BK284.out 1).trans rfl, (blk_cell BK284.out 2).trans rfl⟩ (fun hHeld => ?_)
    clear hK K
    refine norm_ (a' := ?_) ?_ ?_
    rotate_left
    ·show Act.put _ (some 28) _ = _
     simp only [Act.put, sx]
     rfl
    refine one_ (i := 10) (N := some 29) (ms 15 2047) rfl rfl (one_of HT_.out (by kernel_rfl)) (by decide) (fun K hK => ?_)
    refine goes_ Try.func26 (by kernel_rfl) rfl #[.int .i64 t288, .int .i64 a2, .slice Ao21 t289.length co21, .slice Ao22 y292.length co22] (by rfl) rfl rfl agl ?_
    with_reducible refine (Pz.solve.calls t288 a2 _ _ t289 _ _ y292 t295 t296 _ ?side1 ?side2 ?side3 ?side4 A12.out).mono ?_
    (case side1 => repeat (first | exact (Kd.N_reads' HO291.out).2.2 | (with_reducible refine Kd.C_alloc ?_ _) | (with_reducible refine Kd.C_drewN ?_ _) | (with_reducible refine Kd.C_drew ?_)))
    (case side2 => exact (Kd.N_reads' HO291.out).2.1)
    (case side3 => repeat (first | exact (Kd.N_reads' HO294.out).2.2 | (with_reducible refine Kd.C_alloc ?_ _) | (with_reducible refine Kd.C_drewN ?_ _) | (with_reducible refine Kd.C_drew ?_)))
    (case side4 => exact (Kd.N_reads' HO294.out).2.1)
    rintro e w23 ⟨v297, rfl, ho0, hb⟩
    refine ⟨_, rfl, ?_⟩
    have n0_ := zA (Kd.V_below (V_g HO4.out) hb)
    have n1_ := zA (Kd.N_below (N_g HO291.out) hb)
    have n2_ := zA (Kd.N_below (N_g HO294.out) hb)
    have n3_ := zA ho0
    have n4_ := zA (blk_below (g := gb284) (o := .cells #[.int .i64 a0_0, .int .i64 a0_1, .int .i64 a0_2] 24 (0, 0)) (blk_g BK284.out) hb)
    have n5_ := zA (belt hb)
    clear HO4
    clear HO291
    clear HO294
    clear BK284
    clear HB
    have HO4 := n0_
    have HO291 := n1_
    have HO294 := n2_
    have HO298 := n3_
    have BK284 := n4_
    have HB := n5_
    clear n0_ n1_ n2_ n3_ n4_ n5_
    (try clear hb)
    (try clear hb2)
    (try clear hk)
    (try clear hi)
    (try clear ho0)
    refine hK.out _ _ ⟨(blk_cell BK284.out 0).trans rfl, (blk_cell BK284.out 1).trans rfl, (blk_cell BK284.out 2).trans rfl⟩ (fun hHeld => ?_)
    clear hK K
    refine norm_ (a' := ?_) ?_ ?_
    rotate_left
    ·show Act.put _ (some 29) _ = _
     simp only [Act.put, sx]
     rfl
    refine run_ [(11, false, some 30), (12, false, some 31), (13, false, some 10), (14, false, some 11)] (n := 4) (ms 15 32767) rfl HT_.out HW_.out (by kernel_rfl) (fun _ _ _ _ h => h) hHeld ?_
    repeat (refine Run.p (v := ?_) (a' := ?_) rfl rfl (Or.inl ⟨by rfl, ?_⟩) ?_ ?_; rotate_left; (focus intro w'; go_simp; with_reducible rfl); rotate_left; (focus simp only [Act.put, sx]; rfl))
    refine Run.nil ?_
    refine done_ (done_of HT_.out (by kernel_rfl)) ?_
    try go_wp2
    go_ret2
    exact ⟨_, by first | rfl | (simp [errW_none, errW_some] <;> rfl) | (simp only [← hji6]; first | rfl | (simp [errW_none, errW_some] <;> rfl)) | (simp [*, errW_none, errW_some] <;> rfl), by (with_reducible repeat (first | apply Kd.V_alloc | apply Kd.V_drewN | apply Kd.V_drew)); exact Kd.V_mono HO298.out (fun _ hk => trivial), bel⟩
   ·rw [if_neg c11] at H
    exact absurd H (by simp)
  ·rw [if_neg c8] at H
   exact absurd H (by simp)
 ·rw [if_neg c7] at H
  exact absurd H (by simp)
end Go.Proofs.Ytbfhinfblepidaa.PBlockTells
namespace Go.Proofs.Ytbfhinfblepidaa.PBlockTells
open Go.RowKit Go.Proofs.YtbfhinfblepidaaW.PrintWords Go.Proofs.YtbfhinfblepidaaW.PrintLast Go.Proofs.YtbfhinfblepidaaW.PrintMore Go.Proofs.Ytbfhinfblepidaa.PSolveTells Go.Proofs.Ytbfhinfblepidaa.PSeedTells
attribute [local go_sem] max2_int min2_int max_two min_two max_three min_three max_four min_four
set_option linter.unusedVariables false
set_option linter.unusedSimpArgs false
mutual
noncomputable def drops_Drop.j0 : Nat → Int → List (List Int) → List Int → Bool → Option (List Int)
 | 0, _, _, _, _ => none
 | k + 1, x2, x3, x11, x36 => if x36 = true then (some ([] : List Int)) else (drops_Drop.l0 k x2 x3 ([] : List (List Int)) x11 (x11.length : Int) 0)
noncomputable def drops_Drop.l0 : Nat → Int → List (List Int) → List (List Int) → List Int → Int → Int → Option (List Int)
 | 0, _, _, _, _, _, _ => none
 | k + 1, x2, x3, x12, x37, x38, x39 => if x39 < x38 then (if 0 ≤ x39 then (if x39 < (x37.length : Int) then (if 0 ≤ (rd x37 x39) then (if (rd x37 x39) < (x3.length : Int) then (if x12.length < 5864062014805 then (drops_Drop.l0 k x2 x3 (x12 ++ [rd_L1 x3 (rd x37 x39)]) x37 x38 (wrap64 (x39 + 1))) else (none)) else (none)) else (none)) else (none)) else (none)) else ((rows_Sum.f k x2 x12).bind fun t309 => (some t309))
end
noncomputable def drops_Drop.f (k : Nat) (a0_0 : Int) (a0_1 : Int) (a0_2 : Int) (a1 : Int) (a2 : Int) (l3 : List (List Int)) (a4 : Int) : Option (List Int) := (tuple_Parts.f k a0_0 a0_1 a0_2 a1 a4).bind fun t300 => (if (t300.length : Int) = 0 then (drops_Drop.j0 k a2 l3 t300 true) else ((params_Params_L.f a0_0 a0_1 a0_2).bind fun t303 => (if (l3.length : Int) = t303 then (if a2 < 1 then (drops_Drop.j0 k a2 l3 t300 true) else (drops_Drop.j0 k a2 l3 t300 (decide (a2 > 64)))) else (drops_Drop.j0 k a2 l3 t300 true))))
theorem drops_Drop.calls (k : Nat) (a0_0 : Int) (a0_1 : Int) (a0_2 : Int) (a1 : Int) (a2 : Int) (P3_ : Nat → Prop) (A3 : Option Addr) (c3 : Nat) (l3 : List (List Int)) (a4 : Int) (r : List Int) (w : World) (hs3 : Kd.V (Kd.slice 5 (Kd.int .u8)) 31 w w.heap.size (fun k_ => P3_ k_) (.slice A3 l3.length c3) l3) (h : drops_Drop.f k a0_0 a0_1 a0_2 a1 a2 l3 a4 = some r) :
 Calls Try.prog 84 #[.agg #[.int .i64 a0_0, .int .i64 a0_1, .int .i64 a0_2], .int .i64 a1, .int .i64 a2, .slice A3 l3.length c3, .int .i64 a4] w fun e w' => ∃ v0_ : Value, e = .returned (v0_) ∧ Kd.R (Kd.int .u8) 5 w' w.heap.size (fun k_ => (w.heap.size ≤ k_)) v0_ r ∧ Below w.heap.size w w' := by
 have hu24 := Try.underlying24
 have HO3 := zA (show Kd.V (Kd.slice 5 (Kd.int .u8)) 31 w w.heap.size (fun k_ => (P3_ k_ ∨ w.heap.size ≤ k_)) (.slice A3 l3.length c3) l3 from Kd.V_mono hs3 (fun k_ hk => .inl hk))
 have HB := zA (Below.refl w.heap.size w)
 have H : ((tuple_Parts.f k a0_0 a0_1 a0_2 a1 a4).bind fun t300 => (if (t300.length : Int) = 0 then (drops_Drop.j0 k a2 l3 t300 true) else ((params_Params_L.f a0_0 a0_1 a0_2).bind fun t303 => (if (l3.length : Int) = t303 then (if a2 < 1 then (drops_Drop.j0 k a2 l3 t300 true) else (drops_Drop.j0 k a2 l3 t300 (decide (a2 > 64)))) else (drops_Drop.j0 k a2 l3 t300 true))))) = some r := h
 clear h
 replace H := Option.bind_eq_some_iff.mp H
 obtain ⟨t300, A60, H⟩ := H
 try dsimp only at H
 have A6 := zA A60
 clear A60
 have HC7 := zA H
 clear H
 go_enter Try.func84, Try.ntmps84
 go_upto_region 2 with (first | ((with_reducible refine gate_dst (N := 5) rfl ?_); (try (refine gate_guard (by rfl) ?_; dsimp only)); refine box_event ?hg (N := 5) ?hd (cs := #[.int .i64 a0_0, .int .i64 a0_1, .int .i64 a0_2]) (t := 24) ?hr ?_; (case hd => rfl); (case hg => rfl); (case hr => first | (go_simp; done) | (go_simp; rfl)); intro gb299 hg w8 hbox hb; replace HO3 := zA (Kd.V_below (Kd.V_elderB (V_g HO3.out) gb299 (Nat.le_of_eq hg.symm)) hb); have BK299 := zA (hbox); have GW299 := zA ((by rw [hg]; exact bels : w.heap.size ≤ gb299)); have GE299 := zA ((by rw [hg]; exact bels : w.heap.size ≤ gb299)); replace HB := zA (belt hb); clear hb hbox hg; obtain ⟨hcz9_0, hcz9_1, hcz9_2, hfz9_0, hfz9_1, hfz9_2⟩ := box3 BK299.out) | ((with_reducible refine gate_callee (f := 104) rfl ?_); refine goesL_ (some 18) rfl rfl Try.func104 (by kernel_rfl) rfl #[.agg #[.int .i64 a0_0, .int .i64 a0_1, .int .i64 a0_2], .int .i64 a1, .int .i64 a4] rfl agl ?_; (with_reducible refine (tuple_Parts.calls k a0_0 a0_1 a0_2 a1 a4 t300 _ A6.out).mono ?_); rintro e w10 ⟨v301, rfl, ho0, hb⟩; refine ⟨_, rfl, ?_⟩; replace HO3 := zA (Kd.V_elder' (V_g HO3.out) (Kd.R_base ho0) hb); have HO302 := zA (Kd.R_lower (Kd.R_newM (M := fun k_ => (w.heap.size ≤ k_)) ho0 bels (fun k_ h_ => h_)) bels); replace BK299 := zA (blk_below (g := gb299) (o := .cells #[.int .i64 a0_0, .int .i64 a0_1, .int .i64 a0_2] 24 (0, 0)) (blk_g BK299.out) hb); replace HB := zA (belt hb)))
 (try simp only [Act.put, List.setIfInBounds_toArray, List.set_cons_zero, List.set_cons_succ])
 go_cut [36] (fun v36 wc => ∃ (kq : Nat) (x36_6 : Bool), v36 = .bool x36_6 ∧ Aside0 (drops_Drop.j0 kq a2 l3 t300 x36_6 = some r) ∧ Aside0 (kq ≤ k) ∧ Aside0 (Kd.V (Kd.slice 5 (Kd.int .u8)) 31 wc w.heap.size (fun k_ => (P3_ k_ ∨ w.heap.size ≤ k_) ∧ some k_ ≠ (v301 : Value).ownBlock ∧ k_ ≠ gb299) (.slice A3 l3.length c3) l3) ∧ Aside0 (Kd.R (Kd.int .i64) 3 wc w.heap.size (fun k_ => (w.heap.size ≤ k_)) v301 t300) ∧ Aside0 (wc.heap[gb299]? = some (.cells #[.int .i64 a0_0, .int .i64 a0_1, .int .i64 a0_2] 24 (0, 0))) ∧ Aside0 (Below w.heap.size w wc))
 case first =>
  have H := HC7.out
  clear HC7
  by_cases c11 : (t300.length : Int) = 0
  ·rw [if_pos c11] at H
   have c11b0 : ((t300.length : Int) == 0) = true := beq_iff_eq.mpr c11
   have c11b1 : ((t300.length : Int) != 0) = false := bne_eq_false_iff_eq.mpr c11
   clear c11
   (first | rw [c11b0] | (simp only [i64_w, i32_w]; rw [c11b0]) | skip)
   have H' := zA H
   clear H
   obtain ⟨Ao12, co12, eo12⟩ := Kd.R_slice HO302.out
   subst eo12
   go_wp2
   go_meet
   case rel => exact ⟨_, (true), frs, H', ⟨by first | omega | exact Nat.le_refl _⟩, ⟨by (with_reducible repeat (first | apply Kd.V_alloc | apply Kd.V_drewN | apply Kd.V_drew)); exact Kd.V_mono HO3.out (fun _ hk => ⟨hk.1.1, ⟨hk.2, hk.1.2⟩⟩)⟩, ⟨by (with_reducible repeat (first | apply Kd.R_alloc | apply Kd.R_drewN | apply Kd.R_drew)); exact Kd.R_mono HO302.out (fun _ hk => hk.1)⟩, ⟨rdB BK299.out⟩, ⟨bel⟩⟩
  ·rw [if_neg c11] at H
   have c11b0 : ((t300.length : Int) == 0) = false := beq_eq_false_iff_ne.mpr c11
   have c11b1 : ((t300.length : Int) != 0) = true := bne_iff_ne.mpr c11
   have c11b2 : ¬ (t300 = []) := fun h_ => c11 (by rw [h_]; rfl)
   (first | rw [c11b0] | (simp only [i64_w, i32_w]; rw [c11b0]) | skip)
   replace H := Option.bind_eq_some_iff.mp H
   obtain ⟨t303, A130, H⟩ := H
   try dsimp only at H
   have A13 := zA A130
   clear A130
   by_cases c14 : (l3.length : Int) = t303
   ·rw [if_pos c14] at H
    have c14b0 : ((l3.length : Int) == t303) = true := beq_iff_eq.mpr c14
    have c14b1 : ((l3.length : Int) != t303) = false := bne_eq_false_iff_eq.mpr c14
    clear c14
    by_cases c15 : a2 < 1
    ·rw [if_pos c15] at H
     have c15b0 : decide (a2 < 1) = true := decide_eq_true c15
     clear c15
     have H' := zA H
     clear H
     obtain ⟨Ao16, co16, eo16⟩ := Kd.R_slice HO302.out
     subst eo16
     obtain ⟨hcz17_0, hcz17_1, hcz17_2, hfz17_0, hfz17_1, hfz17_2⟩ := box3 BK299.out
     go_wp2_with (first | (go_at_call 22; (with_reducible refine (params_Params_L.calls a0_0 a0_1 a0_2 t303 _ A13.out).mono ?_); rintro e w18 ⟨rfl, hb⟩; replace HO3 := zA (Kd.V_below (V_g HO3.out) hb); replace HO302 := zA (Kd.R_below (R_g HO302.out) hb); replace BK299 := zA (blk_below (g := gb299) (o := .cells #[.int .i64 a0_0, .int .i64 a0_1, .int .i64 a0_2] 24 (0, 0)) (blk_g BK299.out) hb); replace HB := zA (belt hb)))
     go_meet
     case rel => exact ⟨_, (true), frs, H', ⟨by first | omega | exact Nat.le_refl _⟩, ⟨by (with_reducible repeat (first | apply Kd.V_alloc | apply Kd.V_drewN | apply Kd.V_drew)); exact Kd.V_mono HO3.out (fun _ hk => ⟨hk.1.1, ⟨hk.2, hk.1.2⟩⟩)⟩, ⟨by (with_reducible repeat (first | apply Kd.R_alloc | apply Kd.R_drewN | apply Kd.R_drew)); exact Kd.R_mono HO302.out (fun _ hk => hk.1)⟩, ⟨rdB BK299.out⟩, ⟨bel⟩⟩
    ·rw [if_neg c15] at H
     have c15b0 : decide (a2 < 1) = false := decide_eq_false c15
     clear c15
     have H' := zA H
     clear H
     obtain ⟨Ao19, co19, eo19⟩ := Kd.R_slice HO302.out
     subst eo19
     obtain ⟨hcz20_0, hcz20_1, hcz20_2, hfz20_0, hfz20_1, hfz20_2⟩ := box3 BK299.out
     go_wp2_with (first | (go_at_call 22; (with_reducible refine (params_Params_L.calls a0_0 a0_1 a0_2 t303 _ A13.out).mono ?_); rintro e w21 ⟨rfl, hb⟩; replace HO3 := zA (Kd.V_below (V_g HO3.out) hb); replace HO302 := zA (Kd.R_below (R_g HO302.out) hb); replace BK299 := zA (blk_below (g := gb299) (o := .cells #[.int .i64 a0_0, .int .i64 a0_1, .int .i64 a0_2] 24 (0, 0)) (blk_g BK299.out) hb); replace HB := zA (belt hb)))
     go_meet
     case rel => exact ⟨_, (decide (a2 > 64)), frs, H', ⟨by first | omega | exact Nat.le_refl _⟩, ⟨by (with_reducible repeat (first | apply Kd.V_alloc | apply Kd.V_drewN | apply Kd.V_drew)); exact Kd.V_mono HO3.out (fun _ hk => ⟨hk.1.1, ⟨hk.2, hk.1.2⟩⟩)⟩, ⟨by (with_reducible repeat (first | apply Kd.R_alloc | apply Kd.R_drewN | apply Kd.R_drew)); exact Kd.R_mono HO302.out (fun _ hk => hk.1)⟩, ⟨rdB BK299.out⟩, ⟨bel⟩⟩
   ·rw [if_neg c14] at H
    have c14b0 : ((l3.length : Int) == t303) = false := beq_eq_false_iff_ne.mpr c14
    have c14b1 : ((l3.length : Int) != t303) = true := bne_iff_ne.mpr c14
    have H' := zA H
    clear H
    obtain ⟨Ao22, co22, eo22⟩ := Kd.R_slice HO302.out
    subst eo22
    obtain ⟨hcz23_0, hcz23_1, hcz23_2, hfz23_0, hfz23_1, hfz23_2⟩ := box3 BK299.out
    go_wp2_with (first | (go_at_call 22; (with_reducible refine (params_Params_L.calls a0_0 a0_1 a0_2 t303 _ A13.out).mono ?_); rintro e w24 ⟨rfl, hb⟩; replace HO3 := zA (Kd.V_below (V_g HO3.out) hb); replace HO302 := zA (Kd.R_below (R_g HO302.out) hb); replace BK299 := zA (blk_below (g := gb299) (o := .cells #[.int .i64 a0_0, .int .i64 a0_1, .int .i64 a0_2] 24 (0, 0)) (blk_g BK299.out) hb); replace HB := zA (belt hb)))
    go_meet
    case rel => exact ⟨_, (true), frs, H', ⟨by first | omega | exact Nat.le_refl _⟩, ⟨by (with_reducible repeat (first | apply Kd.V_alloc | apply Kd.V_drewN | apply Kd.V_drew)); exact Kd.V_mono HO3.out (fun _ hk => ⟨hk.1.1, ⟨hk.2, hk.1.2⟩⟩)⟩, ⟨by (with_reducible repeat (first | apply Kd.R_alloc | apply Kd.R_drewN | apply Kd.R_drew)); exact Kd.R_mono HO302.out (fun _ hk => hk.1)⟩, ⟨rdB BK299.out⟩, ⟨bel⟩⟩
 case rest =>
  clear HC7
  obtain ⟨kq, x36_6, rfl, HA, HJ6, HO_3, HO_11, BK299, HB⟩ := hcut
  cases kq with
  | zero => exact absurd HA.out (by simp [drops_Drop.j0])
  | succ kj6 =>
   have H := HA.out
   clear HA
   simp only [drops_Drop.j0] at H
   by_cases c25 : x36_6 = true
   ·subst c25
    have H1 : (some ([] : List Int)) = some r := by rw [if_pos rfl] at H; exact H
    clear H
    have H := H1
    clear H1
    obtain rfl := Option.some.inj H
    go_wp2
    go_ret
    exact ⟨_, by first | rfl | (simp [errW_none, errW_some] <;> rfl) | (simp [*, errW_none, errW_some] <;> rfl), by first | exact Kd.R_nil _ _ _ _ _ | exact Kd.N_nil _ _ _ _ _ | exact Kd.V_nil _ _ _ _ _ | exact Kd.Q_nil _ _ _ _ _ | exact Kd.S_nil _ _ _ _ _, bel⟩
   ·replace c25 := Bool.eq_false_iff.mpr c25
    subst c25
    have H1 : (drops_Drop.l0 kj6 a2 l3 ([] : List (List Int)) t300 (t300.length : Int) 0) = some r := by rw [if_neg (show ¬ (false = true) by decide)] at H; exact H
    clear H
    have H := H1
    clear H1
    have H' := zA H
    clear H
    obtain ⟨Ao26, co26, eo26⟩ := Kd.R_slice HO_11.out
    subst eo26
    go_wp2
    go_loopg [12, 39] kj6 (fun kq v12 v39 w' => ∃ (x12_2 : List (List Int)) (x39_2 : Int), v39 = .int .i64 x39_2 ∧ Aside0 (drops_Drop.l0 kq a2 l3 x12_2 t300 (t300.length : Int) x39_2 = some r) ∧ Aside0 (kq ≤ kj6) ∧ Aside0 (Kd.V (Kd.slice 5 (Kd.int .u8)) 31 w' w.heap.size (fun k_ => (P3_ k_ ∨ w.heap.size ≤ k_) ∧ some k_ ≠ (v12 : Value).ownBlock ∧ some k_ ≠ ((.slice Ao26 t300.length co26) : Value).ownBlock ∧ k_ ≠ gb299) (.slice A3 l3.length c3) l3) ∧ Aside0 (Kd.N (Kd.slice 5 (Kd.int .u8)) 31 w' w.heap.size (fun k_ => (P3_ k_ ∨ w.heap.size ≤ k_) ∧ some k_ ≠ ((.slice Ao26 t300.length co26) : Value).ownBlock ∧ k_ ≠ gb299) v12 x12_2) ∧ Aside0 (Kd.R (Kd.int .i64) 3 w' w.heap.size (fun k_ => (w.heap.size ≤ k_)) (.slice Ao26 t300.length co26) t300) ∧ Aside0 (w'.heap[gb299]? = some (.cells #[.int .i64 a0_0, .int .i64 a0_1, .int .i64 a0_2] 24 (0, 0))) ∧ Aside0 (Below w.heap.size w w'))
    case atStart => exact ⟨(([] : List (List Int))), (0), frs, H', ⟨Nat.le_refl _⟩, ⟨by (with_reducible repeat (first | apply Kd.V_alloc | apply Kd.V_drewN | apply Kd.V_drew)); exact Kd.V_mono HO_3.out (fun _ hk => ⟨hk.1, ⟨(by simp [Value.ownBlock]), ⟨hk.2.1, hk.2.2⟩⟩⟩)⟩, ⟨by first | exact Kd.S_nil _ _ _ _ _ | exact Kd.N_nil _ _ _ _ _ | exact Kd.V_nil _ _ _ _ _ | exact Kd.Q_nil _ _ _ _ _ | exact Kd.R_nil _ _ _ _ _⟩, ⟨rdR HO_11.out⟩, ⟨rdB BK299.out⟩, ⟨bel⟩⟩
    case round =>
     clear H'
     obtain ⟨x12_2, x39_2, rfl, HA, HK2, HO_3, HO_12, HO_37, BK299, HB⟩ := hrel
     cases gk with
     | zero => exact absurd HA.out (by simp [drops_Drop.l0])
     | succ k2 =>
      have H := HA.out
      clear HA
      simp only [drops_Drop.l0] at H
      by_cases c27 : x39_2 < (t300.length : Int)
      ·rw [if_pos c27] at H
       have c27b0 : decide (x39_2 < (t300.length : Int)) = true := decide_eq_true c27
       clear c27
       by_cases c28 : 0 ≤ x39_2
       ·rw [if_pos c28] at H
        have c28b0 : decide (0 ≤ x39_2) = true := decide_eq_true c28
        clear c28
        by_cases c29 : x39_2 < (t300.length : Int)
        ·rw [if_pos c29] at H
         have c29b0 : decide (x39_2 < (t300.length : Int)) = true := decide_eq_true c29
         clear c29
         by_cases c30 : 0 ≤ (rd t300 x39_2)
         ·rw [if_pos c30] at H
          have c30b0 : decide (0 ≤ (rd t300 x39_2)) = true := decide_eq_true c30
          clear c30
          by_cases c31 : (rd t300 x39_2) < (l3.length : Int)
          ·rw [if_pos c31] at H
           have c31b0 : decide ((rd t300 x39_2) < (l3.length : Int)) = true := decide_eq_true c31
           clear c31
           by_cases c32 : x12_2.length < 5864062014805
           ·rw [if_pos c32] at H
            have LMc32 := zA c32
            clear c32
            obtain ⟨y306, hy306⟩ : ∃ y_ : List (List Int), y_ = (x12_2 ++ [rd_L1 l3 (rd t300 x39_2)]) := ⟨_, rfl⟩
            replace H : (drops_Drop.l0 k2 a2 l3 y306 t300 (t300.length : Int) (wrap64 (x39_2 + 1))) = some r := zC H hy306
            have Ny306 := zA hy306
            clear hy306
            have H' := zA H
            clear H
            have p304 : 0 ≤ (x39_2 : Int) := of_decide_eq_true asu
            have q304 : x39_2 < (t300.length : Int) := of_decide_eq_true asu
            obtain ⟨ad304, e304, hx304_0⟩ := Kd.at_int (Kd.R_reads' HO_37.out).2.2 x39_2 p304 q304
            cases e304
            replace p304 := eq_true p304
            replace q304 := eq_true q304
            have p305 : 0 ≤ ((rd t300 x39_2) : Int) := of_decide_eq_true asu
            have q305 : (rd t300 x39_2) < (l3.length : Int) := of_decide_eq_true asu
            obtain ⟨ad305, A305_0, c305_0, e305, hx305_0, hl305_0, hi305_0⟩ := at_L1 (Kd.V_reads' HO_3.out).2.2 (rd t300 x39_2) p305 q305
            cases e305
            obtain ⟨ce305, hce305, hMe305, hcc305⟩ := Kd.V_get HO_3.out [] (rd t300 x39_2) p305 (by first | exact q305 | exact of_decide_eq_true asu | (have e_ := (Kd.V_reads' HO_3.out).1; omega))
            obtain ⟨ua305_0, uc305_0, rfl, ul305_0, ge305_0⟩ := Kd.FK_slice_open hMe305
            have hv305_0 := hcc305 0 _ rfl
            rw [Nat.add_zero, show ((Kd.slice 5 (Kd.int .u8))).sz = 1 from rfl, Nat.mul_one] at hv305_0
            replace hv305_0 := Option.some.inj (hv305_0.symm.trans hx305_0)
            injection hv305_0 with hva_ hvn_ hvc_
            rw [hva_] at ge305_0
            rw [hvc_] at ul305_0
            have HL305_0 := zA (show Kd.V (Kd.int .u8) 5 _ w.heap.size _ _ (rd_L1 l3 (rd t300 x39_2)) from Kd.V_mk ul305_0 ge305_0)
            clear hva_ hvn_ hvc_ ge305_0 ul305_0
            clear hcc305 hce305
            have HR305_0 := zA hi305_0
            have HC305_0 := zA hl305_0
            clear hi305_0 hl305_0
            replace p305 := eq_true p305
            replace q305 := eq_true q305
            go_wp2_with (first | ((with_reducible refine gate_builtin (b := .append) (xs := #[.tmp 43, .tmp 48]) rfl ?_); (try (refine gate_guard (by rfl) ?_; dsimp only)); at_builtin; refine Kd.N_append (Kd.slice 5 (Kd.int .u8)) (w0 := w) w.heap.size rfl (.tmp 43) (.tmp 48) 28 31 (.slice none 0 0) 24 rfl Try.underlying28 info31 rfl (by decide) (by omega) u12 x12_2 (rd_L1 l3 (rd t300 x39_2)) [.slice A305_0 (rd_L1 l3 (rd t300 x39_2)).length c305_0] (fun k_ => (P3_ k_ ∨ w.heap.size ≤ k_) ∧ some k_ ≠ (.slice (some ad304) t300.length co26 : Value).ownBlock ∧ k_ ≠ gb299) (fun k_ => ((fun k_ => (P3_ k_ ∨ w.heap.size ≤ k_) ∧ some k_ ≠ (.slice (some ad304) t300.length co26 : Value).ownBlock ∧ k_ ≠ gb299)) k_ ∧ some k_ ≠ (u12 : Value).ownBlock) rfl rfl ?aP (fun _ hk => hk) ?aF ?aO ?aB ?aS ?aL ?_; (case aP => exact (Kd.FK_slice_mk (Kd.V_reads' (Kd.V_mono (ok' := (fun k_ => ((fun k_ => (P3_ k_ ∨ w.heap.size ≤ k_) ∧ some k_ ≠ (.slice (some ad304) t300.length co26 : Value).ownBlock ∧ k_ ≠ gb299)) k_ ∧ some k_ ≠ (u12 : Value).ownBlock)) (HL305_0.out) (fun k_ hk => ⟨⟨hk.1, ⟨hk.2.2.1, hk.2.2.2⟩⟩, hk.2.1⟩))).2.1 (Kd.V_F (Kd.V_mono (ok' := (fun k_ => ((fun k_ => (P3_ k_ ∨ w.heap.size ≤ k_) ∧ some k_ ≠ (.slice (some ad304) t300.length co26 : Value).ownBlock ∧ k_ ≠ gb299)) k_ ∧ some k_ ≠ (u12 : Value).ownBlock)) (HL305_0.out) (fun k_ hk => ⟨⟨hk.1, ⟨hk.2.2.1, hk.2.2.2⟩⟩, hk.2.1⟩))))); (case aB => exact bel); (case aF => exact (fun k_ hk => ⟨(.inr (Nat.le_trans bels hk)), Kd.fresh' (Kd.R_lt (R_g HO_37.out)) k_ hk, Kd.freshB (g := gb299) (o := .cells #[.int .i64 a0_0, .int .i64 a0_1, .int .i64 a0_2] 24 (0, 0)) (blk_g BK299.out) k_ hk⟩)); (case aO => exact (N_g HO_12.out)); (case aS => exact bels); (case aL => have := LMc32.out; omega); intro v307 w33 ho hb hg hat; rw [← Ny306.out] at ho; replace HO_3 := zA (Kd.V_afterv (ok := (fun k_ => (P3_ k_ ∨ w.heap.size ≤ k_) ∧ some k_ ≠ (.slice (some ad304) t300.length co26 : Value).ownBlock ∧ k_ ≠ gb299)) (V_g (Kd.V_mono HO_3.out (fun _ hk => ⟨⟨hk.1, ⟨hk.2.2.1, hk.2.2.2⟩⟩, hk.2.1⟩))) hg hat); replace HO_37 := zA (Kd.R_over' (R_g HO_37.out) (Kd.N_typed (N_g HO_12.out)) (by decide) hg); replace BK299 := zA (blk_grown (g := gb299) (o := .cells #[.int .i64 a0_0, .int .i64 a0_1, .int .i64 a0_2] 24 (0, 0)) (blk_g BK299.out) hg (Kd.N_ne HO_12.out BK299.out (by decide))); replace HL305_0 := zA (Kd.V_afterv (ok := (fun k_ => (P3_ k_ ∨ w.heap.size ≤ k_) ∧ some k_ ≠ (.slice (some ad304) t300.length co26 : Value).ownBlock ∧ k_ ≠ gb299)) (V_g (Kd.V_mono HL305_0.out (fun _ hk => ⟨⟨hk.1, ⟨hk.2.2.1, hk.2.2.2⟩⟩, hk.2.1⟩))) hg hat); replace HB := zA (hb); have HO308 := zA (ho); clear HO_12; clear ho hb hg hat))
            go_roundg k2
            case measure => have := HJ6.out; have := HK2.out; omega
            case rel => exact ⟨(y306), (wrap64 (x39_2 + 1)), frs, H', ⟨by have := HJ6.out; have := HK2.out; omega⟩, ⟨by (with_reducible repeat (first | apply Kd.V_alloc | apply Kd.V_drewN | apply Kd.V_drew)); exact Kd.V_mono HO_3.out (fun _ hk => ⟨hk.1.1, ⟨hk.2, ⟨hk.1.2.1, hk.1.2.2⟩⟩⟩)⟩, ⟨rdN HO308.out⟩, ⟨rdR HO_37.out⟩, ⟨rdB BK299.out⟩, ⟨bel⟩⟩
           ·rw [if_neg c32] at H
            exact absurd H (by simp)
          ·rw [if_neg c31] at H
           exact absurd H (by simp)
         ·rw [if_neg c30] at H
          exact absurd H (by simp)
        ·rw [if_neg c29] at H
         exact absurd H (by simp)
       ·rw [if_neg c28] at H
        exact absurd H (by simp)
      ·rw [if_neg c27] at H
       have c27b0 : decide (x39_2 < (t300.length : Int)) = false := decide_eq_false c27
       clear c27
       replace H := Option.bind_eq_some_iff.mp H
       obtain ⟨t309, A340, H⟩ := H
       try dsimp only at H
       have A34 := zA A340
       clear A340
       obtain rfl := Option.some.inj H
       obtain ⟨Ao35, co35, eo35⟩ := Kd.N_slice HO_12.out
       subst eo35
       go_wp2_with (first | ((with_reducible refine gate_callee (f := 106) rfl ?_); refine goesL_ (some 53) rfl rfl Try.func106 (by kernel_rfl) rfl #[.int .i64 a2, .slice Ao35 x12_2.length co35] rfl agl ?_; (with_reducible refine (rows_Sum.calls k2 a2 _ _ x12_2 t309 _ ?side1 ?side2 A34.out).mono ?_); (case side1 => repeat (first | exact (Kd.N_reads' HO_12.out).2.2 | (with_reducible refine Kd.C_alloc ?_ _) | (with_reducible refine Kd.C_drewN ?_ _) | (with_reducible refine Kd.C_drew ?_))); (case side2 => exact (Kd.N_reads' HO_12.out).2.1); rintro e w36 ⟨v310, rfl, ho0, hb⟩; refine ⟨_, rfl, ?_⟩; replace HO_3 := zA (Kd.V_elder' (V_g HO_3.out) (Kd.R_base ho0) hb); replace HO_12 := zA (Kd.N_elder' (N_g HO_12.out) (Kd.R_base ho0) hb); replace HO_37 := zA (Kd.R_below (R_g HO_37.out) hb); have HO311 := zA (Kd.R_lower (Kd.R_newM (M := fun k_ => (w.heap.size ≤ k_)) ho0 bels (fun k_ h_ => h_)) bels); replace BK299 := zA (blk_below (g := gb299) (o := .cells #[.int .i64 a0_0, .int .i64 a0_1, .int .i64 a0_2] 24 (0, 0)) (blk_g BK299.out) hb); replace HB := zA (belt hb)))
       go_ret
       exact ⟨_, by first | rfl | (simp [errW_none, errW_some] <;> rfl) | (simp [*, errW_none, errW_some] <;> rfl), by (with_reducible repeat (first | apply Kd.R_alloc | apply Kd.R_drewN | apply Kd.R_drew)); exact Kd.R_mono HO311.out (fun _ hk => hk.1), bel⟩
end Go.Proofs.Ytbfhinfblepidaa.PBlockTells
namespace Go.Proofs.Ytbfhinfblepidaa.PBlockTells
open Go.RowKit Go.Proofs.YtbfhinfblepidaaW.PrintWords Go.Proofs.YtbfhinfblepidaaW.PrintLast Go.Proofs.YtbfhinfblepidaaW.PrintMore Go.Proofs.Ytbfhinfblepidaa.PSolveTells Go.Proofs.Ytbfhinfblepidaa.PSeedTells
attribute [local go_sem] max2_int min2_int max_two min_two max_three min_three max_four min_four
set_option linter.unusedVariables false
set_option linter.unusedSimpArgs false
noncomputable def fountainref1_zero.l0 : Nat → Int → Int → List (List Int) → List (List Int) → Int → Option ((List (List Int)))
 | 0, _, _, _, _, _ => none
 | k + 1, x0, x1, x2, x7, x8 => (fountainref1_S.f x0).bind fun t451 => (if x8 < (wrap64 (t451 + 2)) then (if 0 ≤ x1 then (if (x1 : Int).toNat ≤ 281474976710656 then (if x7.length < 5864062014805 then (fountainref1_zero.l0 k x0 x1 x2 (x7 ++ [(List.replicate (x1 : Int).toNat 0)]) (wrap64 (x8 + 1))) else (none)) else (none)) else (none)) else (if x7.length + x2.length < 5864062014805 then (some (x7 ++ x2)) else (none)))
noncomputable def fountainref1_zero.f (k : Nat) (a0 : Int) (a1 : Int) (l2 : List (List Int)) : Option ((List (List Int))) := fountainref1_zero.l0 k a0 a1 l2 ([] : List (List Int)) 0
theorem fountainref1_zero.calls (k : Nat) (a0 : Int) (a1 : Int) (P2_ : Nat → Prop) (A2 : Option Addr) (c2 : Nat) (l2 : List (List Int)) (r : List (List Int)) (w : World) (hs2 : Kd.V (Kd.slice 5 (Kd.int .u8)) 30 w w.heap.size (fun k_ => P2_ k_) (.slice A2 l2.length c2) l2) (h : fountainref1_zero.f k a0 a1 l2 = some r) :
 Calls Try.prog 83 #[.int .i64 a0, .int .i64 a1, .slice A2 l2.length c2] w fun e w' => ∃ v0_ : Value, e = .returned (v0_) ∧ Kd.N (Kd.slice 5 (Kd.int .u8)) 30 w' w.heap.size (fun k_ => (P2_ k_ ∨ w.heap.size ≤ k_)) v0_ r ∧ Below w.heap.size w w' := by
 have HO2 := zA (show Kd.V (Kd.slice 5 (Kd.int .u8)) 30 w w.heap.size (fun k_ => (P2_ k_ ∨ w.heap.size ≤ k_)) (.slice A2 l2.length c2) l2 from Kd.V_mono hs2 (fun k_ hk => .inl hk))
 have HB := zA (Below.refl w.heap.size w)
 have H : (fountainref1_zero.l0 k a0 a1 l2 ([] : List (List Int)) 0) = some r := h
 clear h
 have H' := zA H
 clear H
 go_enter Try.func83, Try.ntmps83
 go_wp2
 go_loopg [7, 8] k (fun kq v7 v8 w' => ∃ (x7_1 : List (List Int)) (x8_1 : Int), v8 = .int .i64 x8_1 ∧ Aside0 (fountainref1_zero.l0 kq a0 a1 l2 x7_1 x8_1 = some r) ∧ Aside0 (kq ≤ k) ∧ Aside0 (Kd.V (Kd.slice 5 (Kd.int .u8)) 30 w' w.heap.size (fun k_ => (P2_ k_ ∨ w.heap.size ≤ k_) ∧ some k_ ≠ (v7 : Value).ownBlock) (.slice A2 l2.length c2) l2) ∧ Aside0 (Kd.N (Kd.slice 5 (Kd.int .u8)) 30 w' w.heap.size (fun k_ => (P2_ k_ ∨ w.heap.size ≤ k_)) v7 x7_1) ∧ Aside0 (Below w.heap.size w w'))
 case atStart => exact ⟨(([] : List (List Int))), (0), frs, H', ⟨Nat.le_refl _⟩, ⟨by (with_reducible repeat (first | apply Kd.V_alloc | apply Kd.V_drewN | apply Kd.V_drew)); exact Kd.V_mono HO2.out (fun _ hk => ⟨hk, (by simp [Value.ownBlock])⟩)⟩, ⟨by first | exact Kd.S_nil _ _ _ _ _ | exact Kd.N_nil _ _ _ _ _ | exact Kd.V_nil _ _ _ _ _ | exact Kd.Q_nil _ _ _ _ _ | exact Kd.R_nil _ _ _ _ _⟩, ⟨bel⟩⟩
 case round =>
  clear H'
  obtain ⟨x7_1, x8_1, rfl, HA, HK1, HO_2, HO_7, HB⟩ := hrel
  cases gk with
  | zero => exact absurd HA.out (by simp [fountainref1_zero.l0])
  | succ k1 =>
   have H := HA.out
   clear HA
   simp only [fountainref1_zero.l0] at H
   replace H := Option.bind_eq_some_iff.mp H
   obtain ⟨t451, A40, H⟩ := H
   try dsimp only at H
   have A4 := zA A40
   clear A40
   by_cases c5 : x8_1 < (wrap64 (t451 + 2))
   ·rw [if_pos c5] at H
    have c5b0 : decide (x8_1 < (wrap64 (t451 + 2))) = true := decide_eq_true c5
    clear c5
    by_cases c6 : 0 ≤ a1
    ·rw [if_pos c6] at H
     have c6b0 := eq_true c6
     have c6b1 : decide (0 ≤ a1) = true := decide_eq_true c6
     clear c6
     by_cases c7 : (a1 : Int).toNat ≤ 281474976710656
     ·rw [if_pos c7] at H
      have c7b0 := eq_true c7
      have c7b1 : decide ((a1 : Int).toNat ≤ 281474976710656) = true := decide_eq_true c7
      clear c7
      obtain ⟨y452, hy452⟩ : ∃ y_ : List Int, y_ = (List.replicate (a1 : Int).toNat 0) := ⟨_, rfl⟩
      replace H : (if x7_1.length < 5864062014805 then (fountainref1_zero.l0 k1 a0 a1 l2 (x7_1 ++ [y452]) (wrap64 (x8_1 + 1))) else (none)) = some r := zC H hy452
      have Ny452 := zA hy452
      clear hy452
      by_cases c8 : x7_1.length < 5864062014805
      ·rw [if_pos c8] at H
       have LMc8 := zA c8
       clear c8
       obtain ⟨y455, hy455⟩ : ∃ y_ : List (List Int), y_ = (x7_1 ++ [y452]) := ⟨_, rfl⟩
       replace H : (fountainref1_zero.l0 k1 a0 a1 l2 y455 (wrap64 (x8_1 + 1))) = some r := zC H hy455
       have Ny455 := zA hy455
       clear hy455
       have H' := zA H
       clear H
       go_wp2_with (first | ((with_reducible refine gate_callee (f := 73) rfl ?_); refine goesL_ (some 11) rfl rfl Try.func73 (by kernel_rfl) rfl #[.int .i64 a0] rfl agl ?_; (with_reducible refine (fountainref1_S.calls a0 t451 _ A4.out).mono ?_); rintro e w' ⟨rfl, ⟨nd, rfl⟩⟩; refine ⟨_, rfl, ?_⟩) | ((with_reducible refine gate_dst (N := 18) rfl ?_); refine Kd.R_make (Kd.int .u8) _ 5 rfl (N := 18) rfl 30 _ _ rfl a1 rfl rfl Try.underlying30 (.int .u8 0) 1 info5 rfl (by decide) (by omega) 0 (ok := fun _ => True) (okp := fun _ => True) rfl (fun _ hk => hk) trivial (of_decide_eq_true asu) (Nat.le_trans (Nat.mul_le_mul_right _ (of_decide_eq_true asu : a1.toNat ≤ 281474976710656)) (by omega)) (Below.refl _ _) (Nat.le_refl _) ?_; intro v453 w9 ho10 hb hg_ hnew_; clear hg_ hnew_; (first | rw [← Ny452.out] at ho10 | (simp only [Int.reduceToNat] at ho10; rw [← Ny452.out] at ho10)); replace HO_2 := zA (Kd.V_elder' (V_g HO_2.out) (Kd.R_base ho10) hb); replace HO_7 := zA (Kd.N_elder' (N_g HO_7.out) (Kd.R_base ho10) hb); have HO454 := zA (Kd.R_lower (Kd.R_newM (M := fun k_ => (w.heap.size ≤ k_)) ho10 bels (fun k_ h_ => h_)) bels); replace HB := zA (belt hb); clear hb ho10; obtain ⟨Ao12, co12, eo12⟩ := Kd.R_slice HO454.out; subst eo12) | ((with_reducible refine gate_builtin (b := .append) (xs := #[.tmp 16, .tmp 19]) rfl ?_); at_builtin; refine Kd.N_append (Kd.slice 5 (Kd.int .u8)) (w0 := w) w.heap.size rfl (.tmp 16) (.tmp 19) 34 30 (.slice none 0 0) 24 rfl Try.underlying34 info30 rfl (by decide) (by omega) u7 x7_1 y452 [.slice Ao12 y452.length co12] (fun k_ => (P2_ k_ ∨ w.heap.size ≤ k_)) (fun k_ => ((fun k_ => (P2_ k_ ∨ w.heap.size ≤ k_))) k_ ∧ some k_ ≠ (u7 : Value).ownBlock) rfl rfl ?aP (fun _ hk => hk) ?aF ?aO ?aB ?aS ?aL ?_; (case aP => exact (Kd.FK_slice_mk (Kd.R_reads' (Kd.R_mono (ok' := (fun k_ => ((fun k_ => (P2_ k_ ∨ w.heap.size ≤ k_))) k_ ∧ some k_ ≠ (u7 : Value).ownBlock)) (Kd.R_apart' (HO454.out) (Kd.N_typed HO_7.out) (by decide)) (fun k_ hk => ⟨(.inr (hk.1.1)), hk.2⟩))).2.1 (Kd.R_F (Kd.R_mono (ok' := (fun k_ => ((fun k_ => (P2_ k_ ∨ w.heap.size ≤ k_))) k_ ∧ some k_ ≠ (u7 : Value).ownBlock)) (Kd.R_apart' (HO454.out) (Kd.N_typed HO_7.out) (by decide)) (fun k_ hk => ⟨(.inr (hk.1.1)), hk.2⟩))))); (case aB => exact bel); (case aF => exact (fun k_ hk => (.inr (Nat.le_trans bels hk)))); (case aO => exact (N_g (Kd.N_mono HO_7.out (fun _ hk => hk.1)))); (case aS => exact bels); (case aL => have := LMc8.out; omega); intro v456 w11 ho hb hg hat; rw [← Ny455.out] at ho; replace HO_2 := zA (Kd.V_afterv (ok := (fun k_ => (P2_ k_ ∨ w.heap.size ≤ k_) ∧ some k_ ≠ (.slice Ao12 y452.length co12 : Value).ownBlock)) (V_g (Kd.V_mono HO_2.out (fun _ hk => ⟨⟨hk.1.1, hk.2⟩, hk.1.2⟩))) hg hat); replace HB := zA (hb); have HO457 := zA (ho); clear HO_7 HO454; clear ho hb hg hat))
       go_roundg k1
       case measure => have := HK1.out; omega
       case rel => exact ⟨(y455), (wrap64 (x8_1 + 1)), frs, H', ⟨by have := HK1.out; omega⟩, ⟨by (with_reducible repeat (first | apply Kd.V_alloc | apply Kd.V_drewN | apply Kd.V_drew)); exact Kd.V_mono HO_2.out (fun _ hk => ⟨hk.1.1, hk.2⟩)⟩, ⟨rdN HO457.out⟩, ⟨bel⟩⟩
      ·rw [if_neg c8] at H
       exact absurd H (by simp)
     ·rw [if_neg c7] at H
      exact absurd H (by simp)
    ·rw [if_neg c6] at H
     exact absurd H (by simp)
   ·rw [if_neg c5] at H
    have c5b0 : decide (x8_1 < (wrap64 (t451 + 2))) = false := decide_eq_false c5
    clear c5
    by_cases c13 : x7_1.length + l2.length < 5864062014805
    ·rw [if_pos c13] at H
     have LMc13 := zA c13
     clear c13
     obtain ⟨y458, hy458⟩ : ∃ y_ : List (List Int), y_ = (x7_1 ++ l2) := ⟨_, rfl⟩
     replace H : (some y458) = some r := zC H hy458
     have Ny458 := zA hy458
     clear hy458
     obtain rfl := Option.some.inj H
     go_wp2_with (first | ((with_reducible refine gate_callee (f := 73) rfl ?_); refine goesL_ (some 11) rfl rfl Try.func73 (by kernel_rfl) rfl #[.int .i64 a0] rfl agl ?_; (with_reducible refine (fountainref1_S.calls a0 t451 _ A4.out).mono ?_); rintro e w' ⟨rfl, ⟨nd, rfl⟩⟩; refine ⟨_, rfl, ?_⟩) | ((with_reducible refine gate_builtin (b := .append) (xs := #[.tmp 21, .tmp 22]) rfl ?_); at_builtin; refine Kd.N_append_rows (Kd.slice 5 (Kd.int .u8)) (w0 := w) w.heap.size rfl (.tmp 21) (.tmp 22) 34 30 (.slice none 0 0) 24 rfl Try.underlying34 info30 rfl (by decide) (by omega) u7 x7_1 l2 _ _ _ (fun k_ => (P2_ k_ ∨ w.heap.size ≤ k_)) (fun k_ => ((fun k_ => (P2_ k_ ∨ w.heap.size ≤ k_))) k_ ∧ some k_ ≠ (u7 : Value).ownBlock) rfl rfl ?aO ?aR (fun _ hk => hk) ?aF ?aB ?aS ?aL ?_; (case aR => exact (by skip; exact Kd.V_F (e := 30) (base := w.heap.size) (Kd.V_mono (ok' := (fun k_ => ((fun k_ => (P2_ k_ ∨ w.heap.size ≤ k_))) k_ ∧ some k_ ≠ (u7 : Value).ownBlock)) (HO_2.out) (fun k_ hk => ⟨hk.1, hk.2⟩)))); (case aB => exact bel); (case aF => exact (fun k_ hk => (.inr (Nat.le_trans bels hk)))); (case aO => exact (N_g HO_7.out)); (case aS => exact bels); (case aL => have := LMc13.out; omega); intro v459 w14 ho hb hg hat; rw [← Ny458.out] at ho; replace HO_2 := zA (Kd.V_afterv (ok := (fun k_ => (P2_ k_ ∨ w.heap.size ≤ k_))) (by (with_reducible repeat (first | apply Kd.V_alloc | apply Kd.V_drewN | apply Kd.V_drew)); first | exact HO_2.out | exact Kd.S_mono HO_2.out (fun _ hk => ⟨trivial, hk⟩)) hg hat); replace HB := zA (hb); have HO460 := zA (ho); clear HO_7; clear ho hb hg hat))
     go_ret
     exact ⟨_, by first | rfl | (simp [errW_none, errW_some] <;> rfl) | (simp [*, errW_none, errW_some] <;> rfl), rdN HO460.out, bel⟩
    ·rw [if_neg c13] at H
     exact absurd H (by simp)
end Go.Proofs.Ytbfhinfblepidaa.PBlockTells
namespace Go.Proofs.Ytbfhinfblepidaa.PBlockTells
open Go.RowKit Go.Proofs.YtbfhinfblepidaaW.PrintWords Go.Proofs.YtbfhinfblepidaaW.PrintLast Go.Proofs.YtbfhinfblepidaaW.PrintMore Go.Proofs.Ytbfhinfblepidaa.PSolveTells Go.Proofs.Ytbfhinfblepidaa.PSeedTells
attribute [local go_sem] max2_int min2_int max_two min_two max_three min_three max_four min_four
set_option linter.unusedVariables false
set_option linter.unusedSimpArgs false
mutual
noncomputable def fountainref1_Drop.j0 : Nat → Int → List (List Int) → List Int → Bool → Option (List Int)
 | 0, _, _, _, _ => none
 | k + 1, x2, x3, x11, x35 => if x35 = true then (some ([] : List Int)) else (fountainref1_Drop.l0 k x2 x3 x11 ([] : List (List Int)) 0)
noncomputable def fountainref1_Drop.l0 : Nat → Int → List (List Int) → List Int → List (List Int) → Int → Option (List Int)
 | 0, _, _, _, _, _ => none
 | k + 1, x2, x3, x11, x12, x13 => if x13 < (x11.length : Int) then (if 0 ≤ x13 then (if 0 ≤ (rd x11 x13) then (if (rd x11 x13) < (x3.length : Int) then (if x12.length < 5864062014805 then (fountainref1_Drop.l0 k x2 x3 x11 (x12 ++ [rd_L1 x3 (rd x11 x13)]) (wrap64 (x13 + 1))) else (none)) else (none)) else (none)) else (none)) else ((fountainref1_Sum.f k x2 x12).bind fun t470 => (some t470))
end
noncomputable def fountainref1_Drop.f (k : Nat) (a0 : Int) (a1 : Int) (a2 : Int) (l3 : List (List Int)) (a4 : Int) : Option (List Int) := (fountainref1_Parts.f k a0 a1 a4).bind fun t461 => (if (t461.length : Int) = 0 then (fountainref1_Drop.j0 k a2 l3 t461 true) else ((fountainref1_L.f a0).bind fun t464 => (if (l3.length : Int) = t464 then (if a2 < 1 then (fountainref1_Drop.j0 k a2 l3 t461 true) else (fountainref1_Drop.j0 k a2 l3 t461 (decide (a2 > 64)))) else (fountainref1_Drop.j0 k a2 l3 t461 true))))
theorem fountainref1_Drop.calls (k : Nat) (a0 : Int) (a1 : Int) (a2 : Int) (P3_ : Nat → Prop) (A3 : Option Addr) (c3 : Nat) (l3 : List (List Int)) (a4 : Int) (r : List Int) (w : World) (hs3 : Kd.V (Kd.slice 5 (Kd.int .u8)) 30 w w.heap.size (fun k_ => P3_ k_) (.slice A3 l3.length c3) l3) (h : fountainref1_Drop.f k a0 a1 a2 l3 a4 = some r) :
 Calls Try.prog 85 #[.int .i64 a0, .int .i64 a1, .int .i64 a2, .slice A3 l3.length c3, .int .i64 a4] w fun e w' => ∃ v0_ : Value, e = .returned (v0_) ∧ Kd.R (Kd.int .u8) 5 w' w.heap.size (fun k_ => (w.heap.size ≤ k_)) v0_ r ∧ Below w.heap.size w w' := by
 have HO3 := zA (show Kd.V (Kd.slice 5 (Kd.int .u8)) 30 w w.heap.size (fun k_ => (P3_ k_ ∨ w.heap.size ≤ k_)) (.slice A3 l3.length c3) l3 from Kd.V_mono hs3 (fun k_ hk => .inl hk))
 have HB := zA (Below.refl w.heap.size w)
 have H : ((fountainref1_Parts.f k a0 a1 a4).bind fun t461 => (if (t461.length : Int) = 0 then (fountainref1_Drop.j0 k a2 l3 t461 true) else ((fountainref1_L.f a0).bind fun t464 => (if (l3.length : Int) = t464 then (if a2 < 1 then (fountainref1_Drop.j0 k a2 l3 t461 true) else (fountainref1_Drop.j0 k a2 l3 t461 (decide (a2 > 64)))) else (fountainref1_Drop.j0 k a2 l3 t461 true))))) = some r := h
 clear h
 replace H := Option.bind_eq_some_iff.mp H
 obtain ⟨t461, A60, H⟩ := H
 try dsimp only at H
 have A6 := zA A60
 clear A60
 have HC7 := zA H
 clear H
 go_enter Try.func85, Try.ntmps85
 go_upto_region 2 with (first | ((with_reducible refine gate_callee (f := 77) rfl ?_); refine goesL_ (some 17) rfl rfl Try.func77 (by kernel_rfl) rfl #[.int .i64 a0, .int .i64 a1, .int .i64 a4] rfl agl ?_; (with_reducible refine (fountainref1_Parts.calls k a0 a1 a4 t461 _ A6.out).mono ?_); rintro e w8 ⟨v462, rfl, ho0, hb⟩; refine ⟨_, rfl, ?_⟩; replace HO3 := zA (Kd.V_elder' (V_g HO3.out) (Kd.R_base ho0) hb); have HO463 := zA (Kd.R_lower (Kd.R_newM (M := fun k_ => (w.heap.size ≤ k_)) ho0 bels (fun k_ h_ => h_)) bels); replace HB := zA (belt hb)))
 (try simp only [Act.put, List.setIfInBounds_toArray, List.set_cons_zero, List.set_cons_succ])
 go_cut [35] (fun v35 wc => ∃ (kq : Nat) (x35_6 : Bool), v35 = .bool x35_6 ∧ Aside0 (fountainref1_Drop.j0 kq a2 l3 t461 x35_6 = some r) ∧ Aside0 (kq ≤ k) ∧ Aside0 (Kd.V (Kd.slice 5 (Kd.int .u8)) 30 wc w.heap.size (fun k_ => (P3_ k_ ∨ w.heap.size ≤ k_) ∧ some k_ ≠ (v462 : Value).ownBlock) (.slice A3 l3.length c3) l3) ∧ Aside0 (Kd.R (Kd.int .i64) 3 wc w.heap.size (fun k_ => (w.heap.size ≤ k_)) v462 t461) ∧ Aside0 (Below w.heap.size w wc))
 case first =>
  have H := HC7.out
  clear HC7
  by_cases c9 : (t461.length : Int) = 0
  ·rw [if_pos c9] at H
   have c9b0 : ((t461.length : Int) == 0) = true := beq_iff_eq.mpr c9
   have c9b1 : ((t461.length : Int) != 0) = false := bne_eq_false_iff_eq.mpr c9
   clear c9
   (first | rw [c9b0] | (simp only [i64_w, i32_w]; rw [c9b0]) | skip)
   have H' := zA H
   clear H
   obtain ⟨Ao10, co10, eo10⟩ := Kd.R_slice HO463.out
   subst eo10
   go_wp2
   go_meet
   case rel => exact ⟨_, (true), frs, H', ⟨by first | omega | exact Nat.le_refl _⟩, ⟨rdV HO3.out⟩, ⟨by (with_reducible repeat (first | apply Kd.R_alloc | apply Kd.R_drewN | apply Kd.R_drew)); exact Kd.R_mono HO463.out (fun _ hk => hk.1)⟩, ⟨bel⟩⟩
  ·rw [if_neg c9] at H
   have c9b0 : ((t461.length : Int) == 0) = false := beq_eq_false_iff_ne.mpr c9
   have c9b1 : ((t461.length : Int) != 0) = true := bne_iff_ne.mpr c9
   have c9b2 : ¬ (t461 = []) := fun h_ => c9 (by rw [h_]; rfl)
   (first | rw [c9b0] | (simp only [i64_w, i32_w]; rw [c9b0]) | skip)
   replace H := Option.bind_eq_some_iff.mp H
   obtain ⟨t464, A110, H⟩ := H
   try dsimp only at H
   have A11 := zA A110
   clear A110
   by_cases c12 : (l3.length : Int) = t464
   ·rw [if_pos c12] at H
    have c12b0 : ((l3.length : Int) == t464) = true := beq_iff_eq.mpr c12
    have c12b1 : ((l3.length : Int) != t464) = false := bne_eq_false_iff_eq.mpr c12
    clear c12
    by_cases c13 : a2 < 1
    ·rw [if_pos c13] at H
     have c13b0 : decide (a2 < 1) = true := decide_eq_true c13
     clear c13
     have H' := zA H
     clear H
     obtain ⟨Ao14, co14, eo14⟩ := Kd.R_slice HO463.out
     subst eo14
     go_wp2_with (first | (go_at_call 45; (with_reducible refine (fountainref1_L.calls a0 t464 _ A11.out).mono ?_); rintro e w' ⟨rfl, ⟨nd, rfl⟩⟩))
     go_meet
     case rel => exact ⟨_, (true), frs, H', ⟨by first | omega | exact Nat.le_refl _⟩, ⟨rdV HO3.out⟩, ⟨by (with_reducible repeat (first | apply Kd.R_alloc | apply Kd.R_drewN | apply Kd.R_drew)); exact Kd.R_mono HO463.out (fun _ hk => hk.1)⟩, ⟨bel⟩⟩
    ·rw [if_neg c13] at H
     have c13b0 : decide (a2 < 1) = false := decide_eq_false c13
     clear c13
     have H' := zA H
     clear H
     obtain ⟨Ao15, co15, eo15⟩ := Kd.R_slice HO463.out
     subst eo15
     go_wp2_with (first | (go_at_call 45; (with_reducible refine (fountainref1_L.calls a0 t464 _ A11.out).mono ?_); rintro e w' ⟨rfl, ⟨nd, rfl⟩⟩))
     go_meet
     case rel => exact ⟨_, (decide (a2 > 64)), frs, H', ⟨by first | omega | exact Nat.le_refl _⟩, ⟨rdV HO3.out⟩, ⟨by (with_reducible repeat (first | apply Kd.R_alloc | apply Kd.R_drewN | apply Kd.R_drew)); exact Kd.R_mono HO463.out (fun _ hk => hk.1)⟩, ⟨bel⟩⟩
   ·rw [if_neg c12] at H
    have c12b0 : ((l3.length : Int) == t464) = false := beq_eq_false_iff_ne.mpr c12
    have c12b1 : ((l3.length : Int) != t464) = true := bne_iff_ne.mpr c12
    have H' := zA H
    clear H
    obtain ⟨Ao16, co16, eo16⟩ := Kd.R_slice HO463.out
    subst eo16
    go_wp2_with (first | (go_at_call 45; (with_reducible refine (fountainref1_L.calls a0 t464 _ A11.out).mono ?_); rintro e w' ⟨rfl, ⟨nd, rfl⟩⟩))
    go_meet
    case rel => exact ⟨_, (true), frs, H', ⟨by first | omega | exact Nat.le_refl _⟩, ⟨rdV HO3.out⟩, ⟨by (with_reducible repeat (first | apply Kd.R_alloc | apply Kd.R_drewN | apply Kd.R_drew)); exact Kd.R_mono HO463.out (fun _ hk => hk.1)⟩, ⟨bel⟩⟩
 case rest =>
  clear HC7
  obtain ⟨kq, x35_6, rfl, HA, HJ6, HO_3, HO_11, HB⟩ := hcut
  cases kq with
  | zero => exact absurd HA.out (by simp [fountainref1_Drop.j0])
  | succ kj6 =>
   have H := HA.out
   clear HA
   simp only [fountainref1_Drop.j0] at H
   by_cases c17 : x35_6 = true
   ·subst c17
    have H1 : (some ([] : List Int)) = some r := by rw [if_pos rfl] at H; exact H
    clear H
    have H := H1
    clear H1
    obtain rfl := Option.some.inj H
    go_wp2
    go_ret
    exact ⟨_, by first | rfl | (simp [errW_none, errW_some] <;> rfl) | (simp [*, errW_none, errW_some] <;> rfl), by first | exact Kd.R_nil _ _ _ _ _ | exact Kd.N_nil _ _ _ _ _ | exact Kd.V_nil _ _ _ _ _ | exact Kd.Q_nil _ _ _ _ _ | exact Kd.S_nil _ _ _ _ _, bel⟩
   ·replace c17 := Bool.eq_false_iff.mpr c17
    subst c17
    have H1 : (fountainref1_Drop.l0 kj6 a2 l3 t461 ([] : List (List Int)) 0) = some r := by rw [if_neg (show ¬ (false = true) by decide)] at H; exact H
    clear H
    have H := H1
    clear H1
    have H' := zA H
    clear H
    go_wp2
    go_loopg [12, 13] kj6 (fun kq v12 v13 w' => ∃ (x12_2 : List (List Int)) (x13_2 : Int), v13 = .int .i64 x13_2 ∧ Aside0 (fountainref1_Drop.l0 kq a2 l3 t461 x12_2 x13_2 = some r) ∧ Aside0 (kq ≤ kj6) ∧ Aside0 (Kd.V (Kd.slice 5 (Kd.int .u8)) 30 w' w.heap.size (fun k_ => (P3_ k_ ∨ w.heap.size ≤ k_) ∧ some k_ ≠ (v462 : Value).ownBlock ∧ some k_ ≠ (v12 : Value).ownBlock) (.slice A3 l3.length c3) l3) ∧ Aside0 (Kd.R (Kd.int .i64) 3 w' w.heap.size (fun k_ => (w.heap.size ≤ k_)) v462 t461) ∧ Aside0 (Kd.N (Kd.slice 5 (Kd.int .u8)) 30 w' w.heap.size (fun k_ => (P3_ k_ ∨ w.heap.size ≤ k_) ∧ some k_ ≠ (v462 : Value).ownBlock) v12 x12_2) ∧ Aside0 (Below w.heap.size w w'))
    case atStart => exact ⟨(([] : List (List Int))), (0), frs, H', ⟨Nat.le_refl _⟩, ⟨by (with_reducible repeat (first | apply Kd.V_alloc | apply Kd.V_drewN | apply Kd.V_drew)); exact Kd.V_mono HO_3.out (fun _ hk => ⟨hk.1, ⟨hk.2, (by simp [Value.ownBlock])⟩⟩)⟩, ⟨rdR HO_11.out⟩, ⟨by first | exact Kd.S_nil _ _ _ _ _ | exact Kd.N_nil _ _ _ _ _ | exact Kd.V_nil _ _ _ _ _ | exact Kd.Q_nil _ _ _ _ _ | exact Kd.R_nil _ _ _ _ _⟩, ⟨bel⟩⟩
    case round =>
     clear H'
     obtain ⟨x12_2, x13_2, rfl, HA, HK2, HO_3, HO_11, HO_12, HB⟩ := hrel
     cases gk with
     | zero => exact absurd HA.out (by simp [fountainref1_Drop.l0])
     | succ k2 =>
      have H := HA.out
      clear HA
      simp only [fountainref1_Drop.l0] at H
      by_cases c18 : x13_2 < (t461.length : Int)
      ·rw [if_pos c18] at H
       have c18b0 : decide (x13_2 < (t461.length : Int)) = true := decide_eq_true c18
       clear c18
       by_cases c19 : 0 ≤ x13_2
       ·rw [if_pos c19] at H
        have c19b0 : decide (0 ≤ x13_2) = true := decide_eq_true c19
        clear c19
        by_cases c20 : 0 ≤ (rd t461 x13_2)
        ·rw [if_pos c20] at H
         have c20b0 : decide (0 ≤ (rd t461 x13_2)) = true := decide_eq_true c20
         clear c20
         by_cases c21 : (rd t461 x13_2) < (l3.length : Int)
         ·rw [if_pos c21] at H
          have c21b0 : decide ((rd t461 x13_2) < (l3.length : Int)) = true := decide_eq_true c21
          clear c21
          by_cases c22 : x12_2.length < 5864062014805
          ·rw [if_pos c22] at H
           have LMc22 := zA c22
           clear c22
           obtain ⟨y467, hy467⟩ : ∃ y_ : List (List Int), y_ = (x12_2 ++ [rd_L1 l3 (rd t461 x13_2)]) := ⟨_, rfl⟩
           replace H : (fountainref1_Drop.l0 k2 a2 l3 t461 y467 (wrap64 (x13_2 + 1))) = some r := zC H hy467
           have Ny467 := zA hy467
           clear hy467
           have H' := zA H
           clear H
           obtain ⟨Ao23, co23, eo23⟩ := Kd.R_slice HO_11.out
           subst eo23
           have p465 : 0 ≤ (x13_2 : Int) := of_decide_eq_true asu
           have q465 : x13_2 < (t461.length : Int) := of_decide_eq_true asu
           obtain ⟨ad465, e465, hx465_0⟩ := Kd.at_int (Kd.R_reads' HO_11.out).2.2 x13_2 p465 q465
           cases e465
           replace p465 := eq_true p465
           replace q465 := eq_true q465
           have p466 : 0 ≤ ((rd t461 x13_2) : Int) := of_decide_eq_true asu
           have q466 : (rd t461 x13_2) < (l3.length : Int) := of_decide_eq_true asu
           obtain ⟨ad466, A466_0, c466_0, e466, hx466_0, hl466_0, hi466_0⟩ := at_L1 (Kd.V_reads' HO_3.out).2.2 (rd t461 x13_2) p466 q466
           cases e466
           obtain ⟨ce466, hce466, hMe466, hcc466⟩ := Kd.V_get HO_3.out [] (rd t461 x13_2) p466 (by first | exact q466 | exact of_decide_eq_true asu | (have e_ := (Kd.V_reads' HO_3.out).1; omega))
           obtain ⟨ua466_0, uc466_0, rfl, ul466_0, ge466_0⟩ := Kd.FK_slice_open hMe466
           have hv466_0 := hcc466 0 _ rfl
           rw [Nat.add_zero, show ((Kd.slice 5 (Kd.int .u8))).sz = 1 from rfl, Nat.mul_one] at hv466_0
           replace hv466_0 := Option.some.inj (hv466_0.symm.trans hx466_0)
           injection hv466_0 with hva_ hvn_ hvc_
           rw [hva_] at ge466_0
           rw [hvc_] at ul466_0
           have HL466_0 := zA (show Kd.V (Kd.int .u8) 5 _ w.heap.size _ _ (rd_L1 l3 (rd t461 x13_2)) from Kd.V_mk ul466_0 ge466_0)
           clear hva_ hvn_ hvc_ ge466_0 ul466_0
           clear hcc466 hce466
           have HR466_0 := zA hi466_0
           have HC466_0 := zA hl466_0
           clear hi466_0 hl466_0
           replace p466 := eq_true p466
           replace q466 := eq_true q466
           go_wp2_with (first | ((with_reducible refine gate_builtin (b := .append) (xs := #[.tmp 42, .tmp 50]) rfl ?_); (try (refine gate_guard (by rfl) ?_; dsimp only)); at_builtin; refine Kd.N_append (Kd.slice 5 (Kd.int .u8)) (w0 := w) w.heap.size rfl (.tmp 42) (.tmp 50) 34 30 (.slice none 0 0) 24 rfl Try.underlying34 info30 rfl (by decide) (by omega) u12 x12_2 (rd_L1 l3 (rd t461 x13_2)) [.slice A466_0 (rd_L1 l3 (rd t461 x13_2)).length c466_0] (fun k_ => (P3_ k_ ∨ w.heap.size ≤ k_) ∧ some k_ ≠ (.slice (some ad465) t461.length co23 : Value).ownBlock) (fun k_ => ((fun k_ => (P3_ k_ ∨ w.heap.size ≤ k_) ∧ some k_ ≠ (.slice (some ad465) t461.length co23 : Value).ownBlock)) k_ ∧ some k_ ≠ (u12 : Value).ownBlock) rfl rfl ?aP (fun _ hk => hk) ?aF ?aO ?aB ?aS ?aL ?_; (case aP => exact (Kd.FK_slice_mk (Kd.V_reads' (Kd.V_mono (ok' := (fun k_ => ((fun k_ => (P3_ k_ ∨ w.heap.size ≤ k_) ∧ some k_ ≠ (.slice (some ad465) t461.length co23 : Value).ownBlock)) k_ ∧ some k_ ≠ (u12 : Value).ownBlock)) (HL466_0.out) (fun k_ hk => ⟨⟨hk.1, hk.2.1⟩, hk.2.2⟩))).2.1 (Kd.V_F (Kd.V_mono (ok' := (fun k_ => ((fun k_ => (P3_ k_ ∨ w.heap.size ≤ k_) ∧ some k_ ≠ (.slice (some ad465) t461.length co23 : Value).ownBlock)) k_ ∧ some k_ ≠ (u12 : Value).ownBlock)) (HL466_0.out) (fun k_ hk => ⟨⟨hk.1, hk.2.1⟩, hk.2.2⟩))))); (case aB => exact bel); (case aF => exact (fun k_ hk => ⟨(.inr (Nat.le_trans bels hk)), Kd.fresh' (Kd.R_lt (R_g HO_11.out)) k_ hk⟩)); (case aO => exact (N_g HO_12.out)); (case aS => exact bels); (case aL => have := LMc22.out; omega); intro v468 w24 ho hb hg hat; rw [← Ny467.out] at ho; replace HO_3 := zA (Kd.V_afterv (ok := (fun k_ => (P3_ k_ ∨ w.heap.size ≤ k_) ∧ some k_ ≠ (.slice (some ad465) t461.length co23 : Value).ownBlock)) (V_g (Kd.V_mono HO_3.out (fun _ hk => ⟨⟨hk.1, hk.2.1⟩, hk.2.2⟩))) hg hat); replace HO_11 := zA (Kd.R_over' (R_g HO_11.out) (Kd.N_typed (N_g HO_12.out)) (by decide) hg); replace HL466_0 := zA (Kd.V_afterv (ok := (fun k_ => (P3_ k_ ∨ w.heap.size ≤ k_) ∧ some k_ ≠ (.slice (some ad465) t461.length co23 : Value).ownBlock)) (V_g (Kd.V_mono HL466_0.out (fun _ hk => ⟨⟨hk.1, hk.2.1⟩, hk.2.2⟩))) hg hat); replace HB := zA (hb); have HO469 := zA (ho); clear HO_12; clear ho hb hg hat))
           go_roundg k2
           case measure => have := HJ6.out; have := HK2.out; omega
           case rel => exact ⟨(y467), (wrap64 (x13_2 + 1)), frs, H', ⟨by have := HJ6.out; have := HK2.out; omega⟩, ⟨by (with_reducible repeat (first | apply Kd.V_alloc | apply Kd.V_drewN | apply Kd.V_drew)); exact Kd.V_mono HO_3.out (fun _ hk => ⟨hk.1.1, ⟨hk.1.2, hk.2⟩⟩)⟩, ⟨rdR HO_11.out⟩, ⟨rdN HO469.out⟩, ⟨bel⟩⟩
          ·rw [if_neg c22] at H
           exact absurd H (by simp)
         ·rw [if_neg c21] at H
          exact absurd H (by simp)
        ·rw [if_neg c20] at H
         exact absurd H (by simp)
       ·rw [if_neg c19] at H
        exact absurd H (by simp)
      ·rw [if_neg c18] at H
       have c18b0 : decide (x13_2 < (t461.length : Int)) = false := decide_eq_false c18
       clear c18
       replace H := Option.bind_eq_some_iff.mp H
       obtain ⟨t470, A250, H⟩ := H
       try dsimp only at H
       have A25 := zA A250
       clear A250
       obtain rfl := Option.some.inj H
       obtain ⟨Ao26, co26, eo26⟩ := Kd.R_slice HO_11.out
       subst eo26
       obtain ⟨Ao27, co27, eo27⟩ := Kd.N_slice HO_12.out
       subst eo27
       go_wp2_with (first | ((with_reducible refine gate_callee (f := 34) rfl ?_); refine goesL_ (some 54) rfl rfl Try.func34 (by kernel_rfl) rfl #[.int .i64 a2, .slice Ao27 x12_2.length co27] rfl agl ?_; (with_reducible refine (fountainref1_Sum.calls k2 a2 _ _ x12_2 t470 _ ?side1 ?side2 A25.out).mono ?_); (case side1 => repeat (first | exact (Kd.N_reads' HO_12.out).2.2 | (with_reducible refine Kd.C_alloc ?_ _) | (with_reducible refine Kd.C_drewN ?_ _) | (with_reducible refine Kd.C_drew ?_))); (case side2 => exact (Kd.N_reads' HO_12.out).2.1); rintro e w28 ⟨v471, rfl, ho0, hb⟩; refine ⟨_, rfl, ?_⟩; replace HO_3 := zA (Kd.V_elder' (V_g HO_3.out) (Kd.R_base ho0) hb); replace HO_11 := zA (Kd.R_below (R_g HO_11.out) hb); replace HO_12 := zA (Kd.N_elder' (N_g HO_12.out) (Kd.R_base ho0) hb); have HO472 := zA (Kd.R_lower (Kd.R_newM (M := fun k_ => (w.heap.size ≤ k_)) ho0 bels (fun k_ h_ => h_)) bels); replace HB := zA (belt hb)))
       go_ret
       exact ⟨_, by first | rfl | (simp [errW_none, errW_some] <;> rfl) | (simp [*, errW_none, errW_some] <;> rfl), by (with_reducible repeat (first | apply Kd.R_alloc | apply Kd.R_drewN | apply Kd.R_drew)); exact Kd.R_mono HO472.out (fun _ hk => hk.1), bel⟩
end Go.Proofs.Ytbfhinfblepidaa.PBlockTells
namespace Go.Proofs.Ytbfhinfblepidaa.PBlockTells
open Go.RowKit Go.Proofs.YtbfhinfblepidaaW.PrintWords Go.Proofs.YtbfhinfblepidaaW.PrintLast Go.Proofs.YtbfhinfblepidaaW.PrintMore Go.Proofs.Ytbfhinfblepidaa.PSolveTells Go.Proofs.Ytbfhinfblepidaa.PSeedTells
attribute [local go_sem] max2_int min2_int max_two min_two max_three min_three max_four min_four
set_option linter.unusedVariables false
set_option linter.unusedSimpArgs false
end Go.Proofs.Ytbfhinfblepidaa.PBlockTells
