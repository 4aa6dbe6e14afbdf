/- fountainlaw10.BlockTells: it answers true, if what it calls comes to what is said. Conditions: those that stand in the theorems. -/
import Derived.Test.YtbfhinfblepidaaBa
import Derived.Test.YtbfhinfblepidaaBr
namespace Go.Proofs.Ytbfhinfblepidaa.Bt
open Go.RowKit Go.Lib Go.Proofs.Ytbfhinfblepidaa.PSolveTells Go.Proofs.Ytbfhinfblepidaa.PSeedTells Go.Proofs.Ytbfhinfblepidaa.PBlockTells Go.Proofs.YtbfhinfblepidaaW.PrintWords Go.Proofs.YtbfhinfblepidaaW.PrintLast Go.Proofs.YtbfhinfblepidaaW.PrintMore Go.Proofs.Ytbfhinfblepidaa.Mt Go.Proofs.Ytbfhinfblepidaa.Bs Go.Proofs.Ytbfhinfblepidaa.Bn Go.Proofs.Ytbfhinfblepidaa.Br
set_option linter.unusedVariables false
set_option linter.unusedSimpArgs false
/-- What the example of the document comes to. -/
def Live (k : Nat) : Prop := ∃ (j : Int) (P : List (List Int)), new.f k 1 [] = some (none, 1) ∧ new.f k 2 [[97, 98]] = some (some (1, 2, 2, j, P), 0) ∧ sym.f k 1 2 2 j 2 P 0 = some ([97, 98], 0)
/-- What the program's block and the document's come to: both none, for one reason; or both a block, and one symbol. -/
def Told (k : Nat) (z : Int) (L : List (List Int)) (esi : Int) : Prop :=
  (∃ e : Int, e ≠ 0 ∧ new.f k z L = some (none, e) ∧ rnew.f k z L = some (none, e)) ∨
  (∃ (K0 S H j : Int) (P : List (List Int)) (j2 : Int) (P2 : List (List Int)) (x : List Int) (g wv lv : Int), new.f k z L = some (some (K0, S, H, j, P), 0) ∧ rnew.f k z L = some (some (K0, j2, P2), 0) ∧
    sym.f k K0 S H j z P esi = some (x, g) ∧ rsym.f k K0 j2 z P2 esi = some (x, g) ∧ params_Params_W.f K0 S H = some wv ∧ fountainref1_W.f K0 = some wv ∧ params_Params_L.f K0 S H = some lv ∧ fountainref1_L.f K0 = some lv)
def Hyp (k : Nat) (z : Int) (L : List (List Int)) (esi : Int) : Prop :=
  Live k ∧ (45 < (L.length : Int) ∨ fountainlaw2_Few.f k L = some false ∨ (fountainlaw2_Few.f k L = some true ∧ fountainlaw2_To.f k L = some L ∧ Told k z L esi))
noncomputable def fountainlaw10_BlockTells.f (k : Nat) (z : Int) (L : List (List Int)) (esi : Int) : Option Bool := @ite _ (Hyp k z L esi) (Classical.propDecidable _) (some true) none
def T12 : Bool × List (List Nat × List Nat) := (true, [([], []), ([0], [0]), ([], []), ([2], [2]), ([1, 3], [1, 3]), ([4], [4]), ([5], [5]), ([6, 5, 5], [5, 6]), ([5], [5]), ([7, 8, 5], [5, 7, 8]), ([5, 9], [5, 9]), ([10, 7], [10]), ([11], [11]), ([12, 11], [11, 12]), ([13, 11], [11, 13]), ([14, 11], [11, 14]), ([15, 11], [11, 15]), ([11], [11]), ([17, 11], [11, 17]), ([18, 11], [11, 18]), ([19, 11], [11, 19]), ([16, 20, 11], [11, 16, 20]), ([11, 21], [11, 21]), ([22, 11], [22]), ([23], [23]), ([24, 23], [23, 24]), ([25, 23], [23, 25]), ([26, 23], [23, 26]), ([27, 23, 23], [23, 27]), ([23], [23]), ([29, 23], [23, 29]), ([30, 23], [23, 30]), ([31, 23], [23, 31]), ([32, 28, 23], [23, 32]), ([28, 33, 23], [23, 28, 33]), ([23, 34], [23, 34]), ([35, 33], [35]), ([36], [36]), ([37, 36], [36, 37]), ([38, 36], [36, 38]), ([39, 36], [36, 39]), ([40, 36, 36], [36, 40]), ([36], [36]), ([42, 36], [36, 42]), ([43, 36], [36, 43]), ([44, 36], [36, 44]), ([45, 41, 36], [36, 45]), ([41, 46, 36], [36, 41, 46]), ([36, 47], [36, 47]), ([48, 46], [48]), ([49], [49]), ([50, 49, 49], [49, 50]), ([49], [49]), ([51, 52, 49], [49, 51, 52]), ([49, 53], [49, 53]), ([54, 51, 0, 1, 2, 3, 4, 5, 6, 7, 8, 9, 10, 11, 12, 13, 14, 15, 16, 17, 18, 19, 20, 21, 22, 23, 24, 25, 26, 27, 28, 29, 30, 31, 32, 33, 34, 35, 36, 37, 38, 39, 40, 41, 42, 43, 44, 45, 46, 47, 48, 49, 50, 51, 52, 53, 54], [54])])
def B12 : List Nat := [0, 1, 0, 4, 15, 31, 63, 127, 63, 511, 1023, 2047, 4095, 8191, 16383, 32767, 65535, 4095, 135167, 397311, 921599, 2097151, 4194303, 8388607, 16777215, 33554431, 67108863, 134217727, 268435455, 16777215, 553648127, 1627389951, 3774873599, 8589934591, 17179869183, 34359738367, 68719476735, 137438953471, 274877906943, 549755813887, 1099511627775, 2199023255551, 137438953471, 4535485464575, 13331578486783, 30923764531199, 70368744177663, 140737488355327, 281474976710655, 562949953421311, 1125899906842623, 2251799813685247, 1125899906842623, 9007199254740991, 18014398509481983, 36028797018963967]
theorem tab12 : rtab .any (opsOf Try.f11 12) = T12 := by kernel_rfl
theorem bits12 : waitsOk T12.2 B12 = true := by kernel_rfl
set_option maxHeartbeats 8000000 in
set_option maxRecDepth 100000 in
theorem fountainlaw10_BlockTells.calls (k : Nat) (z : Int) (A1 : Option Addr) (c1 : Nat) (L : List (List Int)) (esi : Int) (r : Bool) (w : World) (hL : (Kd.slice 5 (Kd.int .u8)).C w A1 L.length L) (hcL : L.length ≤ c1) (h : fountainlaw10_BlockTells.f k z L esi = some r) :
    Calls Try.prog 11 #[.int .i64 z, .slice A1 L.length c1, .int .i64 esi] w fun e w' => e = .returned (.bool r) ∧ Below w.heap.size w w' := by
  unfold fountainlaw10_BlockTells.f at h
  by_cases hy : Hyp k z L esi
  rotate_left
  · rw [if_neg hy] at h; cases h
  rw [if_pos hy] at h
  obtain rfl : true = r := Option.some.inj h
  obtain ⟨⟨ja, Pa, l1, l2, l3⟩, hy⟩ := hy
  have HL := Aside0.mk hL
  have LC := Aside0.mk hcL
  have LV := Aside0.mk (And.intro l1 (And.intro l2 l3))
  have HB := Aside0.mk (Below.refl w.heap.size w)
  clear h hL hcL l1 l2 l3
  by_cases q1 : 45 < (L.length : Int)
  · clear hy
    go_enter Try.func11, Try.ntmps11
    go_wp2_with (go_at_call 46; (with_reducible refine (Ba.alive.calls k ja Pa _ LV.out.1 LV.out.2.1 LV.out.2.2).mono ?_); rintro e w1 ⟨rfl, hb⟩; have n0_ := Aside0.mk (below_step HB.out hb); clear HB hb; have HB := n0_; clear n0_)
    go_ret
    exact ⟨rfl, HB.out⟩
  rcases hy with hy | hy | ⟨f1, f2, hy⟩
  · exact absurd hy q1
  · have FW := Aside0.mk hy
    clear hy
    go_enter Try.func11, Try.ntmps11
    go_wp2_with (first | (go_at_call 46; (with_reducible refine (Ba.alive.calls k ja Pa _ LV.out.1 LV.out.2.1 LV.out.2.2).mono ?_); rintro e w1 ⟨rfl, hb⟩; have n0_ := Aside0.mk (below_step HB.out hb); clear HB hb; have HB := n0_; clear n0_) | (go_at_call 25; (with_reducible refine (fountainlaw2_Few.calls k A1 c1 L _ _ ?sM LC.out FW.out).mono ?_); (case sM => exact Kd.C_below HL.out bel); rintro e w' ⟨rfl, ⟨nd, rfl⟩⟩))
    go_ret
    exact ⟨rfl, bel⟩
  have FW := Aside0.mk f1
  have TO := Aside0.mk f2
  clear f1 f2
  rcases hy with ⟨er, ne, y1, y2⟩ | ⟨K0, S, H, j, P, j2, P2, x, g, wv, lv, y1, y2, y3, y4, y5, y6, y7, y8⟩
  · have N1 := Aside0.mk y1
    have N2 := Aside0.mk y2
    have q2 : (er != 0) = true := bne_iff_ne.2 ne
    have q3 : (er != er) = false := bne_eq_false_iff_eq.2 rfl
    clear y1 y2 ne
    go_enter Try.func11, Try.ntmps11
    go_wp2_with (first | (go_at_call 46; (with_reducible refine (Ba.alive.calls k ja Pa _ LV.out.1 LV.out.2.1 LV.out.2.2).mono ?_); rintro e w1 ⟨rfl, hb⟩; have n0_ := Aside0.mk (below_step HB.out hb); clear HB hb; have HB := n0_; clear n0_) | (go_at_call 25; (with_reducible refine (fountainlaw2_Few.calls k A1 c1 L _ _ ?sM LC.out FW.out).mono ?_); (case sM => exact Kd.C_below HL.out bel); rintro e w' ⟨rfl, ⟨nd, rfl⟩⟩) | (go_at_call 27; (with_reducible refine (fountainlaw2_To.calls k A1 c1 L L _ ?sM LC.out TO.out).mono ?_); (case sM => exact Kd.C_below HL.out bel); rintro e w2 ⟨v, rfl, ho_, hb⟩; obtain ⟨A5, c5, rfl, l5_, C5_⟩ := Kd.R_reads (Kd.S_R ho_); have C5 := Aside0.mk C5_; have L5 := Aside0.mk l5_; have n0_ := Aside0.mk (below_step (show Below w.heap.size w _ from bel) hb); clear HB hb ho_ l5_ C5_; have HB := n0_; clear n0_) | (go_at_call 47; (with_reducible refine (new.calls k z A5 c5 L _ _ C5.out L5.out N1.out).mono ?_); rintro e w3 ⟨rfl, hb⟩; have n0_ := Aside0.mk (below_step HB.out hb); clear HB hb C5; have HB := n0_; clear n0_) | (go_at_call 48; (with_reducible refine (rnew.calls k z A1 c1 L _ _ ?sM LC.out N2.out).mono ?_); (case sM => exact Kd.C_below HL.out bel); rintro e w4 ⟨rfl, hb⟩; have n0_ := Aside0.mk (below_step HB.out hb); clear HB hb; have HB := n0_; clear n0_) | (go_at_call 49; (with_reducible refine (fountainlaw10_num.calls er er _ rfl).mono ?_); rintro e w' ⟨rfl, ⟨nd, rfl⟩⟩))
    go_ret
    exact ⟨rfl, bel⟩
  · have N1 := Aside0.mk y1
    have N2 := Aside0.mk y2
    have Y3 := Aside0.mk y3
    have Y4 := Aside0.mk y4
    have Y5 := Aside0.mk y5
    have Y6 := Aside0.mk y6
    have Y7 := Aside0.mk y7
    have Y8 := Aside0.mk y8
    clear y1 y2 y3 y4 y5 y6 y7 y8
    go_enter Try.func11, Try.ntmps11
    go_upto_region 12 with (first | (go_at_call 46; (with_reducible refine (Ba.alive.calls k ja Pa _ LV.out.1 LV.out.2.1 LV.out.2.2).mono ?_); rintro e w1 ⟨rfl, hb⟩; have n0_ := Aside0.mk (below_step HB.out hb); clear HB hb; have HB := n0_; clear n0_) | (go_at_call 25; (with_reducible refine (fountainlaw2_Few.calls k A1 c1 L _ _ ?sM LC.out FW.out).mono ?_); (case sM => exact Kd.C_below HL.out bel); rintro e w' ⟨rfl, ⟨nd, rfl⟩⟩) | (go_at_call 27; (with_reducible refine (fountainlaw2_To.calls k A1 c1 L L _ ?sM LC.out TO.out).mono ?_); (case sM => exact Kd.C_below HL.out bel); rintro e w2 ⟨v, rfl, ho_, hb⟩; obtain ⟨A5, c5, rfl, l5_, C5_⟩ := Kd.R_reads (Kd.S_R ho_); have C5 := Aside0.mk C5_; have L5 := Aside0.mk l5_; have n0_ := Aside0.mk (below_step (show Below w.heap.size w _ from bel) hb); clear HB hb ho_ l5_ C5_; have HB := n0_; clear n0_) | (go_at_call 47; (with_reducible refine (new.calls k z A5 c5 L _ _ C5.out L5.out N1.out).mono ?_); rintro e w3 ⟨gb, Ab, cb, rfl, _, bx_, C_, lc_, hb⟩; have BX := Aside0.mk bx_; have CP := Aside0.mk C_; have LP := Aside0.mk lc_; have n0_ := Aside0.mk (below_step HB.out hb); clear HB hb C5 bx_ C_ lc_; have HB := n0_; clear n0_) | (go_at_call 48; (with_reducible refine (rnew.calls k z A1 c1 L _ _ ?sM LC.out N2.out).mono ?_); (case sM => exact Kd.C_below HL.out bel); rintro e w4 ⟨gr, Ar, cr, rfl, _, bx_, C_, lc_, hb⟩; have BR := Aside0.mk bx_; have CR := Aside0.mk C_; have LR := Aside0.mk lc_; have n0_ := Aside0.mk (below_step HB.out hb); have n1_ := Aside0.mk (blk_below BX.out hb); have n2_ := Aside0.mk (Kd.C_below CP.out hb); clear HB hb bx_ C_ lc_ BX CP; have HB := n0_; have BX := n1_; have CP := n2_; clear n0_ n1_ n2_) | (go_at_call 49; (with_reducible refine (fountainlaw10_num.calls 0 0 _ rfl).mono ?_); rintro e w' ⟨rfl, ⟨nd, rfl⟩⟩) | (go_at_call 50; (with_reducible refine (sym.calls k gb K0 S H j z Ab cb P esi _ _ (blk_drewN BX.out _) (Kd.C_drewN CP.out _) LP.out Y3.out).mono ?_); rintro e w5 ⟨Ax, cx, rfl, lx_, Cx_, hb⟩; have CX := Aside0.mk Cx_; have n0_ := Aside0.mk (below_step (show Below w.heap.size w _ from bel) hb); have n1_ := Aside0.mk (blk_below (blk_drewN BX.out _) hb); have n2_ := Aside0.mk (blk_below (blk_drewN BR.out _) hb); have n3_ := Aside0.mk (Kd.C_below (Kd.C_drewN CR.out _) hb); clear HB hb lx_ Cx_ BX BR CR CP; have HB := n0_; have BX := n1_; have BR := n2_; have CR := n3_; clear n0_ n1_ n2_ n3_) | (go_at_call 51; (with_reducible refine (rsym.calls k gr K0 j2 z Ar cr P2 esi _ _ BR.out CR.out LR.out Y4.out).mono ?_); rintro e w6 ⟨Ay, cy, rfl, ly_, Cy_, hb⟩; have CY := Aside0.mk Cy_; have n0_ := Aside0.mk (below_step (show Below w.heap.size w _ from bel) hb); have n1_ := Aside0.mk (blk_below BX.out hb); have n2_ := Aside0.mk (blk_below BR.out hb); have n3_ := Aside0.mk (Kd.C_below CX.out hb); clear HB hb ly_ Cy_ BX BR CX CR; have HB := n0_; have BX := n1_; have BR := n2_; have CX := n3_; clear n0_ n1_ n2_ n3_))
    refine start_ (n := 56) (S := fun w' => Below w6.heap.size w6 w') (ds := []) (ms 56 0) (by kernel_rfl) rfl rfl (Below.refl _ _).drew (fun hHeld => ?_); refine with_tabW tab12 bits12 (fun HT_ HW_ => ?_)
    have HW := Aside0.mk (show Below w6.heap.size w6 w6.drew from (Below.refl _ _).drew)
    generalize w6.drew = w7 at hHeld HW ⊢
    refine run_ [(0, false, some 68), (1, true, some 69), (2, false, some 70), (3, true, some 71), (4, false, some 72), (5, false, some 73), (6, false, some 74), (8, false, some 76)] (n := 8) (ms 56 383) rfl HT_.out HW_.out (by kernel_rfl) (fun _ _ _ _ h => h) hHeld ?_
    repeat (first | (refine Run.p (v := ?_) (a' := ?_) rfl rfl (Or.inl ⟨by rfl, ?_⟩) ?_ ?_; rotate_left; (focus intro w'; go_simp; with_reducible rfl); rotate_left; (focus simp only [Act.put, List.setIfInBounds_toArray, List.set_cons_zero, List.set_cons_succ, i64_w, i32_w]; rfl)) | (refine Run.t (v := ?_) (a' := ?_) rfl rfl (Or.inl ⟨by rfl, ?_⟩) ?_ ?_; rotate_left; (focus intro w' hS; have hcvx := Kd.C_string (P := Try.prog) (A := Ax) (c := cx) Try.underlying31 Try.underlying5 Try.underlying9 (Kd.C_below CX.out hS); have hcvy := Kd.C_string (P := Try.prog) (A := Ay) (c := cy) Try.underlying30 Try.underlying5 Try.underlying9 (Kd.C_below CY.out hS); have bx_ := blk_below BX.out hS; have br_ := blk_below BR.out hS; have s0 : w'.cell? ⟨gb, 0, none⟩ = some (.int .i64 K0) := (blk_cell bx_ 0).trans rfl; have s1 : w'.cell? ⟨gb, 1, none⟩ = some (.int .i64 S) := (blk_cell bx_ 1).trans rfl; have s2 : w'.cell? ⟨gb, 2, none⟩ = some (.int .i64 H) := (blk_cell bx_ 2).trans rfl; have r0 : w'.cell? ⟨gr, 0, none⟩ = some (.int .i64 K0) := (blk_cell br_ 0).trans rfl; go_simp; with_reducible rfl); rotate_left; (focus simp only [Act.put, List.setIfInBounds_toArray, List.set_cons_zero, List.set_cons_succ, i64_w, i32_w]; rfl)))
    refine Run.nil ?_
    refine one_ (i := 7) (N := some 75) (ms 56 511) rfl rfl (one_of HT_.out (by kernel_rfl)) (by decide) (fun K hK => ?_)
    refine goes_ Try.func49 (by kernel_rfl) rfl #[.int .i64 g] (by rfl) rfl rfl agl ?_
    with_reducible refine (fountainlaw10_num.calls g g _ rfl).mono ?_
    rintro e w' ⟨rfl, ⟨nd, rfl⟩⟩
    refine ⟨_, rfl, ?_⟩
    have n0_ := Aside0.mk (pw_below_drewN HW.out nd)
    clear HW
    have HW := n0_
    clear n0_
    refine hK.out _ _ HW.out (fun hHeld => ?_)
    clear hK
    refine norm_ (a' := ?_) ?_ ?_
    rotate_left
    · show Act.put _ (some 75) _ = _
      simp only [Act.put, List.setIfInBounds_toArray, List.set_cons_zero, List.set_cons_succ, i64_w, i32_w]
      rfl
    refine run_ [(9, false, some 77), (10, false, some 78), (11, false, some 79), (12, false, some 80), (13, false, some 81), (14, false, some 82), (15, false, some 83), (16, true, some 84), (17, false, some 85), (18, false, some 86), (19, false, some 87), (20, true, some 88), (21, false, some 89), (22, false, some 90), (23, false, some 91), (24, false, some 92), (25, false, some 93), (26, false, some 94), (27, true, some 95), (29, false, some 97), (30, false, some 98), (31, false, some 99), (32, true, some 100)] (n := 23) (ms 56 8321499135) rfl HT_.out HW_.out (by kernel_rfl) (fun _ _ _ _ h => h) hHeld ?_
    repeat (first | (refine Run.p (v := ?_) (a' := ?_) rfl rfl (Or.inl ⟨by rfl, ?_⟩) ?_ ?_; rotate_left; (focus intro w'; go_simp; with_reducible rfl); rotate_left; (focus simp only [Act.put, List.setIfInBounds_toArray, List.set_cons_zero, List.set_cons_succ, i64_w, i32_w]; rfl)) | (refine Run.t (v := ?_) (a' := ?_) rfl rfl (Or.inl ⟨by rfl, ?_⟩) ?_ ?_; rotate_left; (focus intro w' hS; have hcvx := Kd.C_string (P := Try.prog) (A := Ax) (c := cx) Try.underlying31 Try.underlying5 Try.underlying9 (Kd.C_below CX.out hS); have hcvy := Kd.C_string (P := Try.prog) (A := Ay) (c := cy) Try.underlying30 Try.underlying5 Try.underlying9 (Kd.C_below CY.out hS); have bx_ := blk_below BX.out hS; have br_ := blk_below BR.out hS; have s0 : w'.cell? ⟨gb, 0, none⟩ = some (.int .i64 K0) := (blk_cell bx_ 0).trans rfl; have s1 : w'.cell? ⟨gb, 1, none⟩ = some (.int .i64 S) := (blk_cell bx_ 1).trans rfl; have s2 : w'.cell? ⟨gb, 2, none⟩ = some (.int .i64 H) := (blk_cell bx_ 2).trans rfl; have r0 : w'.cell? ⟨gr, 0, none⟩ = some (.int .i64 K0) := (blk_cell br_ 0).trans rfl; go_simp; with_reducible rfl); rotate_left; (focus simp only [Act.put, List.setIfInBounds_toArray, List.set_cons_zero, List.set_cons_succ, i64_w, i32_w]; rfl)))
    refine Run.nil ?_
    refine one_ (i := 28) (N := some 96) (ms 56 8589934591) rfl rfl (one_of HT_.out (by kernel_rfl)) (by decide) (fun K hK => ?_)
    refine goes_ Try.func23 (by kernel_rfl) rfl #[.agg #[.int .i64 K0, .int .i64 S, .int .i64 H]] (by rfl) rfl rfl agl ?_
    with_reducible refine (params_Params_W.calls K0 S H wv _ Y5.out).mono ?_
    rintro e w8 ⟨rfl, hb_⟩
    refine ⟨_, rfl, ?_⟩
    have n0_ := Aside0.mk (below_step HW.out hb_)
    clear hb_ HW
    have HW := n0_
    clear n0_
    refine hK.out _ _ HW.out (fun hHeld => ?_)
    clear hK
    refine norm_ (a' := ?_) ?_ ?_
    rotate_left
    · show Act.put _ (some 96) _ = _
      simp only [Act.put, List.setIfInBounds_toArray, List.set_cons_zero, List.set_cons_succ, i64_w, i32_w]
      rfl
    refine one_ (i := 33) (N := some 101) (ms 56 17179869183) rfl rfl (one_of HT_.out (by kernel_rfl)) (by decide) (fun K hK => ?_)
    refine goes_ Try.func52 (by kernel_rfl) rfl #[.int .i64 K0] (by rfl) rfl rfl agl ?_
    with_reducible refine (fountainref1_W.calls K0 wv _ Y6.out).mono ?_
    rintro e w' ⟨rfl, ⟨nd, rfl⟩⟩
    refine ⟨_, rfl, ?_⟩
    have n0_ := Aside0.mk (pw_below_drewN HW.out nd)
    clear HW
    have HW := n0_
    clear n0_
    refine hK.out _ _ HW.out (fun hHeld => ?_)
    clear hK
    refine norm_ (a' := ?_) ?_ ?_
    rotate_left
    · show Act.put _ (some 101) _ = _
      simp only [Act.put, List.setIfInBounds_toArray, List.set_cons_zero, List.set_cons_succ, i64_w, i32_w]
      rfl
    refine run_ [(34, false, some 102), (35, false, some 103), (36, false, some 104), (37, false, some 105), (38, false, some 106), (39, false, some 107), (40, true, some 108), (42, false, some 110), (43, false, some 111), (44, false, some 112), (45, true, some 113)] (n := 11) (ms 56 68169720922111) rfl HT_.out HW_.out (by kernel_rfl) (fun _ _ _ _ h => h) hHeld ?_
    repeat (first | (refine Run.p (v := ?_) (a' := ?_) rfl rfl (Or.inl ⟨by rfl, ?_⟩) ?_ ?_; rotate_left; (focus intro w'; go_simp; with_reducible rfl); rotate_left; (focus simp only [Act.put, List.setIfInBounds_toArray, List.set_cons_zero, List.set_cons_succ, i64_w, i32_w]; rfl)) | (refine Run.t (v := ?_) (a' := ?_) rfl rfl (Or.inl ⟨by rfl, ?_⟩) ?_ ?_; rotate_left; (focus intro w' hS; have hcvx := Kd.C_string (P := Try.prog) (A := Ax) (c := cx) Try.underlying31 Try.underlying5 Try.underlying9 (Kd.C_below CX.out hS); have hcvy := Kd.C_string (P := Try.prog) (A := Ay) (c := cy) Try.underlying30 Try.underlying5 Try.underlying9 (Kd.C_below CY.out hS); have bx_ := blk_below BX.out hS; have br_ := blk_below BR.out hS; have s0 : w'.cell? ⟨gb, 0, none⟩ = some (.int .i64 K0) := (blk_cell bx_ 0).trans rfl; have s1 : w'.cell? ⟨gb, 1, none⟩ = some (.int .i64 S) := (blk_cell bx_ 1).trans rfl; have s2 : w'.cell? ⟨gb, 2, none⟩ = some (.int .i64 H) := (blk_cell bx_ 2).trans rfl; have r0 : w'.cell? ⟨gr, 0, none⟩ = some (.int .i64 K0) := (blk_cell br_ 0).trans rfl; go_simp; with_reducible rfl); rotate_left; (focus simp only [Act.put, List.setIfInBounds_toArray, List.set_cons_zero, List.set_cons_succ, i64_w, i32_w]; rfl)))
    refine Run.nil ?_
    refine one_ (i := 41) (N := some 109) (ms 56 70368744177663) rfl rfl (one_of HT_.out (by kernel_rfl)) (by decide) (fun K hK => ?_)
    refine goes_ Try.func22 (by kernel_rfl) rfl #[.agg #[.int .i64 K0, .int .i64 S, .int .i64 H]] (by rfl) rfl rfl agl ?_
    with_reducible refine (params_Params_L.calls K0 S H lv _ Y7.out).mono ?_
    rintro e w9 ⟨rfl, hb_⟩
    refine ⟨_, rfl, ?_⟩
    have n0_ := Aside0.mk (below_step HW.out hb_)
    clear hb_ HW
    have HW := n0_
    clear n0_
    refine hK.out _ _ HW.out (fun hHeld => ?_)
    clear hK
    refine norm_ (a' := ?_) ?_ ?_
    rotate_left
    · show Act.put _ (some 109) _ = _
      simp only [Act.put, List.setIfInBounds_toArray, List.set_cons_zero, List.set_cons_succ, i64_w, i32_w]
      rfl
    refine one_ (i := 46) (N := some 114) (ms 56 140737488355327) rfl rfl (one_of HT_.out (by kernel_rfl)) (by decide) (fun K hK => ?_)
    refine goes_ Try.func45 (by kernel_rfl) rfl #[.int .i64 K0] (by rfl) rfl rfl agl ?_
    with_reducible refine (fountainref1_L.calls K0 lv _ Y8.out).mono ?_
    rintro e w' ⟨rfl, ⟨nd, rfl⟩⟩
    refine ⟨_, rfl, ?_⟩
    have n0_ := Aside0.mk (pw_below_drewN HW.out nd)
    clear HW
    have HW := n0_
    clear n0_
    refine hK.out _ _ HW.out (fun hHeld => ?_)
    clear hK
    refine norm_ (a' := ?_) ?_ ?_
    rotate_left
    · show Act.put _ (some 114) _ = _
      simp only [Act.put, List.setIfInBounds_toArray, List.set_cons_zero, List.set_cons_succ, i64_w, i32_w]
      rfl
    refine run_ [(47, false, some 115), (48, false, some 116), (49, false, some 117), (50, false, some 118), (52, false, some 120)] (n := 5) (ms 56 6755399441055743) rfl HT_.out HW_.out (by kernel_rfl) (fun _ _ _ _ h => h) hHeld ?_
    repeat (refine Run.p (v := ?_) (a' := ?_) rfl rfl (Or.inl ⟨by rfl, ?_⟩) ?_ ?_; rotate_left; (focus intro w'; go_simp; with_reducible rfl); rotate_left; (focus simp only [Act.put, List.setIfInBounds_toArray, List.set_cons_zero, List.set_cons_succ, i64_w, i32_w]; rfl))
    refine Run.nil ?_
    refine one_ (i := 51) (N := some 119) (ms 56 9007199254740991) rfl rfl (one_of HT_.out (by kernel_rfl)) (by decide) (fun K hK => ?_)
    refine goes_ Try.func53 (by kernel_rfl) rfl #[.pointer (some ⟨gb, 0, none⟩)] (by rfl) rfl rfl agl ?_
    with_reducible refine (size.calls gb K0 S H j z Ab cb P.length _ (blk_below BX.out HW.out)).mono ?_
    rintro e w10 ⟨rfl, hb_⟩
    refine ⟨_, rfl, ?_⟩
    have n0_ := Aside0.mk (below_step HW.out hb_)
    clear hb_ HW
    have HW := n0_
    clear n0_
    refine hK.out _ _ HW.out (fun hHeld => ?_)
    clear hK
    refine norm_ (a' := ?_) ?_ ?_
    rotate_left
    · show Act.put _ (some 119) _ = _
      simp only [Act.put, List.setIfInBounds_toArray, List.set_cons_zero, List.set_cons_succ, i64_w, i32_w]
      rfl
    refine run_ [(53, false, some 121), (54, false, some 122), (55, false, some 6)] (n := 3) (ms 56 72057594037927935) rfl HT_.out HW_.out (by kernel_rfl) (fun _ _ _ _ h => h) hHeld ?_
    repeat (refine Run.p (v := ?_) (a' := ?_) rfl rfl (Or.inl ⟨by rfl, ?_⟩) ?_ ?_; rotate_left; (focus intro w'; go_simp; with_reducible rfl); rotate_left; (focus simp only [Act.put, List.setIfInBounds_toArray, List.set_cons_zero, List.set_cons_succ, i64_w, i32_w]; rfl))
    refine Run.nil ?_
    refine done_ (done_of HT_.out (by kernel_rfl)) ?_
    try go_wp2
    go_ret
    exact ⟨rfl, below_step HB.out HW.out⟩
end Go.Proofs.Ytbfhinfblepidaa.Bt
