/- fountainlaw10.BlockSource: it answers true, if what it calls comes to what is said. Conditions: those that stand in the theorems. -/
import Derived.Test.YtbfhinfblepidaaBa
namespace Go.Proofs.Ytbfhinfblepidaa.Bo
open Go.RowKit Go.Lib Go.Proofs.Ytbfhinfblepidaa.PSolveTells Go.Proofs.Ytbfhinfblepidaa.PSeedTells Go.Proofs.Ytbfhinfblepidaa.PBlockTells Go.Proofs.YtbfhinfblepidaaW.PrintWords Go.Proofs.YtbfhinfblepidaaW.PrintLast Go.Proofs.YtbfhinfblepidaaW.PrintMore Go.Proofs.Ytbfhinfblepidaa.Mt Go.Proofs.Ytbfhinfblepidaa.Bs Go.Proofs.Ytbfhinfblepidaa.Bn
set_option linter.unusedVariables false
set_option linter.unusedSimpArgs false
/-- What the example of the document comes to. -/
def Live (k : Nat) : Prop := ∃ (j : Int) (P : List (List Int)), new.f k 1 [] = some (none, 1) ∧ new.f k 2 [[97, 98]] = some (some (1, 2, 2, j, P), 0) ∧ sym.f k 1 2 2 j 2 P 0 = some ([97, 98], 0)
/-- What the block comes to: none, for one of two reasons; or one whose first symbols are the source. -/
def ToldS (k : Nat) (L : List (List Int)) : Prop :=
 (∃ e : Int, (e = 10 ∨ e = 5) ∧ new.f k ((ro L 0).length : Int) L = some (none, e)) ∨
 (∃ (K0 S H j : Int) (P : List (List Int)), new.f k ((ro L 0).length : Int) L = some (some (K0, S, H, j, P), 0) ∧ ∀ i : Nat, i < L.length → sym.f k K0 S H j ((ro L 0).length : Int) P (i : Int) = some (ro L i, 0))
def Hyp (k : Nat) (L : List (List Int)) : Prop :=
 Live k ∧ ((L.length : Int) < 1 ∨ 12 < (L.length : Int) ∨ fountainlaw2_Few.f k L = some false ∨ (fountainlaw2_Few.f k L = some true ∧ (((ro L 0).length : Int) < 1 ∨ 64 < ((ro L 0).length : Int) ∨ (fountainlaw2_To.f k L = some L ∧ ToldS k L))))
noncomputable def fountainlaw10_BlockSource.f (k : Nat) (L : List (List Int)) : Option Bool := @ite _ (Hyp k L) (Classical.propDecidable _) (some true) none
def T4 : Bool × List (List Nat × List Nat) := (true, [([], []), ([0], [0]), ([1], [1]), ([2], [2]), ([], []), ([4], [4]), ([3, 5, 5], [3, 5]), ([6], [6]), ([7], [7]), ([7], [7]), ([8, 6, 0, 1, 2, 3, 4, 5, 6, 7, 8], [8]), ([9, 10, 0, 1, 2, 3, 4, 5, 6, 7, 8, 9, 10], [9])])
def B4 : List Nat := [0, 1, 3, 7, 0, 16, 63, 127, 255, 255, 511, 2047]
theorem tab4 : rtab .any (opsOf Try.f12 4) = T4 := by kernel_rfl
theorem bits4 : waitsOk T4.2 B4 = true := by kernel_rfl
def T11 : Bool × List (List Nat × List Nat) := (true, [([], []), ([0], [0]), ([1], [1]), ([2, 1], [2]), ([3], [3]), ([4, 3], [3, 4]), ([3], [3]), ([3], [3]), ([6, 7, 3], [3, 6, 7]), ([8, 3], [3, 8]), ([9, 3], [3, 9]), ([5, 10, 3], [3, 5, 10]), ([3, 11], [3, 11])])
def B11 : List Nat := [0, 1, 3, 7, 15, 31, 15, 15, 207, 463, 975, 2047, 4095]
theorem tab11 : rtab .any (opsOf Try.f12 11) = T11 := by kernel_rfl
theorem bits11 : waitsOk T11.2 B11 = true := by kernel_rfl
set_option maxHeartbeats 8000000 in
set_option maxRecDepth 100000 in
theorem fountainlaw10_BlockSource.calls (k : Nat) (A1 : Option Addr) (c1 : Nat) (L : List (List Int)) (r : Bool) (w : World) (hL : (Kd.slice 5 (Kd.int .u8)).C w A1 L.length L) (hcL : L.length ≤ c1) (h : fountainlaw10_BlockSource.f k L = some r) :
 Calls Try.prog 12 #[.slice A1 L.length c1] w fun e w' => e = .returned (.bool r) ∧ Below w.heap.size w w' := by
 unfold fountainlaw10_BlockSource.f at h
 by_cases hy : Hyp k L
 rotate_left
 ·rw [if_neg hy] at h; cases h
 rw [if_pos hy] at h
 obtain rfl : true = r := Option.some.inj h
 obtain ⟨⟨ja, Pa, l1, l2, l3⟩, hy⟩ := hy
 have HL := Aside0.mk hL
 have LC := Aside0.mk hcL
 have LV := Aside0.mk (And.intro l1 (And.intro l2 l3))
 have HB := Aside0.mk (Below.refl w.heap.size w)
 clear h hL hcL l1 l2 l3
 by_cases q1 : (L.length : Int) < 1
 ·clear hy
  go_enter Try.func12, Try.ntmps12
  go_wp2_with (go_at_call 46; (with_reducible refine (Ba.alive.calls k ja Pa _ LV.out.1 LV.out.2.1 LV.out.2.2).mono ?_); rintro e w1 ⟨rfl, hb⟩; have n0_ := Aside0.mk (below_step HB.out hb); clear HB hb; have HB := n0_; clear n0_)
  go_ret
  exact ⟨rfl, HB.out⟩
 by_cases q2 : 12 < (L.length : Int)
 ·clear hy
  go_enter Try.func12, Try.ntmps12
  go_wp2_with (go_at_call 46; (with_reducible refine (Ba.alive.calls k ja Pa _ LV.out.1 LV.out.2.1 LV.out.2.2).mono ?_); rintro e w1 ⟨rfl, hb⟩; have n0_ := Aside0.mk (below_step HB.out hb); clear HB hb; have HB := n0_; clear n0_)
  go_ret
  exact ⟨rfl, HB.out⟩
 rcases hy with hy | hy | hy | ⟨f1, hy⟩
 ·exact absurd hy q1
 ·exact absurd hy q2
 ·have FW := Aside0.mk hy
  clear hy
  go_enter Try.func12, Try.ntmps12
  go_wp2_with (first | (go_at_call 46; (with_reducible refine (Ba.alive.calls k ja Pa _ LV.out.1 LV.out.2.1 LV.out.2.2).mono ?_); rintro e w1 ⟨rfl, hb⟩; have n0_ := Aside0.mk (below_step HB.out hb); clear HB hb; have HB := n0_; clear n0_) | (go_at_call 25; (with_reducible refine (fountainlaw2_Few.calls k A1 c1 L _ _ ?sM LC.out FW.out).mono ?_); (case sM => exact Kd.C_below HL.out bel); rintro e w' ⟨rfl, ⟨nd, rfl⟩⟩))
  go_ret
  exact ⟨rfl, bel⟩
 have FW := Aside0.mk f1
 clear f1
 obtain ⟨ad, A0, c0, e, x0_, l0_, C0_⟩ := Cf.at_L1 HL.out 0 (by omega) (by omega)
 cases e
 have X0 := Aside0.mk (show w.cell? ad = some (.slice A0 (ro L 0).length c0) from by have := x0_; rwa [AlSolveTells.add0] at this)
 clear x0_ l0_ C0_
 obtain ⟨z, hz⟩ : ∃ z : Nat, (ro L 0).length = z := ⟨_, rfl⟩
 unfold ToldS at hy
 rw [hz] at hy X0
 by_cases q3 : (z : Int) < 1
 ·clear hy
  go_enter Try.func12, Try.ntmps12
  go_wp2_with (first | (go_at_call 46; (with_reducible refine (Ba.alive.calls k ja Pa _ LV.out.1 LV.out.2.1 LV.out.2.2).mono ?_); rintro e w1 ⟨rfl, hb⟩; have n0_ := Aside0.mk (below_step HB.out hb); clear HB hb; have HB := n0_; clear n0_; have x1_ : w1.cell? ad = some (.slice A0 z c0) := (HB.out.cell (World.block_lt_of_cell? w _ X0.out)).trans X0.out) | (go_at_call 25; (with_reducible refine (fountainlaw2_Few.calls k (some ad) c1 L _ _ ?sM LC.out FW.out).mono ?_); (case sM => exact Kd.C_below HL.out bel); rintro e w' ⟨rfl, ⟨nd, rfl⟩⟩))
  go_ret
  exact ⟨rfl, bel⟩
 by_cases q4 : 64 < (z : Int)
 ·clear hy
  go_enter Try.func12, Try.ntmps12
  go_wp2_with (first | (go_at_call 46; (with_reducible refine (Ba.alive.calls k ja Pa _ LV.out.1 LV.out.2.1 LV.out.2.2).mono ?_); rintro e w1 ⟨rfl, hb⟩; have n0_ := Aside0.mk (below_step HB.out hb); clear HB hb; have HB := n0_; clear n0_; have x1_ : w1.cell? ad = some (.slice A0 z c0) := (HB.out.cell (World.block_lt_of_cell? w _ X0.out)).trans X0.out) | (go_at_call 25; (with_reducible refine (fountainlaw2_Few.calls k (some ad) c1 L _ _ ?sM LC.out FW.out).mono ?_); (case sM => exact Kd.C_below HL.out bel); rintro e w' ⟨rfl, ⟨nd, rfl⟩⟩))
  go_ret
  exact ⟨rfl, bel⟩
 rcases hy with hy | hy | ⟨f2, hy⟩
 ·exact absurd hy q3
 ·exact absurd hy q4
 have TO := Aside0.mk f2
 clear f2
 rcases hy with ⟨er, ner, y1⟩ | ⟨K0, S, H, j, P, y1, y2⟩
 ·have N1 := Aside0.mk y1
  clear y1
  go_enter Try.func12, Try.ntmps12
  go_upto_region 4 with (first | (go_at_call 46; (with_reducible refine (Ba.alive.calls k ja Pa _ LV.out.1 LV.out.2.1 LV.out.2.2).mono ?_); rintro e w1 ⟨rfl, hb⟩; have n0_ := Aside0.mk (below_step HB.out hb); clear HB hb; have HB := n0_; clear n0_; have x1_ : w1.cell? ad = some (.slice A0 z c0) := (HB.out.cell (World.block_lt_of_cell? w _ X0.out)).trans X0.out) | (go_at_call 25; (with_reducible refine (fountainlaw2_Few.calls k (some ad) c1 L _ _ ?sM LC.out FW.out).mono ?_); (case sM => exact Kd.C_below HL.out bel); rintro e w' ⟨rfl, ⟨nd, rfl⟩⟩))
  obtain ⟨W4, hW4⟩ : ∃ W4, W4 = w1.drewN nd := ⟨_, rfl⟩
  have hb4 : Below w.heap.size w W4 := by rw [hW4]; exact pw_below_drewN HB.out _
  rw [← hW4]
  clear HB x1_ hW4
  have HB := Aside0.mk hb4
  clear hb4
  refine start_ (n := 12) (S := fun w' => Below W4.heap.size W4 w') (ds := []) (ms 12 0) (by kernel_rfl) rfl rfl (Below.refl _ _).drew (fun hHeld => ?_); refine with_tabW tab4 bits4 (fun HT_ HW_ => ?_)
  have HW := Aside0.mk (show Below W4.heap.size W4 W4.drew from (Below.refl _ _).drew)
  generalize W4.drew = w11 at hHeld HW ⊢
  refine run_ [(0, false, some 43), (1, false, some 44), (2, true, some 45), (3, false, some 46), (4, false, some 47)] (n := 5) (ms 12 31) rfl HT_.out HW_.out (by kernel_rfl) (fun _ _ _ _ h => h) hHeld ?_
  repeat (first | (refine Run.p (v := ?_) (a' := ?_) rfl rfl (Or.inl ⟨by rfl, ?_⟩) ?_ ?_; rotate_left; (focus intro w'; go_simp; with_reducible rfl); rotate_left; (focus simp only [Act.put, List.setIfInBounds_toArray, List.set_cons_zero, List.set_cons_succ, i64_w, i32_w]; rfl)) | (refine Run.t (v := ?_) (a' := ?_) rfl rfl (Or.inl ⟨by rfl, ?_⟩) ?_ ?_; rotate_left; (focus intro w' hS; have x2_ : w'.cell? ad = some (.slice A0 z c0) := ((below_step HB.out hS).cell (World.block_lt_of_cell? w _ X0.out)).trans X0.out; go_simp; with_reducible rfl); rotate_left; (focus simp only [Act.put, List.setIfInBounds_toArray, List.set_cons_zero, List.set_cons_succ, i64_w, i32_w]; rfl)))
  refine Run.nil ?_
  refine one_ (i := 5) (N := some 48) (ms 12 63) rfl rfl (one_of HT_.out (by kernel_rfl)) (by decide) (fun K hK => ?_)
  refine goes_ Try.func27 (by kernel_rfl) rfl #[.slice (some ad) L.length c1] (by rfl) rfl rfl agl ?_
  with_reducible refine (fountainlaw2_To.calls k (some ad) c1 L L _ (Kd.C_below HL.out (below_step HB.out HW.out)) LC.out TO.out).mono ?_
  rintro e w12 ⟨v, rfl, ho_, hb_⟩
  refine ⟨_, rfl, ?_⟩
  obtain ⟨A5, c5, rfl, l5_, C5_⟩ := Kd.R_reads (Kd.S_R ho_)
  have C5 := Aside0.mk C5_
  have L5 := Aside0.mk l5_
  have n0_ := Aside0.mk (below_step HW.out hb_)
  clear ho_ l5_ C5_ hb_ HW
  have HW := n0_
  clear n0_
  refine hK.out _ _ HW.out (fun hHeld => ?_)
  clear hK
  refine norm_ (a' := ?_) ?_ ?_
  rotate_left
  ·show Act.put _ (some 48) _ = _
   simp only [Act.put, List.setIfInBounds_toArray, List.set_cons_zero, List.set_cons_succ, i64_w, i32_w]
   rfl
  refine one_ (i := 6) (N := some 49) (ms 12 127) rfl rfl (one_of HT_.out (by kernel_rfl)) (by decide) (fun K hK => ?_)
  refine goes_ Try.func47 (by kernel_rfl) rfl #[.int .i64 (z : Int), .slice A5 L.length c5] (by rfl) rfl rfl agl ?_
  with_reducible refine (new.calls k (z : Int) A5 c5 L _ _ C5.out L5.out N1.out).mono ?_
  rintro e w13 ⟨rfl, hb_⟩
  refine ⟨_, rfl, ?_⟩
  have n0_ := Aside0.mk (below_step HW.out hb_)
  clear hb_ HW
  have HW := n0_
  clear n0_
  refine hK.out _ _ HW.out (fun hHeld => ?_)
  clear hK
  refine norm_ (a' := ?_) ?_ ?_
  rotate_left
  ·show Act.put _ (some 49) _ = _
   simp only [Act.put, List.setIfInBounds_toArray, List.set_cons_zero, List.set_cons_succ, i64_w, i32_w]
   rfl
  refine run_ [(7, false, some 42), (8, false, some 50), (9, false, some 51), (10, false, some 4), (11, false, some 5)] (n := 5) (ms 12 4095) rfl HT_.out HW_.out (by kernel_rfl) (fun _ _ _ _ h => h) hHeld ?_
  repeat (refine Run.p (v := ?_) (a' := ?_) rfl rfl (Or.inl ⟨by rfl, ?_⟩) ?_ ?_; rotate_left; (focus intro w'; go_simp; with_reducible rfl); rotate_left; (focus simp only [Act.put, List.setIfInBounds_toArray, List.set_cons_zero, List.set_cons_succ, i64_w, i32_w]; rfl))
  refine Run.nil ?_
  refine done_ (done_of HT_.out (by kernel_rfl)) ?_
  clear HT_ HW_ hHeld
  rcases ner with rfl | rfl
  ·go_wp2_with (go_at_call 49; (with_reducible refine (fountainlaw10_num.calls 10 10 _ rfl).mono ?_); rintro e w' ⟨rfl, ⟨nd, rfl⟩⟩)
   go_ret
   exact ⟨rfl, pw_below_drewN (below_step HB.out HW.out) _⟩
  ·go_wp2_with (go_at_call 49; (with_reducible refine (fountainlaw10_num.calls 5 5 _ rfl).mono ?_); rintro e w' ⟨rfl, ⟨nd, rfl⟩⟩)
   go_ret
   exact ⟨rfl, pw_below_drewN (below_step HB.out HW.out) _⟩
 ·have N1 := Aside0.mk y1
  have Y2 := Aside0.mk y2
  clear y1 y2
  go_enter Try.func12, Try.ntmps12
  go_upto_region 4 with (first | (go_at_call 46; (with_reducible refine (Ba.alive.calls k ja Pa _ LV.out.1 LV.out.2.1 LV.out.2.2).mono ?_); rintro e w1 ⟨rfl, hb⟩; have n0_ := Aside0.mk (below_step HB.out hb); clear HB hb; have HB := n0_; clear n0_; have x1_ : w1.cell? ad = some (.slice A0 z c0) := (HB.out.cell (World.block_lt_of_cell? w _ X0.out)).trans X0.out) | (go_at_call 25; (with_reducible refine (fountainlaw2_Few.calls k (some ad) c1 L _ _ ?sM LC.out FW.out).mono ?_); (case sM => exact Kd.C_below HL.out bel); rintro e w' ⟨rfl, ⟨nd, rfl⟩⟩))
  obtain ⟨W4, hW4⟩ : ∃ W4, W4 = w1.drewN nd := ⟨_, rfl⟩
  have hb4 : Below w.heap.size w W4 := by rw [hW4]; exact pw_below_drewN HB.out _
  rw [← hW4]
  clear HB x1_ hW4
  have HB := Aside0.mk hb4
  clear hb4
  refine start_ (n := 12) (S := fun w' => Below W4.heap.size W4 w') (ds := []) (ms 12 0) (by kernel_rfl) rfl rfl (Below.refl _ _).drew (fun hHeld => ?_); refine with_tabW tab4 bits4 (fun HT_ HW_ => ?_)
  have HW := Aside0.mk (show Below W4.heap.size W4 W4.drew from (Below.refl _ _).drew)
  generalize W4.drew = w11 at hHeld HW ⊢
  refine run_ [(0, false, some 43), (1, false, some 44), (2, true, some 45), (3, false, some 46), (4, false, some 47)] (n := 5) (ms 12 31) rfl HT_.out HW_.out (by kernel_rfl) (fun _ _ _ _ h => h) hHeld ?_
  repeat (first | (refine Run.p (v := ?_) (a' := ?_) rfl rfl (Or.inl ⟨by rfl, ?_⟩) ?_ ?_; rotate_left; (focus intro w'; go_simp; with_reducible rfl); rotate_left; (focus simp only [Act.put, List.setIfInBounds_toArray, List.set_cons_zero, List.set_cons_succ, i64_w, i32_w]; rfl)) | (refine Run.t (v := ?_) (a' := ?_) rfl rfl (Or.inl ⟨by rfl, ?_⟩) ?_ ?_; rotate_left; (focus intro w' hS; have x2_ : w'.cell? ad = some (.slice A0 z c0) := ((below_step HB.out hS).cell (World.block_lt_of_cell? w _ X0.out)).trans X0.out; go_simp; with_reducible rfl); rotate_left; (focus simp only [Act.put, List.setIfInBounds_toArray, List.set_cons_zero, List.set_cons_succ, i64_w, i32_w]; rfl)))
  refine Run.nil ?_
  refine one_ (i := 5) (N := some 48) (ms 12 63) rfl rfl (one_of HT_.out (by kernel_rfl)) (by decide) (fun K hK => ?_)
  refine goes_ Try.func27 (by kernel_rfl) rfl #[.slice (some ad) L.length c1] (by rfl) rfl rfl agl ?_
  with_reducible refine (fountainlaw2_To.calls k (some ad) c1 L L _ (Kd.C_below HL.out (below_step HB.out HW.out)) LC.out TO.out).mono ?_
  rintro e w12 ⟨v, rfl, ho_, hb_⟩
  refine ⟨_, rfl, ?_⟩
  obtain ⟨A5, c5, rfl, l5_, C5_⟩ := Kd.R_reads (Kd.S_R ho_)
  have C5 := Aside0.mk C5_
  have L5 := Aside0.mk l5_
  have n0_ := Aside0.mk (below_step HW.out hb_)
  clear ho_ l5_ C5_ hb_ HW
  have HW := n0_
  clear n0_
  refine hK.out _ _ HW.out (fun hHeld => ?_)
  clear hK
  refine norm_ (a' := ?_) ?_ ?_
  rotate_left
  ·show Act.put _ (some 48) _ = _
   simp only [Act.put, List.setIfInBounds_toArray, List.set_cons_zero, List.set_cons_succ, i64_w, i32_w]
   rfl
  refine one_ (i := 6) (N := some 49) (ms 12 127) rfl rfl (one_of HT_.out (by kernel_rfl)) (by decide) (fun K hK => ?_)
  refine goes_ Try.func47 (by kernel_rfl) rfl #[.int .i64 (z : Int), .slice A5 L.length c5] (by rfl) rfl rfl agl ?_
  with_reducible refine (new.calls k (z : Int) A5 c5 L _ _ C5.out L5.out N1.out).mono ?_
  rintro e w13 ⟨g, A, c, rfl, _, bx_, C_, lc_, hb_⟩
  refine ⟨_, rfl, ?_⟩
  have BX := Aside0.mk bx_
  have CP := Aside0.mk C_
  have LP := Aside0.mk lc_
  have n0_ := Aside0.mk (below_step HW.out hb_)
  clear hb_ HW bx_ C_ lc_
  have HW := n0_
  clear n0_
  refine hK.out _ _ HW.out (fun hHeld => ?_)
  clear hK
  refine norm_ (a' := ?_) ?_ ?_
  rotate_left
  ·show Act.put _ (some 49) _ = _
   simp only [Act.put, List.setIfInBounds_toArray, List.set_cons_zero, List.set_cons_succ, i64_w, i32_w]
   rfl
  refine run_ [(7, false, some 42), (8, false, some 50), (9, false, some 51), (10, false, some 4), (11, false, some 5)] (n := 5) (ms 12 4095) rfl HT_.out HW_.out (by kernel_rfl) (fun _ _ _ _ h => h) hHeld ?_
  repeat (refine Run.p (v := ?_) (a' := ?_) rfl rfl (Or.inl ⟨by rfl, ?_⟩) ?_ ?_; rotate_left; (focus intro w'; go_simp; with_reducible rfl); rotate_left; (focus simp only [Act.put, List.setIfInBounds_toArray, List.set_cons_zero, List.set_cons_succ, i64_w, i32_w]; rfl))
  refine Run.nil ?_
  refine done_ (done_of HT_.out (by kernel_rfl)) ?_
  clear HT_ HW_ hHeld
  have n0_ := Aside0.mk (below_step HB.out HW.out)
  clear HB HW
  have HB := n0_
  clear n0_
  go_wp2_with (go_at_call 49; (with_reducible refine (fountainlaw10_num.calls 0 0 _ rfl).mono ?_); rintro e w' ⟨rfl, ⟨nd, rfl⟩⟩)
  go_loopg [6] L.length (fun gg v6 wr => ∃ i : Nat, v6 = .int .i64 (i : Int) ∧ Aside0 (i + gg = L.length) ∧ Aside0 (Blk wr g K0 S H j (z : Int) A c P.length) ∧ Aside0 ((Kd.slice 5 (Kd.int .u8)).C wr A P.length P) ∧ Aside0 (Below w.heap.size w wr))
  case atStart => exact ⟨0, by simp, ⟨Nat.zero_add _⟩, ⟨blk_drewN BX.out _⟩, ⟨Kd.C_drewN CP.out _⟩, ⟨pw_below_drewN HB.out _⟩⟩
  case round =>
   clear HB BX CP
   obtain ⟨i, rfl, E1, BX, CP, HB⟩ := hrel
   cases gk with
   | zero =>
    have hz' : ¬ (i : Int) < (L.length : Int) := by have := E1.out; omega
    go_wp2
    go_ret
    exact ⟨rfl, bel⟩
   | succ d =>
    have hz' : (i : Int) < (L.length : Int) := by have := E1.out; omega
    have SY := Aside0.mk (Y2.out i (by omega))
    go_upto_region 11 with (go_at_call 50; (with_reducible refine (sym.calls k g K0 S H j (z : Int) A c P (i : Int) _ _ BX.out CP.out LP.out SY.out).mono ?_); rintro e w14 ⟨Ax, cx, rfl, lx_, Cx_, hb⟩; have CX := Aside0.mk Cx_; have n0_ := Aside0.mk (below_step HB.out hb); have n1_ := Aside0.mk (blk_below BX.out hb); have n2_ := Aside0.mk (Kd.C_below CP.out hb); clear HB hb lx_ Cx_ BX CP; have HB := n0_; have BX := n1_; have CP := n2_; clear n0_ n1_ n2_)
    obtain ⟨ai, Ai, ci, ei, xi_, li_, Ci_⟩ := Cf.at_L1 (Kd.C_below HL.out HB.out) (i : Int) (by omega) (by omega)
    cases ei
    rw [rd_ro] at xi_ li_ Ci_
    rw [Int.toNat_natCast] at xi_
    have CI := Aside0.mk Ci_
    have XI := Aside0.mk xi_
    clear li_ Ci_ xi_
    refine start_ (n := 13) (S := fun w' => Below w14.heap.size w14 w') (ds := []) (ms 13 0) (by kernel_rfl) rfl rfl (Below.refl _ _).drew (fun hHeld => ?_); refine with_tabW tab11 bits11 (fun HT_ HW_ => ?_)
    have HW := Aside0.mk (show Below w14.heap.size w14 w14.drew from (Below.refl _ _).drew)
    generalize w14.drew = w15 at hHeld HW ⊢
    refine run_ [(0, false, some 79)] (n := 1) (ms 13 1) rfl HT_.out HW_.out (by kernel_rfl) (fun _ _ _ _ h => h) hHeld ?_
    repeat (refine Run.p (v := ?_) (a' := ?_) rfl rfl (Or.inl ⟨by rfl, ?_⟩) ?_ ?_; rotate_left; (focus intro w'; go_simp; with_reducible rfl); rotate_left; (focus simp only [Act.put, List.setIfInBounds_toArray, List.set_cons_zero, List.set_cons_succ, i64_w, i32_w]; rfl))
    refine Run.nil ?_
    refine one_ (i := 1) (N := some 80) (ms 13 3) rfl rfl (one_of HT_.out (by kernel_rfl)) (by decide) (fun K hK => ?_)
    refine goes_ Try.func49 (by kernel_rfl) rfl #[.int .i64 0] (by rfl) rfl rfl agl ?_
    with_reducible refine (fountainlaw10_num.calls 0 0 _ rfl).mono ?_
    rintro e w' ⟨rfl, ⟨nd, rfl⟩⟩
    refine ⟨_, rfl, ?_⟩
    have n0_ := Aside0.mk (pw_below_drewN HW.out nd)
    clear HW
    have HW := n0_
    clear n0_
    refine hK.out _ _ HW.out (fun hHeld => ?_)
    clear hK
    refine norm_ (a' := ?_) ?_ ?_
    rotate_left
    ·show Act.put _ (some 80) _ = _
     simp only [Act.put, List.setIfInBounds_toArray, List.set_cons_zero, List.set_cons_succ, i64_w, i32_w]
     rfl
    refine run_ [(2, false, some 81), (3, false, some 82), (4, false, some 83), (5, true, some 84), (6, false, some 85), (7, false, some 86), (8, false, some 87), (9, true, some 88), (10, true, some 89), (11, false, some 90), (12, false, some 91)] (n := 11) (ms 13 8191) rfl HT_.out HW_.out (by kernel_rfl) (fun _ _ _ _ h => h) hHeld ?_
    repeat (first | (refine Run.p (v := ?_) (a' := ?_) rfl rfl (Or.inl ⟨by rfl, ?_⟩) ?_ ?_; rotate_left; (focus intro w'; go_simp; with_reducible rfl); rotate_left; (focus simp only [Act.put, List.setIfInBounds_toArray, List.set_cons_zero, List.set_cons_succ, i64_w, i32_w]; rfl)) | (refine Run.t (v := ?_) (a' := ?_) rfl rfl (Or.inl ⟨by rfl, ?_⟩) ?_ ?_; rotate_left; (focus intro w' hS; have hcvx := Kd.C_string (P := Try.prog) (A := Ax) (c := cx) Try.underlying31 Try.underlying5 Try.underlying9 (Kd.C_below CX.out hS); have hcvy := Kd.C_string (P := Try.prog) (A := Ai) (c := ci) Try.underlying30 Try.underlying5 Try.underlying9 (Kd.C_below CI.out hS); have xi_ := (hS.cell (World.block_lt_of_cell? w14 _ XI.out)).trans XI.out; go_simp; with_reducible rfl); rotate_left; (focus simp only [Act.put, List.setIfInBounds_toArray, List.set_cons_zero, List.set_cons_succ, i64_w, i32_w]; rfl)))
    refine Run.nil ?_
    refine done_ (done_of HT_.out (by kernel_rfl)) ?_
    clear HT_ HW_ hHeld
    have n0_ := Aside0.mk (below_step HB.out HW.out)
    have n1_ := Aside0.mk (blk_below BX.out HW.out)
    have n2_ := Aside0.mk (Kd.C_below CP.out HW.out)
    clear HB BX CP HW CX CI XI
    have HB := n0_
    have BX := n1_
    have CP := n2_
    clear n0_ n1_ n2_
    go_wp2
    go_roundg d
    case measure => omega
    case rel => exact ⟨i + 1, by go_num, ⟨by have := E1.out; omega⟩, BX, CP, HB⟩
end Go.Proofs.Ytbfhinfblepidaa.Bo
