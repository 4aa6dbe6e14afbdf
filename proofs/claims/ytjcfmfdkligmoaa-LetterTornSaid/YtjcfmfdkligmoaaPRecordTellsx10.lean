/- Written by a program (this session's own): functions that the law reaches, as plain Lean functions, each with the proof that the code comes to it. No conditions but those that stand in the theorems. -/
import Derived.Test.YtjcfmfdkligmoaaPq
import Derived.Test.YtjcfmfdkligmoaaPs
import Derived.Test.YtjcfmfdkligmoaaPRecordTellsx0
import Derived.Test.YtjcfmfdkligmoaaPRecordTellsx2
import Derived.Test.YtjcfmfdkligmoaaPRecordTellsx9
set_option maxHeartbeats 8000000
set_option maxRecDepth 100000
namespace Go.Proofs.Ytjcfmfdkligmoaa.PRecordTells
open Go.RowKit Go.Proofs.YtjcfmfdkligmoaaW.PrintWords Go.Proofs.YtjcfmfdkligmoaaW.PrintLast Go.Proofs.YtjcfmfdkligmoaaW.PrintMore
attribute [local go_sem] max2_int min2_int max_two min_two max_three min_three max_four min_four
set_option linter.unusedVariables false
set_option linter.unusedSimpArgs false
attribute [local go_sem high] eqA25
def fountainref14_RightRecord.j0 : Nat → Bool → Int → Int → Int → Int → Int → Int → Int → Bool → Int → List Int → Option (Bool)
 | 0, _, _, _, _, _, _, _, _, _, _, _ => none
 | k + 1, x26, x247000, x247001, x247002, x247003, x247004, x247005, x247006, x247007, x247008, x247009 => if x26 = true then (some false) else (if x247007 = true then (if (x247002 == 0 && (x247003 == 0 && (x247004 == 0))) = true then (if x247005 = 0 then (if x247006 = 0 then (some ((x247009.length : Int) == 0)) else (some false)) else (some false)) else (some false)) else ((fountainref1_RightShape.f x247002 x247003 x247004).bind fun t250 => (if t250 = true then (if x247005 ≥ 0 then ((fountainref1_Blocks.f x247002 x247003 x247004).bind fun t251 => (if x247005 < t251 then (if x247006 ≥ 0 then (if x247006 < 16777216 then (some ((x247009.length : Int) == x247003)) else (some false)) else (some false)) else (some false))) else (some false)) else (some false))))
def fountainref14_RightRecord.f (k : Nat) (a0_0 : Int) (a0_1 : Int) (a0_2 : Int) (a0_3 : Int) (a0_4 : Int) (a0_5 : Int) (a0_6 : Int) (a0_7 : Bool) (a0_8 : Int) (l0_9 : List Int) : Option (Bool) := (fountainref14_num.f a0_0).bind fun t247 => (if t247 = true then ((fountainref14_num.f a0_1).bind fun t248 => (if t248 = true then (if a0_1 < 1 then (fountainref14_RightRecord.j0 k true a0_0 a0_1 a0_2 a0_3 a0_4 a0_5 a0_6 a0_7 a0_8 l0_9) else ((fountainref14_num.f a0_8).bind fun t249 => (fountainref14_RightRecord.j0 k (!t249) a0_0 a0_1 a0_2 a0_3 a0_4 a0_5 a0_6 a0_7 a0_8 l0_9))) else (fountainref14_RightRecord.j0 k true a0_0 a0_1 a0_2 a0_3 a0_4 a0_5 a0_6 a0_7 a0_8 l0_9))) else (fountainref14_RightRecord.j0 k true a0_0 a0_1 a0_2 a0_3 a0_4 a0_5 a0_6 a0_7 a0_8 l0_9))
def fountainref14_RightRecord.T5 : Bool × List (List Nat × List Nat) := (true, [([], []), ([0], [0]), ([1], [1]), ([2, 2], [2]), ([3], [3]), ([4, 3], [3, 4]), ([5, 3], [3, 5]), ([3, 6], [3, 6]), ([7, 3], [7]), ([8], [8]), ([9, 8], [8, 9]), ([8], [8]), ([11, 8], [8, 11]), ([12, 8, 8], [8, 12]), ([10, 13, 8], [8, 10, 13]), ([8, 14], [8, 14]), ([15, 13], [15]), ([16], [16]), ([17, 16], [16, 17]), ([18, 16], [16, 18]), ([16, 19], [16, 19]), ([20, 16], [20]), ([21], [21]), ([22, 21], [21, 22]), ([23, 21], [21, 23]), ([21, 24], [21, 24]), ([25, 21], [25]), ([26], [26]), ([27, 26], [26, 27]), ([28, 26], [26, 28]), ([26], [26]), ([30, 26], [26, 30]), ([31, 26], [26, 31]), ([29, 32, 26], [26, 29, 32]), ([26, 33], [26, 33]), ([34, 26, 0, 1, 2, 3, 4, 5, 6, 7, 8, 9, 10, 11, 12, 13, 14, 15, 16, 17, 18, 19, 20, 21, 22, 23, 24, 25, 26, 27, 28, 29, 30, 31, 32, 33, 34], [34])])
def fountainref14_RightRecord.B5 : List Nat := [0, 1, 3, 7, 15, 31, 63, 127, 255, 511, 1023, 511, 2559, 6655, 16383, 32767, 65535, 131071, 262143, 524287, 1048575, 2097151, 4194303, 8388607, 16777215, 33554431, 67108863, 134217727, 268435455, 536870911, 134217727, 1207959551, 3355443199, 8589934591, 17179869183, 34359738367]
theorem fountainref14_RightRecord.tab5 : rtab .any (opsOf Try.f10 5) = fountainref14_RightRecord.T5 := by kernel_rfl
theorem fountainref14_RightRecord.bits5 : waitsOk fountainref14_RightRecord.T5.2 fountainref14_RightRecord.B5 = true := by kernel_rfl
theorem fountainref14_RightRecord.calls (k : Nat) (a0_0 : Int) (a0_1 : Int) (a0_2 : Int) (a0_3 : Int) (a0_4 : Int) (a0_5 : Int) (a0_6 : Int) (a0_7 : Bool) (a0_8 : Int) (A0_9 : Option Addr) (c0_9 : Nat) (l0_9 : List Int) (r : Bool) (w : World) (hr0_9 : Kd.C (Kd.int .u8) w A0_9 l0_9.length l0_9) (hc0_9 : l0_9.length ≤ c0_9) (h : fountainref14_RightRecord.f k a0_0 a0_1 a0_2 a0_3 a0_4 a0_5 a0_6 a0_7 a0_8 l0_9 = some r) :
 Calls Try.prog 10 #[.agg #[.int .i64 a0_0, .int .i64 a0_1, .int .i64 a0_2, .int .i64 a0_3, .int .i64 a0_4, .int .i64 a0_5, .int .i64 a0_6, .bool a0_7, .int .i64 a0_8, .slice A0_9 l0_9.length c0_9]] w fun e w' => e = .returned (.bool r) ∧ Below w.heap.size w w' := by
 have hu28 := Try.underlying28
 have hu25 := Try.underlying25
 have HR0_9 := zA hr0_9
 have HC0_9 := zA hc0_9
 clear hr0_9 hc0_9
 have HB := zA (Below.refl w.heap.size w)
 have H : ((fountainref14_num.f a0_0).bind fun t247 => (if t247 = true then ((fountainref14_num.f a0_1).bind fun t248 => (if t248 = true then (if a0_1 < 1 then (fountainref14_RightRecord.j0 k true a0_0 a0_1 a0_2 a0_3 a0_4 a0_5 a0_6 a0_7 a0_8 l0_9) else ((fountainref14_num.f a0_8).bind fun t249 => (fountainref14_RightRecord.j0 k (!t249) a0_0 a0_1 a0_2 a0_3 a0_4 a0_5 a0_6 a0_7 a0_8 l0_9))) else (fountainref14_RightRecord.j0 k true a0_0 a0_1 a0_2 a0_3 a0_4 a0_5 a0_6 a0_7 a0_8 l0_9))) else (fountainref14_RightRecord.j0 k true a0_0 a0_1 a0_2 a0_3 a0_4 a0_5 a0_6 a0_7 a0_8 l0_9))) = some r := h
 clear h
 have HC2 := zA H
 clear H
 go_enter Try.func10, Try.ntmps10
 go_upto_region 1 with (first | ((with_reducible refine gate_dst (N := 1) rfl ?_); (try (refine gate_guard (by rfl) ?_; dsimp only)); refine box_event ?hg (N := 1) ?hd (cs := #[.int .i64 a0_0, .int .i64 a0_1, .int .i64 a0_2, .int .i64 a0_3, .int .i64 a0_4, .int .i64 a0_5, .int .i64 a0_6, .bool a0_7, .int .i64 a0_8, .slice A0_9 l0_9.length c0_9]) (t := 28) ?hr ?_; (case hd => rfl); (case hg => rfl); (case hr => first | (go_simp; done) | (go_simp; rfl)); intro gb246 hg w3 hbox hb; have BK246 := zA (hbox); have GW246 := zA ((by rw [hg]; exact bels : w.heap.size ≤ gb246)); have GE246 := zA ((by rw [hg]; exact bels : w.heap.size ≤ gb246)); replace HB := zA (belt hb); clear hb hbox hg))
 (try simp only [Act.put, List.setIfInBounds_toArray, List.set_cons_zero, List.set_cons_succ])
 go_cut [26] (fun v26 wc => ∃ (kq : Nat) (x26_1 : Bool), v26 = .bool x26_1 ∧ Aside0 (fountainref14_RightRecord.j0 kq x26_1 a0_0 a0_1 a0_2 a0_3 a0_4 a0_5 a0_6 a0_7 a0_8 l0_9 = some r) ∧ Aside0 (kq ≤ k) ∧ Aside0 (wc.heap[gb246]? = some (.cells #[.int .i64 a0_0, .int .i64 a0_1, .int .i64 a0_2, .int .i64 a0_3, .int .i64 a0_4, .int .i64 a0_5, .int .i64 a0_6, .bool a0_7, .int .i64 a0_8, (.slice A0_9 l0_9.length c0_9)] 28 (0, 0))) ∧ Aside0 (Below w.heap.size w wc))
 case first =>
  have H := HC2.out
  clear HC2
  replace H := Option.bind_eq_some_iff.mp H
  obtain ⟨t247, A40, H⟩ := H
  replace H : (if t247 = true then ((fountainref14_num.f a0_1).bind fun t248 => (if t248 = true then (if a0_1 < 1 then (fountainref14_RightRecord.j0 k true a0_0 a0_1 a0_2 a0_3 a0_4 a0_5 a0_6 a0_7 a0_8 l0_9) else ((fountainref14_num.f a0_8).bind fun t249 => (fountainref14_RightRecord.j0 k (!t249) a0_0 a0_1 a0_2 a0_3 a0_4 a0_5 a0_6 a0_7 a0_8 l0_9))) else (fountainref14_RightRecord.j0 k true a0_0 a0_1 a0_2 a0_3 a0_4 a0_5 a0_6 a0_7 a0_8 l0_9))) else (fountainref14_RightRecord.j0 k true a0_0 a0_1 a0_2 a0_3 a0_4 a0_5 a0_6 a0_7 a0_8 l0_9)) = some r := H
  have A4 := zA A40
  clear A40
  by_cases c5 : t247 = true
  ·subst c5
   have H1 : ((fountainref14_num.f a0_1).bind fun t248 => (if t248 = true then (if a0_1 < 1 then (fountainref14_RightRecord.j0 k true a0_0 a0_1 a0_2 a0_3 a0_4 a0_5 a0_6 a0_7 a0_8 l0_9) else ((fountainref14_num.f a0_8).bind fun t249 => (fountainref14_RightRecord.j0 k (!t249) a0_0 a0_1 a0_2 a0_3 a0_4 a0_5 a0_6 a0_7 a0_8 l0_9))) else (fountainref14_RightRecord.j0 k true a0_0 a0_1 a0_2 a0_3 a0_4 a0_5 a0_6 a0_7 a0_8 l0_9))) = some r := by rw [if_pos rfl] at H; exact H
   clear H
   have H := H1
   clear H1
   replace H := Option.bind_eq_some_iff.mp H
   obtain ⟨t248, A60, H⟩ := H
   replace H : (if t248 = true then (if a0_1 < 1 then (fountainref14_RightRecord.j0 k true a0_0 a0_1 a0_2 a0_3 a0_4 a0_5 a0_6 a0_7 a0_8 l0_9) else ((fountainref14_num.f a0_8).bind fun t249 => (fountainref14_RightRecord.j0 k (!t249) a0_0 a0_1 a0_2 a0_3 a0_4 a0_5 a0_6 a0_7 a0_8 l0_9))) else (fountainref14_RightRecord.j0 k true a0_0 a0_1 a0_2 a0_3 a0_4 a0_5 a0_6 a0_7 a0_8 l0_9)) = some r := H
   have A6 := zA A60
   clear A60
   by_cases c7 : t248 = true
   ·subst c7
    have H1 : (if a0_1 < 1 then (fountainref14_RightRecord.j0 k true a0_0 a0_1 a0_2 a0_3 a0_4 a0_5 a0_6 a0_7 a0_8 l0_9) else ((fountainref14_num.f a0_8).bind fun t249 => (fountainref14_RightRecord.j0 k (!t249) a0_0 a0_1 a0_2 a0_3 a0_4 a0_5 a0_6 a0_7 a0_8 l0_9))) = some r := by rw [if_pos rfl] at H; exact H
    clear H
    have H := H1
    clear H1
    by_cases c8 : a0_1 < 1
    ·rw [if_pos c8] at H
     have c8b0 : decide (a0_1 < 1) = true := decide_eq_true c8
     clear c8
     (first | rw [c8b0] | (simp only [i64_w, i32_w]; rw [c8b0]) | skip)
     have H' := zA H
     clear H
     have hcz9_0 : w3.cell? ⟨gb246, 0, none⟩ = some (.int .i64 a0_0) := (blk_cell BK246.out 0).trans rfl
     have hcz9_1 : w3.cell? ⟨gb246, 1, none⟩ = some (.int .i64 a0_1) := (blk_cell BK246.out 1).trans rfl
     have hcz9_2 : w3.cell? ⟨gb246, 2, none⟩ = some (.int .i64 a0_2) := (blk_cell BK246.out 2).trans rfl
     have hcz9_3 : w3.cell? ⟨gb246, 3, none⟩ = some (.int .i64 a0_3) := (blk_cell BK246.out 3).trans rfl
     have hcz9_4 : w3.cell? ⟨gb246, 4, none⟩ = some (.int .i64 a0_4) := (blk_cell BK246.out 4).trans rfl
     have hcz9_5 : w3.cell? ⟨gb246, 5, none⟩ = some (.int .i64 a0_5) := (blk_cell BK246.out 5).trans rfl
     have hcz9_6 : w3.cell? ⟨gb246, 6, none⟩ = some (.int .i64 a0_6) := (blk_cell BK246.out 6).trans rfl
     have hcz9_7 : w3.cell? ⟨gb246, 7, none⟩ = some (.bool a0_7) := (blk_cell BK246.out 7).trans rfl
     have hcz9_8 : w3.cell? ⟨gb246, 8, none⟩ = some (.int .i64 a0_8) := (blk_cell BK246.out 8).trans rfl
     have hcz9_9 : w3.cell? ⟨gb246, 9, none⟩ = some (.slice A0_9 l0_9.length c0_9) := (blk_cell BK246.out 9).trans rfl
     have hfz9_0 := blk_frozen BK246.out 0
     have hfz9_1 := blk_frozen BK246.out 1
     have hfz9_2 := blk_frozen BK246.out 2
     have hfz9_3 := blk_frozen BK246.out 3
     have hfz9_4 := blk_frozen BK246.out 4
     have hfz9_5 := blk_frozen BK246.out 5
     have hfz9_6 := blk_frozen BK246.out 6
     have hfz9_7 := blk_frozen BK246.out 7
     have hfz9_8 := blk_frozen BK246.out 8
     have hfz9_9 := blk_frozen BK246.out 9
     go_wp2_with (first | ((with_reducible refine gate_callee (f := 26) rfl ?_); refine goesL_ (some 6) rfl rfl Try.func26 (by kernel_rfl) rfl #[.int .i64 a0_0] rfl (by (try simp only [List.map_toArray, List.map_cons, List.map_nil]); first | done | rfl | (simp only [List.length_drop, List.length_take]; rfl)) ?_; (with_reducible refine (fountainref14_num.calls a0_0 true _ A4.out).mono ?_); rintro e w' ⟨rfl, ⟨nd, rfl⟩⟩; refine ⟨_, rfl, ?_⟩) | (go_at_call 26; (with_reducible refine (fountainref14_num.calls a0_1 true _ A6.out).mono ?_); rintro e w' ⟨rfl, ⟨nd, rfl⟩⟩))
     go_meet
     case rel => exact ⟨_, (true), frs, H', ⟨by first | omega | exact Nat.le_refl _⟩, ⟨rdB BK246.out⟩, ⟨bel⟩⟩
    ·rw [if_neg c8] at H
     have c8b0 : decide (a0_1 < 1) = false := decide_eq_false c8
     clear c8
     (first | rw [c8b0] | (simp only [i64_w, i32_w]; rw [c8b0]) | skip)
     replace H := Option.bind_eq_some_iff.mp H
     obtain ⟨t249, A100, H⟩ := H
     replace H : (fountainref14_RightRecord.j0 k (!t249) a0_0 a0_1 a0_2 a0_3 a0_4 a0_5 a0_6 a0_7 a0_8 l0_9) = some r := H
     have A10 := zA A100
     clear A100
     have H' := zA H
     clear H
     have hcz11_0 : w3.cell? ⟨gb246, 0, none⟩ = some (.int .i64 a0_0) := (blk_cell BK246.out 0).trans rfl
     have hcz11_1 : w3.cell? ⟨gb246, 1, none⟩ = some (.int .i64 a0_1) := (blk_cell BK246.out 1).trans rfl
     have hcz11_2 : w3.cell? ⟨gb246, 2, none⟩ = some (.int .i64 a0_2) := (blk_cell BK246.out 2).trans rfl
     have hcz11_3 : w3.cell? ⟨gb246, 3, none⟩ = some (.int .i64 a0_3) := (blk_cell BK246.out 3).trans rfl
     have hcz11_4 : w3.cell? ⟨gb246, 4, none⟩ = some (.int .i64 a0_4) := (blk_cell BK246.out 4).trans rfl
     have hcz11_5 : w3.cell? ⟨gb246, 5, none⟩ = some (.int .i64 a0_5) := (blk_cell BK246.out 5).trans rfl
     have hcz11_6 : w3.cell? ⟨gb246, 6, none⟩ = some (.int .i64 a0_6) := (blk_cell BK246.out 6).trans rfl
     have hcz11_7 : w3.cell? ⟨gb246, 7, none⟩ = some (.bool a0_7) := (blk_cell BK246.out 7).trans rfl
     have hcz11_8 : w3.cell? ⟨gb246, 8, none⟩ = some (.int .i64 a0_8) := (blk_cell BK246.out 8).trans rfl
     have hcz11_9 : w3.cell? ⟨gb246, 9, none⟩ = some (.slice A0_9 l0_9.length c0_9) := (blk_cell BK246.out 9).trans rfl
     have hfz11_0 := blk_frozen BK246.out 0
     have hfz11_1 := blk_frozen BK246.out 1
     have hfz11_2 := blk_frozen BK246.out 2
     have hfz11_3 := blk_frozen BK246.out 3
     have hfz11_4 := blk_frozen BK246.out 4
     have hfz11_5 := blk_frozen BK246.out 5
     have hfz11_6 := blk_frozen BK246.out 6
     have hfz11_7 := blk_frozen BK246.out 7
     have hfz11_8 := blk_frozen BK246.out 8
     have hfz11_9 := blk_frozen BK246.out 9
     go_wp2_with (first | ((with_reducible refine gate_callee (f := 26) rfl ?_); refine goesL_ (some 6) rfl rfl Try.func26 (by kernel_rfl) rfl #[.int .i64 a0_0] rfl (by (try simp only [List.map_toArray, List.map_cons, List.map_nil]); first | done | rfl | (simp only [List.length_drop, List.length_take]; rfl)) ?_; (with_reducible refine (fountainref14_num.calls a0_0 true _ A4.out).mono ?_); rintro e w' ⟨rfl, ⟨nd, rfl⟩⟩; refine ⟨_, rfl, ?_⟩) | (go_at_call 26; (with_reducible refine (fountainref14_num.calls a0_1 true _ A6.out).mono ?_); rintro e w' ⟨rfl, ⟨nd, rfl⟩⟩) | (go_at_call 26; (with_reducible refine (fountainref14_num.calls a0_8 t249 _ A10.out).mono ?_); rintro e w' ⟨rfl, ⟨nd, rfl⟩⟩))
     go_meet
     case rel => exact ⟨_, (!t249), frs, H', ⟨by first | omega | exact Nat.le_refl _⟩, ⟨rdB BK246.out⟩, ⟨bel⟩⟩
   ·replace c7 := Bool.eq_false_iff.mpr c7
    subst c7
    have H1 : (fountainref14_RightRecord.j0 k true a0_0 a0_1 a0_2 a0_3 a0_4 a0_5 a0_6 a0_7 a0_8 l0_9) = some r := by rw [if_neg (show ¬ (false = true) by decide)] at H; exact H
    clear H
    have H := H1
    clear H1
    have H' := zA H
    clear H
    have hcz12_0 : w3.cell? ⟨gb246, 0, none⟩ = some (.int .i64 a0_0) := (blk_cell BK246.out 0).trans rfl
    have hcz12_1 : w3.cell? ⟨gb246, 1, none⟩ = some (.int .i64 a0_1) := (blk_cell BK246.out 1).trans rfl
    have hcz12_2 : w3.cell? ⟨gb246, 2, none⟩ = some (.int .i64 a0_2) := (blk_cell BK246.out 2).trans rfl
    have hcz12_3 : w3.cell? ⟨gb246, 3, none⟩ = some (.int .i64 a0_3) := (blk_cell BK246.out 3).trans rfl
    have hcz12_4 : w3.cell? ⟨gb246, 4, none⟩ = some (.int .i64 a0_4) := (blk_cell BK246.out 4).trans rfl
    have hcz12_5 : w3.cell? ⟨gb246, 5, none⟩ = some (.int .i64 a0_5) := (blk_cell BK246.out 5).trans rfl
    have hcz12_6 : w3.cell? ⟨gb246, 6, none⟩ = some (.int .i64 a0_6) := (blk_cell BK246.out 6).trans rfl
    have hcz12_7 : w3.cell? ⟨gb246, 7, none⟩ = some (.bool a0_7) := (blk_cell BK246.out 7).trans rfl
    have hcz12_8 : w3.cell? ⟨gb246, 8, none⟩ = some (.int .i64 a0_8) := (blk_cell BK246.out 8).trans rfl
    have hcz12_9 : w3.cell? ⟨gb246, 9, none⟩ = some (.slice A0_9 l0_9.length c0_9) := (blk_cell BK246.out 9).trans rfl
    have hfz12_0 := blk_frozen BK246.out 0
    have hfz12_1 := blk_frozen BK246.out 1
    have hfz12_2 := blk_frozen BK246.out 2
    have hfz12_3 := blk_frozen BK246.out 3
    have hfz12_4 := blk_frozen BK246.out 4
    have hfz12_5 := blk_frozen BK246.out 5
    have hfz12_6 := blk_frozen BK246.out 6
    have hfz12_7 := blk_frozen BK246.out 7
    have hfz12_8 := blk_frozen BK246.out 8
    have hfz12_9 := blk_frozen BK246.out 9
    go_wp2_with (first | ((with_reducible refine gate_callee (f := 26) rfl ?_); refine goesL_ (some 6) rfl rfl Try.func26 (by kernel_rfl) rfl #[.int .i64 a0_0] rfl (by (try simp only [List.map_toArray, List.map_cons, List.map_nil]); first | done | rfl | (simp only [List.length_drop, List.length_take]; rfl)) ?_; (with_reducible refine (fountainref14_num.calls a0_0 true _ A4.out).mono ?_); rintro e w' ⟨rfl, ⟨nd, rfl⟩⟩; refine ⟨_, rfl, ?_⟩) | (go_at_call 26; (with_reducible refine (fountainref14_num.calls a0_1 false _ A6.out).mono ?_); rintro e w' ⟨rfl, ⟨nd, rfl⟩⟩))
    go_meet
    case rel => exact ⟨_, (true), frs, H', ⟨by first | omega | exact Nat.le_refl _⟩, ⟨rdB BK246.out⟩, ⟨bel⟩⟩
  ·replace c5 := Bool.eq_false_iff.mpr c5
   subst c5
   have H1 : (fountainref14_RightRecord.j0 k true a0_0 a0_1 a0_2 a0_3 a0_4 a0_5 a0_6 a0_7 a0_8 l0_9) = some r := by rw [if_neg (show ¬ (false = true) by decide)] at H; exact H
   clear H
   have H := H1
   clear H1
   have H' := zA H
   clear H
   have hcz13_0 : w3.cell? ⟨gb246, 0, none⟩ = some (.int .i64 a0_0) := (blk_cell BK246.out 0).trans rfl
   have hcz13_1 : w3.cell? ⟨gb246, 1, none⟩ = some (.int .i64 a0_1) := (blk_cell BK246.out 1).trans rfl
   have hcz13_2 : w3.cell? ⟨gb246, 2, none⟩ = some (.int .i64 a0_2) := (blk_cell BK246.out 2).trans rfl
   have hcz13_3 : w3.cell? ⟨gb246, 3, none⟩ = some (.int .i64 a0_3) := (blk_cell BK246.out 3).trans rfl
   have hcz13_4 : w3.cell? ⟨gb246, 4, none⟩ = some (.int .i64 a0_4) := (blk_cell BK246.out 4).trans rfl
   have hcz13_5 : w3.cell? ⟨gb246, 5, none⟩ = some (.int .i64 a0_5) := (blk_cell BK246.out 5).trans rfl
   have hcz13_6 : w3.cell? ⟨gb246, 6, none⟩ = some (.int .i64 a0_6) := (blk_cell BK246.out 6).trans rfl
   have hcz13_7 : w3.cell? ⟨gb246, 7, none⟩ = some (.bool a0_7) := (blk_cell BK246.out 7).trans rfl
   have hcz13_8 : w3.cell? ⟨gb246, 8, none⟩ = some (.int .i64 a0_8) := (blk_cell BK246.out 8).trans rfl
   have hcz13_9 : w3.cell? ⟨gb246, 9, none⟩ = some (.slice A0_9 l0_9.length c0_9) := (blk_cell BK246.out 9).trans rfl
   have hfz13_0 := blk_frozen BK246.out 0
   have hfz13_1 := blk_frozen BK246.out 1
   have hfz13_2 := blk_frozen BK246.out 2
   have hfz13_3 := blk_frozen BK246.out 3
   have hfz13_4 := blk_frozen BK246.out 4
   have hfz13_5 := blk_frozen BK246.out 5
   have hfz13_6 := blk_frozen BK246.out 6
   have hfz13_7 := blk_frozen BK246.out 7
   have hfz13_8 := blk_frozen BK246.out 8
   have hfz13_9 := blk_frozen BK246.out 9
   go_wp2_with (first | ((with_reducible refine gate_callee (f := 26) rfl ?_); refine goesL_ (some 6) rfl rfl Try.func26 (by kernel_rfl) rfl #[.int .i64 a0_0] rfl (by (try simp only [List.map_toArray, List.map_cons, List.map_nil]); first | done | rfl | (simp only [List.length_drop, List.length_take]; rfl)) ?_; (with_reducible refine (fountainref14_num.calls a0_0 false _ A4.out).mono ?_); rintro e w' ⟨rfl, ⟨nd, rfl⟩⟩; refine ⟨_, rfl, ?_⟩))
   go_meet
   case rel => exact ⟨_, (true), frs, H', ⟨by first | omega | exact Nat.le_refl _⟩, ⟨rdB BK246.out⟩, ⟨bel⟩⟩
 case rest =>
  clear HC2
  obtain ⟨kq, x26_1, rfl, HA, HJ1, BK246, HB⟩ := hcut
  cases kq with
  | zero => exact absurd HA.out (by simp [fountainref14_RightRecord.j0])
  | succ kj1 =>
   have H := HA.out
   clear HA
   simp only [fountainref14_RightRecord.j0] at H
   by_cases c14 : x26_1 = true
   ·subst c14
    have H1 : (some false) = some r := by rw [if_pos rfl] at H; exact H
    clear H
    have H := H1
    clear H1
    obtain rfl := Option.some.inj H
    go_wp2
    go_ret
    exact ⟨by first | rfl | (simp [errW_none, errW_some] <;> rfl) | (simp [*, errW_none, errW_some] <;> rfl), bel⟩
   ·replace c14 := Bool.eq_false_iff.mpr c14
    subst c14
    have H1 : (if a0_7 = true then (if (a0_2 == 0 && (a0_3 == 0 && (a0_4 == 0))) = true then (if a0_5 = 0 then (if a0_6 = 0 then (some ((l0_9.length : Int) == 0)) else (some false)) else (some false)) else (some false)) else ((fountainref1_RightShape.f a0_2 a0_3 a0_4).bind fun t250 => (if t250 = true then (if a0_5 ≥ 0 then ((fountainref1_Blocks.f a0_2 a0_3 a0_4).bind fun t251 => (if a0_5 < t251 then (if a0_6 ≥ 0 then (if a0_6 < 16777216 then (some ((l0_9.length : Int) == a0_3)) else (some false)) else (some false)) else (some false))) else (some false)) else (some false)))) = some r := by rw [if_neg (show ¬ (false = true) by decide)] at H; exact H
    clear H
    have H := H1
    clear H1
    by_cases c15 : a0_7 = true
    ·subst c15
     have H1 : (if (a0_2 == 0 && (a0_3 == 0 && (a0_4 == 0))) = true then (if a0_5 = 0 then (if a0_6 = 0 then (some ((l0_9.length : Int) == 0)) else (some false)) else (some false)) else (some false)) = some r := by rw [if_pos rfl] at H; exact H
     clear H
     have H := H1
     clear H1
     by_cases c16 : (a0_2 == 0 && (a0_3 == 0 && (a0_4 == 0))) = true
     ·rw [if_pos c16] at H
      have c16b0 : (a0_2 == 0 && (a0_3 == 0 && (a0_4 == 0))) = true := c16
      (try (have c16b1 : decide (a0_2 = 0 && (a0_3 == 0 && (a0_4 == 0))) = true := by simpa using c16))
      (try (have c16b2 : (a0_2 == 0 && (a0_3 == 0 && (a0_4 == 0))) = true := by simpa using c16))
      clear c16
      by_cases c17 : a0_5 = 0
      ·rw [if_pos c17] at H
       have c17b0 : (a0_5 == 0) = true := beq_iff_eq.mpr c17
       have c17b1 : (a0_5 != 0) = false := bne_eq_false_iff_eq.mpr c17
       clear c17
       by_cases c18 : a0_6 = 0
       ·rw [if_pos c18] at H
        have c18b0 : (a0_6 == 0) = true := beq_iff_eq.mpr c18
        have c18b1 : (a0_6 != 0) = false := bne_eq_false_iff_eq.mpr c18
        clear c18
        obtain rfl := Option.some.inj H
        have hcz19_0 : wc.cell? ⟨gb246, 0, none⟩ = some (.int .i64 a0_0) := (blk_cell BK246.out 0).trans rfl
        have hcz19_1 : wc.cell? ⟨gb246, 1, none⟩ = some (.int .i64 a0_1) := (blk_cell BK246.out 1).trans rfl
        have hcz19_2 : wc.cell? ⟨gb246, 2, none⟩ = some (.int .i64 a0_2) := (blk_cell BK246.out 2).trans rfl
        have hcz19_3 : wc.cell? ⟨gb246, 3, none⟩ = some (.int .i64 a0_3) := (blk_cell BK246.out 3).trans rfl
        have hcz19_4 : wc.cell? ⟨gb246, 4, none⟩ = some (.int .i64 a0_4) := (blk_cell BK246.out 4).trans rfl
        have hcz19_5 : wc.cell? ⟨gb246, 5, none⟩ = some (.int .i64 a0_5) := (blk_cell BK246.out 5).trans rfl
        have hcz19_6 : wc.cell? ⟨gb246, 6, none⟩ = some (.int .i64 a0_6) := (blk_cell BK246.out 6).trans rfl
        have hcz19_7 : wc.cell? ⟨gb246, 7, none⟩ = some (.bool true) := (blk_cell BK246.out 7).trans rfl
        have hcz19_8 : wc.cell? ⟨gb246, 8, none⟩ = some (.int .i64 a0_8) := (blk_cell BK246.out 8).trans rfl
        have hcz19_9 : wc.cell? ⟨gb246, 9, none⟩ = some (.slice A0_9 l0_9.length c0_9) := (blk_cell BK246.out 9).trans rfl
        have hfz19_0 := blk_frozen BK246.out 0
        have hfz19_1 := blk_frozen BK246.out 1
        have hfz19_2 := blk_frozen BK246.out 2
        have hfz19_3 := blk_frozen BK246.out 3
        have hfz19_4 := blk_frozen BK246.out 4
        have hfz19_5 := blk_frozen BK246.out 5
        have hfz19_6 := blk_frozen BK246.out 6
        have hfz19_7 := blk_frozen BK246.out 7
        have hfz19_8 := blk_frozen BK246.out 8
        have hfz19_9 := blk_frozen BK246.out 9
        go_wp2
        go_ret
        exact ⟨by first | rfl | (simp [errW_none, errW_some] <;> rfl) | (simp [*, errW_none, errW_some] <;> rfl), bel⟩
       ·rw [if_neg c18] at H
        have c18b0 : (a0_6 == 0) = false := beq_eq_false_iff_ne.mpr c18
        have c18b1 : (a0_6 != 0) = true := bne_iff_ne.mpr c18
        obtain rfl := Option.some.inj H
        have hcz20_0 : wc.cell? ⟨gb246, 0, none⟩ = some (.int .i64 a0_0) := (blk_cell BK246.out 0).trans rfl
        have hcz20_1 : wc.cell? ⟨gb246, 1, none⟩ = some (.int .i64 a0_1) := (blk_cell BK246.out 1).trans rfl
        have hcz20_2 : wc.cell? ⟨gb246, 2, none⟩ = some (.int .i64 a0_2) := (blk_cell BK246.out 2).trans rfl
        have hcz20_3 : wc.cell? ⟨gb246, 3, none⟩ = some (.int .i64 a0_3) := (blk_cell BK246.out 3).trans rfl
        have hcz20_4 : wc.cell? ⟨gb246, 4, none⟩ = some (.int .i64 a0_4) := (blk_cell BK246.out 4).trans rfl
        have hcz20_5 : wc.cell? ⟨gb246, 5, none⟩ = some (.int .i64 a0_5) := (blk_cell BK246.out 5).trans rfl
        have hcz20_6 : wc.cell? ⟨gb246, 6, none⟩ = some (.int .i64 a0_6) := (blk_cell BK246.out 6).trans rfl
        have hcz20_7 : wc.cell? ⟨gb246, 7, none⟩ = some (.bool true) := (blk_cell BK246.out 7).trans rfl
        have hcz20_8 : wc.cell? ⟨gb246, 8, none⟩ = some (.int .i64 a0_8) := (blk_cell BK246.out 8).trans rfl
        have hcz20_9 : wc.cell? ⟨gb246, 9, none⟩ = some (.slice A0_9 l0_9.length c0_9) := (blk_cell BK246.out 9).trans rfl
        have hfz20_0 := blk_frozen BK246.out 0
        have hfz20_1 := blk_frozen BK246.out 1
        have hfz20_2 := blk_frozen BK246.out 2
        have hfz20_3 := blk_frozen BK246.out 3
        have hfz20_4 := blk_frozen BK246.out 4
        have hfz20_5 := blk_frozen BK246.out 5
        have hfz20_6 := blk_frozen BK246.out 6
        have hfz20_7 := blk_frozen BK246.out 7
        have hfz20_8 := blk_frozen BK246.out 8
        have hfz20_9 := blk_frozen BK246.out 9
        go_wp2
        go_ret
        exact ⟨by first | rfl | (simp [errW_none, errW_some] <;> rfl) | (simp [*, errW_none, errW_some] <;> rfl), bel⟩
      ·rw [if_neg c17] at H
       have c17b0 : (a0_5 == 0) = false := beq_eq_false_iff_ne.mpr c17
       have c17b1 : (a0_5 != 0) = true := bne_iff_ne.mpr c17
       obtain rfl := Option.some.inj H
       have hcz21_0 : wc.cell? ⟨gb246, 0, none⟩ = some (.int .i64 a0_0) := (blk_cell BK246.out 0).trans rfl
       have hcz21_1 : wc.cell? ⟨gb246, 1, none⟩ = some (.int .i64 a0_1) := (blk_cell BK246.out 1).trans rfl
       have hcz21_2 : wc.cell? ⟨gb246, 2, none⟩ = some (.int .i64 a0_2) := (blk_cell BK246.out 2).trans rfl
       have hcz21_3 : wc.cell? ⟨gb246, 3, none⟩ = some (.int .i64 a0_3) := (blk_cell BK246.out 3).trans rfl
       have hcz21_4 : wc.cell? ⟨gb246, 4, none⟩ = some (.int .i64 a0_4) := (blk_cell BK246.out 4).trans rfl
       have hcz21_5 : wc.cell? ⟨gb246, 5, none⟩ = some (.int .i64 a0_5) := (blk_cell BK246.out 5).trans rfl
       have hcz21_6 : wc.cell? ⟨gb246, 6, none⟩ = some (.int .i64 a0_6) := (blk_cell BK246.out 6).trans rfl
       have hcz21_7 : wc.cell? ⟨gb246, 7, none⟩ = some (.bool true) := (blk_cell BK246.out 7).trans rfl
       have hcz21_8 : wc.cell? ⟨gb246, 8, none⟩ = some (.int .i64 a0_8) := (blk_cell BK246.out 8).trans rfl
       have hcz21_9 : wc.cell? ⟨gb246, 9, none⟩ = some (.slice A0_9 l0_9.length c0_9) := (blk_cell BK246.out 9).trans rfl
       have hfz21_0 := blk_frozen BK246.out 0
       have hfz21_1 := blk_frozen BK246.out 1
       have hfz21_2 := blk_frozen BK246.out 2
       have hfz21_3 := blk_frozen BK246.out 3
       have hfz21_4 := blk_frozen BK246.out 4
       have hfz21_5 := blk_frozen BK246.out 5
       have hfz21_6 := blk_frozen BK246.out 6
       have hfz21_7 := blk_frozen BK246.out 7
       have hfz21_8 := blk_frozen BK246.out 8
       have hfz21_9 := blk_frozen BK246.out 9
       go_wp2
       go_ret
       exact ⟨by first | rfl | (simp [errW_none, errW_some] <;> rfl) | (simp [*, errW_none, errW_some] <;> rfl), bel⟩
     ·rw [if_neg c16] at H
      have c16b0 : (a0_2 == 0 && (a0_3 == 0 && (a0_4 == 0))) = false := by simpa using c16
      (try (have c16b1 : decide (a0_2 = 0 && (a0_3 == 0 && (a0_4 == 0))) = false := by simpa using c16))
      (try (have c16b2 : (a0_2 == 0 && (a0_3 == 0 && (a0_4 == 0))) = false := by simpa using c16))
      (try (have c16b3 : ¬ (a0_2 = 0 && (a0_3 == 0 && (a0_4 == 0))) := by simpa using c16))
      clear c16
      obtain rfl := Option.some.inj H
      have hcz22_0 : wc.cell? ⟨gb246, 0, none⟩ = some (.int .i64 a0_0) := (blk_cell BK246.out 0).trans rfl
      have hcz22_1 : wc.cell? ⟨gb246, 1, none⟩ = some (.int .i64 a0_1) := (blk_cell BK246.out 1).trans rfl
      have hcz22_2 : wc.cell? ⟨gb246, 2, none⟩ = some (.int .i64 a0_2) := (blk_cell BK246.out 2).trans rfl
      have hcz22_3 : wc.cell? ⟨gb246, 3, none⟩ = some (.int .i64 a0_3) := (blk_cell BK246.out 3).trans rfl
      have hcz22_4 : wc.cell? ⟨gb246, 4, none⟩ = some (.int .i64 a0_4) := (blk_cell BK246.out 4).trans rfl
      have hcz22_5 : wc.cell? ⟨gb246, 5, none⟩ = some (.int .i64 a0_5) := (blk_cell BK246.out 5).trans rfl
      have hcz22_6 : wc.cell? ⟨gb246, 6, none⟩ = some (.int .i64 a0_6) := (blk_cell BK246.out 6).trans rfl
      have hcz22_7 : wc.cell? ⟨gb246, 7, none⟩ = some (.bool true) := (blk_cell BK246.out 7).trans rfl
      have hcz22_8 : wc.cell? ⟨gb246, 8, none⟩ = some (.int .i64 a0_8) := (blk_cell BK246.out 8).trans rfl
      have hcz22_9 : wc.cell? ⟨gb246, 9, none⟩ = some (.slice A0_9 l0_9.length c0_9) := (blk_cell BK246.out 9).trans rfl
      have hfz22_0 := blk_frozen BK246.out 0
      have hfz22_1 := blk_frozen BK246.out 1
      have hfz22_2 := blk_frozen BK246.out 2
      have hfz22_3 := blk_frozen BK246.out 3
      have hfz22_4 := blk_frozen BK246.out 4
      have hfz22_5 := blk_frozen BK246.out 5
      have hfz22_6 := blk_frozen BK246.out 6
      have hfz22_7 := blk_frozen BK246.out 7
      have hfz22_8 := blk_frozen BK246.out 8
      have hfz22_9 := blk_frozen BK246.out 9
      go_wp2
      go_ret
      exact ⟨by first | rfl | (simp [errW_none, errW_some] <;> rfl) | (simp [*, errW_none, errW_some] <;> rfl), bel⟩
    ·replace c15 := Bool.eq_false_iff.mpr c15
     subst c15
     have H1 : ((fountainref1_RightShape.f a0_2 a0_3 a0_4).bind fun t250 => (if t250 = true then (if a0_5 ≥ 0 then ((fountainref1_Blocks.f a0_2 a0_3 a0_4).bind fun t251 => (if a0_5 < t251 then (if a0_6 ≥ 0 then (if a0_6 < 16777216 then (some ((l0_9.length : Int) == a0_3)) else (some false)) else (some false)) else (some false))) else (some false)) else (some false))) = some r := by rw [if_neg (show ¬ (false = true) by decide)] at H; exact H
     clear H
     have H := H1
     clear H1
     replace H := Option.bind_eq_some_iff.mp H
     obtain ⟨t250, A230, H⟩ := H
     replace H : (if t250 = true then (if a0_5 ≥ 0 then ((fountainref1_Blocks.f a0_2 a0_3 a0_4).bind fun t251 => (if a0_5 < t251 then (if a0_6 ≥ 0 then (if a0_6 < 16777216 then (some ((l0_9.length : Int) == a0_3)) else (some false)) else (some false)) else (some false))) else (some false)) else (some false)) = some r := H
     have A23 := zA A230
     clear A230
     by_cases c24 : t250 = true
     ·subst c24
      have H1 : (if a0_5 ≥ 0 then ((fountainref1_Blocks.f a0_2 a0_3 a0_4).bind fun t251 => (if a0_5 < t251 then (if a0_6 ≥ 0 then (if a0_6 < 16777216 then (some ((l0_9.length : Int) == a0_3)) else (some false)) else (some false)) else (some false))) else (some false)) = some r := by rw [if_pos rfl] at H; exact H
      clear H
      have H := H1
      clear H1
      by_cases c25 : a0_5 ≥ 0
      ·rw [if_pos c25] at H
       have c25b0 : decide (0 ≤ a0_5) = true := decide_eq_true c25
       clear c25
       replace H := Option.bind_eq_some_iff.mp H
       obtain ⟨t251, A260, H⟩ := H
       replace H : (if a0_5 < t251 then (if a0_6 ≥ 0 then (if a0_6 < 16777216 then (some ((l0_9.length : Int) == a0_3)) else (some false)) else (some false)) else (some false)) = some r := H
       have A26 := zA A260
       clear A260
       by_cases c27 : a0_5 < t251
       ·rw [if_pos c27] at H
        have c27b0 : decide (a0_5 < t251) = true := decide_eq_true c27
        clear c27
        by_cases c28 : a0_6 ≥ 0
        ·rw [if_pos c28] at H
         have c28b0 : decide (0 ≤ a0_6) = true := decide_eq_true c28
         clear c28
         by_cases c29 : a0_6 < 16777216
         ·rw [if_pos c29] at H
          have c29b0 : decide (a0_6 < 16777216) = true := decide_eq_true c29
          clear c29
          obtain rfl := Option.some.inj H
          have hcz30_0 : wc.cell? ⟨gb246, 0, none⟩ = some (.int .i64 a0_0) := (blk_cell BK246.out 0).trans rfl
          have hcz30_1 : wc.cell? ⟨gb246, 1, none⟩ = some (.int .i64 a0_1) := (blk_cell BK246.out 1).trans rfl
          have hcz30_2 : wc.cell? ⟨gb246, 2, none⟩ = some (.int .i64 a0_2) := (blk_cell BK246.out 2).trans rfl
          have hcz30_3 : wc.cell? ⟨gb246, 3, none⟩ = some (.int .i64 a0_3) := (blk_cell BK246.out 3).trans rfl
          have hcz30_4 : wc.cell? ⟨gb246, 4, none⟩ = some (.int .i64 a0_4) := (blk_cell BK246.out 4).trans rfl
          have hcz30_5 : wc.cell? ⟨gb246, 5, none⟩ = some (.int .i64 a0_5) := (blk_cell BK246.out 5).trans rfl
          have hcz30_6 : wc.cell? ⟨gb246, 6, none⟩ = some (.int .i64 a0_6) := (blk_cell BK246.out 6).trans rfl
          have hcz30_7 : wc.cell? ⟨gb246, 7, none⟩ = some (.bool false) := (blk_cell BK246.out 7).trans rfl
          have hcz30_8 : wc.cell? ⟨gb246, 8, none⟩ = some (.int .i64 a0_8) := (blk_cell BK246.out 8).trans rfl
          have hcz30_9 : wc.cell? ⟨gb246, 9, none⟩ = some (.slice A0_9 l0_9.length c0_9) := (blk_cell BK246.out 9).trans rfl
          have hfz30_0 := blk_frozen BK246.out 0
          have hfz30_1 := blk_frozen BK246.out 1
          have hfz30_2 := blk_frozen BK246.out 2
          have hfz30_3 := blk_frozen BK246.out 3
          have hfz30_4 := blk_frozen BK246.out 4
          have hfz30_5 := blk_frozen BK246.out 5
          have hfz30_6 := blk_frozen BK246.out 6
          have hfz30_7 := blk_frozen BK246.out 7
          have hfz30_8 := blk_frozen BK246.out 8
          have hfz30_9 := blk_frozen BK246.out 9
          try go_wp2
          replace BK246 := zA (blk_drew BK246.out)
          replace HB := zA (below_drew1 HB.out)
          refine start_ (n := 36) (S := fun w' => w'.cell? ⟨gb246, 0, none⟩ = some (.int .i64 a0_0) ∧ w'.cell? ⟨gb246, 1, none⟩ = some (.int .i64 a0_1) ∧ w'.cell? ⟨gb246, 2, none⟩ = some (.int .i64 a0_2) ∧ w'.cell? ⟨gb246, 3, none⟩ = some (.int .i64 a0_3) ∧ w'.cell? ⟨gb246, 4, none⟩ = some (.int .i64 a0_4) ∧ w'.cell? ⟨gb246, 5, none⟩ = some (.int .i64 a0_5) ∧ w'.cell? ⟨gb246, 6, none⟩ = some (.int .i64 a0_6) ∧ w'.cell? ⟨gb246, 7, none⟩ = some (.bool false) ∧ w'.cell? ⟨gb246, 8, none⟩ = some (.int .i64 a0_8) ∧ w'.cell? ⟨gb246, 9, none⟩ = some (.slice A0_9 l0_9.length c0_9)) (ds := []) (ms 36 0) (by kernel_rfl) rfl rfl ⟨(blk_cell BK246.out 0).trans rfl, (blk_cell BK246.out 1).trans rfl, (blk_cell BK246.out 2).trans rfl, (blk_cell BK246.out 3).trans rfl, (blk_cell BK246.out 4).trans rfl, (blk_cell BK246.out 5).trans rfl, (blk_cell BK246.out 6).trans rfl, (blk_cell BK246.out 7).trans rfl, (blk_cell BK246.out 8).trans rfl, (blk_cell BK246.out 9).trans rfl⟩ (fun hHeld => ?_); refine with_tabW fountainref14_RightRecord.tab5 fountainref14_RightRecord.bits5 (fun HT_ HW_ => ?_)
          generalize wc.drew = w31 at BK246 HB hHeld ⊢
          refine run_ [(0, false, some 49), (1, true, some 50)] (n := 2) (ms 36 3) rfl HT_.out HW_.out (by kernel_rfl) (fun _ _ _ _ h => h) hHeld ?_
          repeat (first | (refine Run.p (v := ?_) (a' := ?_) rfl rfl (Or.inl ⟨by rfl, ?_⟩) ?_ ?_; rotate_left; (focus intro w'; go_simp; with_reducible rfl); rotate_left; (focus simp only [Act.put, sx]; rfl)) | (refine Run.t (v := ?_) (a' := ?_) rfl rfl (Or.inl ⟨by rfl, ?_⟩) ?_ ?_; rotate_left; (focus rintro w' ⟨s0, s1, s2, s3, s4, s5, s6, s7, s8, s9⟩; go_simp; with_reducible rfl); rotate_left; (focus simp only [Act.put, sx]; rfl)))
          refine Run.nil ?_
          refine one_ (i := 2) (N := some 51) (ms 36 7) rfl rfl (one_of HT_.out (by kernel_rfl)) (by decide) (fun K hK => ?_)
          refine goes_ Try.func27 (by kernel_rfl) rfl #[.agg #[.int .i64 a0_2, .int .i64 a0_3, .int .i64 a0_4]] (by rfl) rfl rfl (by (try simp only [List.map_toArray, List.map_cons, List.map_nil]); first | done | rfl | (simp only [List.length_drop, List.length_take]; rfl)) ?_
          with_reducible refine (fountainref1_RightShape.calls a0_2 a0_3 a0_4 true _ A23.out).mono ?_
          rintro e w32 ⟨rfl, hb⟩
          refine ⟨_, rfl, ?_⟩
          replace BK246 := zA (blk_below (g := gb246) (o := .cells #[.int .i64 a0_0, .int .i64 a0_1, .int .i64 a0_2, .int .i64 a0_3, .int .i64 a0_4, .int .i64 a0_5, .int .i64 a0_6, .bool false, .int .i64 a0_8, .slice A0_9 l0_9.length c0_9] 28 (0, 0)) (blk_g BK246.out) hb)
          replace HB := zA (belt hb)
          (try clear hb)
          (try clear hb2)
          (try clear hk)
          (try clear hi)
          refine hK.out _ _ ⟨(blk_cell BK246.out 0).trans rfl, (blk_cell BK246.out 1).trans rfl, (blk_cell BK246.out 2).trans rfl, (blk_cell BK246.out 3).trans rfl, (blk_cell BK246.out 4).trans rfl, (blk_cell BK246.out 5).trans rfl, (blk_cell BK246.out 6).trans rfl, (blk_cell BK246.out 7).trans rfl, (blk_cell BK246.out 8).trans rfl, (blk_cell BK246.out 9).trans rfl⟩ (fun hHeld => ?_)
          clear hK K
          refine norm_ (a' := ?_) ?_ ?_
          rotate_left
          ·show Act.put _ (some 51) _ = _
           simp only [Act.put, sx]
           rfl
          refine run_ [(3, false, some 52), (4, false, some 53), (5, true, some 54), (6, false, some 55), (7, false, some 56), (8, false, some 57), (9, false, some 58), (11, false, some 60), (10, true, some 59), (12, true, some 61)] (n := 10) (ms 36 8191) rfl HT_.out HW_.out (by kernel_rfl) (fun _ _ _ _ h => h) hHeld ?_
          repeat (first | (refine Run.p (v := ?_) (a' := ?_) rfl rfl (Or.inl ⟨by rfl, ?_⟩) ?_ ?_; rotate_left; (focus intro w'; go_simp; with_reducible rfl); rotate_left; (focus simp only [Act.put, sx]; rfl)) | (refine Run.t (v := ?_) (a' := ?_) rfl rfl (Or.inl ⟨by rfl, ?_⟩) ?_ ?_; rotate_left; (focus rintro w' ⟨s0, s1, s2, s3, s4, s5, s6, s7, s8, s9⟩; go_simp; with_reducible rfl); rotate_left; (focus simp only [Act.put, sx]; rfl)))
          refine Run.nil ?_
          refine one_ (i := 13) (N := some 62) (ms 36 16383) rfl rfl (one_of HT_.out (by kernel_rfl)) (by decide) (fun K hK => ?_)
          refine goes_ Try.func28 (by kernel_rfl) rfl #[.agg #[.int .i64 a0_2, .int .i64 a0_3, .int .i64 a0_4]] (by rfl) rfl rfl (by (try simp only [List.map_toArray, List.map_cons, List.map_nil]); first | done | rfl | (simp only [List.length_drop, List.length_take]; rfl)) ?_
          with_reducible refine (fountainref1_Blocks.calls a0_2 a0_3 a0_4 t251 _ A26.out).mono ?_
          rintro e w33 ⟨rfl, hb⟩
          refine ⟨_, rfl, ?_⟩
          replace BK246 := zA (blk_below (g := gb246) (o := .cells #[.int .i64 a0_0, .int .i64 a0_1, .int .i64 a0_2, .int .i64 a0_3, .int .i64 a0_4, .int .i64 a0_5, .int .i64 a0_6, .bool false, .int .i64 a0_8, .slice A0_9 l0_9.length c0_9] 28 (0, 0)) (blk_g BK246.out) hb)
          replace HB := zA (belt hb)
          (try clear hb)
          (try clear hb2)
          (try clear hk)
          (try clear hi)
          refine hK.out _ _ ⟨(blk_cell BK246.out 0).trans rfl, (blk_cell BK246.out 1).trans rfl, (blk_cell BK246.out 2).trans rfl, (blk_cell BK246.out 3).trans rfl, (blk_cell BK246.out 4).trans rfl, (blk_cell BK246.out 5).trans rfl, (blk_cell BK246.out 6).trans rfl, (blk_cell BK246.out 7).trans rfl, (blk_cell BK246.out 8).trans rfl, (blk_cell BK246.out 9).trans rfl⟩ (fun hHeld => ?_)
          clear hK K
          refine norm_ (a' := ?_) ?_ ?_
          rotate_left
          ·show Act.put _ (some 62) _ = _
           simp only [Act.put, sx]
           rfl
          refine run_ [(14, false, some 63), (15, false, some 64), (16, false, some 65), (17, false, some 66), (18, true, some 67), (19, false, some 68), (20, false, some 69), (21, false, some 70), (22, false, some 71), (23, true, some 72), (24, false, some 73), (25, false, some 74), (26, false, some 75), (27, false, some 76), (30, false, some 79), (31, false, some 80), (28, true, some 77), (29, false, some 78), (32, true, some 81), (33, false, some 82), (34, false, some 83), (35, false, some 2)] (n := 22) (ms 36 68719476735) rfl HT_.out HW_.out (by kernel_rfl) (fun _ _ _ _ h => h) hHeld ?_
          repeat (first | (refine Run.p (v := ?_) (a' := ?_) rfl rfl (Or.inl ⟨by rfl, ?_⟩) ?_ ?_; rotate_left; (focus intro w'; go_simp; with_reducible rfl); rotate_left; (focus simp only [Act.put, sx]; rfl)) | (refine Run.t (v := ?_) (a' := ?_) rfl rfl (Or.inl ⟨by rfl, ?_⟩) ?_ ?_; rotate_left; (focus rintro w' ⟨s0, s1, s2, s3, s4, s5, s6, s7, s8, s9⟩; go_simp; with_reducible rfl); rotate_left; (focus simp only [Act.put, sx]; rfl)))
          refine Run.nil ?_
          refine done_ (done_of HT_.out (by kernel_rfl)) ?_
          try go_wp2
          go_ret
          exact ⟨by first | rfl | (simp [errW_none, errW_some] <;> rfl) | (simp [*, errW_none, errW_some] <;> rfl), bel⟩
         ·rw [if_neg c29] at H
          have c29b0 : decide (a0_6 < 16777216) = false := decide_eq_false c29
          clear c29
          obtain rfl := Option.some.inj H
          have hcz34_0 : wc.cell? ⟨gb246, 0, none⟩ = some (.int .i64 a0_0) := (blk_cell BK246.out 0).trans rfl
          have hcz34_1 : wc.cell? ⟨gb246, 1, none⟩ = some (.int .i64 a0_1) := (blk_cell BK246.out 1).trans rfl
          have hcz34_2 : wc.cell? ⟨gb246, 2, none⟩ = some (.int .i64 a0_2) := (blk_cell BK246.out 2).trans rfl
          have hcz34_3 : wc.cell? ⟨gb246, 3, none⟩ = some (.int .i64 a0_3) := (blk_cell BK246.out 3).trans rfl
          have hcz34_4 : wc.cell? ⟨gb246, 4, none⟩ = some (.int .i64 a0_4) := (blk_cell BK246.out 4).trans rfl
          have hcz34_5 : wc.cell? ⟨gb246, 5, none⟩ = some (.int .i64 a0_5) := (blk_cell BK246.out 5).trans rfl
          have hcz34_6 : wc.cell? ⟨gb246, 6, none⟩ = some (.int .i64 a0_6) := (blk_cell BK246.out 6).trans rfl
          have hcz34_7 : wc.cell? ⟨gb246, 7, none⟩ = some (.bool false) := (blk_cell BK246.out 7).trans rfl
          have hcz34_8 : wc.cell? ⟨gb246, 8, none⟩ = some (.int .i64 a0_8) := (blk_cell BK246.out 8).trans rfl
          have hcz34_9 : wc.cell? ⟨gb246, 9, none⟩ = some (.slice A0_9 l0_9.length c0_9) := (blk_cell BK246.out 9).trans rfl
          have hfz34_0 := blk_frozen BK246.out 0
          have hfz34_1 := blk_frozen BK246.out 1
          have hfz34_2 := blk_frozen BK246.out 2
          have hfz34_3 := blk_frozen BK246.out 3
          have hfz34_4 := blk_frozen BK246.out 4
          have hfz34_5 := blk_frozen BK246.out 5
          have hfz34_6 := blk_frozen BK246.out 6
          have hfz34_7 := blk_frozen BK246.out 7
          have hfz34_8 := blk_frozen BK246.out 8
          have hfz34_9 := blk_frozen BK246.out 9
          try go_wp2
          replace BK246 := zA (blk_drew BK246.out)
          replace HB := zA (below_drew1 HB.out)
          refine start_ (n := 36) (S := fun w' => w'.cell? ⟨gb246, 0, none⟩ = some (.int .i64 a0_0) ∧ w'.cell? ⟨gb246, 1, none⟩ = some (.int .i64 a0_1) ∧ w'.cell? ⟨gb246, 2, none⟩ = some (.int .i64 a0_2) ∧ w'.cell? ⟨gb246, 3, none⟩ = some (.int .i64 a0_3) ∧ w'.cell? ⟨gb246, 4, none⟩ = some (.int .i64 a0_4) ∧ w'.cell? ⟨gb246, 5, none⟩ = some (.int .i64 a0_5) ∧ w'.cell? ⟨gb246, 6, none⟩ = some (.int .i64 a0_6) ∧ w'.cell? ⟨gb246, 7, none⟩ = some (.bool false) ∧ w'.cell? ⟨gb246, 8, none⟩ = some (.int .i64 a0_8) ∧ w'.cell? ⟨gb246, 9, none⟩ = some (.slice A0_9 l0_9.length c0_9)) (ds := []) (ms 36 0) (by kernel_rfl) rfl rfl ⟨(blk_cell BK246.out 0).trans rfl, (blk_cell BK246.out 1).trans rfl, (blk_cell BK246.out 2).trans rfl, (blk_cell BK246.out 3).trans rfl, (blk_cell BK246.out 4).trans rfl, (blk_cell BK246.out 5).trans rfl, (blk_cell BK246.out 6).trans rfl, (blk_cell BK246.out 7).trans rfl, (blk_cell BK246.out 8).trans rfl, (blk_cell BK246.out 9).trans rfl⟩ (fun hHeld => ?_); refine with_tabW fountainref14_RightRecord.tab5 fountainref14_RightRecord.bits5 (fun HT_ HW_ => ?_)
          generalize wc.drew = w35 at BK246 HB hHeld ⊢
          refine run_ [(0, false, some 49), (1, true, some 50)] (n := 2) (ms 36 3) rfl HT_.out HW_.out (by kernel_rfl) (fun _ _ _ _ h => h) hHeld ?_
          repeat (first | (refine Run.p (v := ?_) (a' := ?_) rfl rfl (Or.inl ⟨by rfl, ?_⟩) ?_ ?_; rotate_left; (focus intro w'; go_simp; with_reducible rfl); rotate_left; (focus simp only [Act.put, sx]; rfl)) | (refine Run.t (v := ?_) (a' := ?_) rfl rfl (Or.inl ⟨by rfl, ?_⟩) ?_ ?_; rotate_left; (focus rintro w' ⟨s0, s1, s2, s3, s4, s5, s6, s7, s8, s9⟩; go_simp; with_reducible rfl); rotate_left; (focus simp only [Act.put, sx]; rfl)))
          refine Run.nil ?_
          refine one_ (i := 2) (N := some 51) (ms 36 7) rfl rfl (one_of HT_.out (by kernel_rfl)) (by decide) (fun K hK => ?_)
          refine goes_ Try.func27 (by kernel_rfl) rfl #[.agg #[.int .i64 a0_2, .int .i64 a0_3, .int .i64 a0_4]] (by rfl) rfl rfl (by (try simp only [List.map_toArray, List.map_cons, List.map_nil]); first | done | rfl | (simp only [List.length_drop, List.length_take]; rfl)) ?_
          with_reducible refine (fountainref1_RightShape.calls a0_2 a0_3 a0_4 true _ A23.out).mono ?_
          rintro e w36 ⟨rfl, hb⟩
          refine ⟨_, rfl, ?_⟩
          replace BK246 := zA (blk_below (g := gb246) (o := .cells #[.int .i64 a0_0, .int .i64 a0_1, .int .i64 a0_2, .int .i64 a0_3, .int .i64 a0_4, .int .i64 a0_5, .int .i64 a0_6, .bool false, .int .i64 a0_8, .slice A0_9 l0_9.length c0_9] 28 (0, 0)) (blk_g BK246.out) hb)
          replace HB := zA (belt hb)
          (try clear hb)
          (try clear hb2)
          (try clear hk)
          (try clear hi)
          refine hK.out _ _ ⟨(blk_cell BK246.out 0).trans rfl, (blk_cell BK246.out 1).trans rfl, (blk_cell BK246.out 2).trans rfl, (blk_cell BK246.out 3).trans rfl, (blk_cell BK246.out 4).trans rfl, (blk_cell BK246.out 5).trans rfl, (blk_cell BK246.out 6).trans rfl, (blk_cell BK246.out 7).trans rfl, (blk_cell BK246.out 8).trans rfl, (blk_cell BK246.out 9).trans rfl⟩ (fun hHeld => ?_)
          clear hK K
          refine norm_ (a' := ?_) ?_ ?_
          rotate_left
          ·show Act.put _ (some 51) _ = _
           simp only [Act.put, sx]
           rfl
          refine run_ [(3, false, some 52), (4, false, some 53), (5, true, some 54), (6, false, some 55), (7, false, some 56), (8, false, some 57), (9, false, some 58), (11, false, some 60), (10, true, some 59), (12, true, some 61)] (n := 10) (ms 36 8191) rfl HT_.out HW_.out (by kernel_rfl) (fun _ _ _ _ h => h) hHeld ?_
          repeat (first | (refine Run.p (v := ?_) (a' := ?_) rfl rfl (Or.inl ⟨by rfl, ?_⟩) ?_ ?_; rotate_left; (focus intro w'; go_simp; with_reducible rfl); rotate_left; (focus simp only [Act.put, sx]; rfl)) | (refine Run.t (v := ?_) (a' := ?_) rfl rfl (Or.inl ⟨by rfl, ?_⟩) ?_ ?_; rotate_left; (focus rintro w' ⟨s0, s1, s2, s3, s4, s5, s6, s7, s8, s9⟩; go_simp; with_reducible rfl); rotate_left; (focus simp only [Act.put, sx]; rfl)))
          refine Run.nil ?_
          refine one_ (i := 13) (N := some 62) (ms 36 16383) rfl rfl (one_of HT_.out (by kernel_rfl)) (by decide) (fun K hK => ?_)
          refine goes_ Try.func28 (by kernel_rfl) rfl #[.agg #[.int .i64 a0_2, .int .i64 a0_3, .int .i64 a0_4]] (by rfl) rfl rfl (by (try simp only [List.map_toArray, List.map_cons, List.map_nil]); first | done | rfl | (simp only [List.length_drop, List.length_take]; rfl)) ?_
          with_reducible refine (fountainref1_Blocks.calls a0_2 a0_3 a0_4 t251 _ A26.out).mono ?_
          rintro e w37 ⟨rfl, hb⟩
          refine ⟨_, rfl, ?_⟩
          replace BK246 := zA (blk_below (g := gb246) (o := .cells #[.int .i64 a0_0, .int .i64 a0_1, .int .i64 a0_2, .int .i64 a0_3, .int .i64 a0_4, .int .i64 a0_5, .int .i64 a0_6, .bool false, .int .i64 a0_8, .slice A0_9 l0_9.length c0_9] 28 (0, 0)) (blk_g BK246.out) hb)
          replace HB := zA (belt hb)
          (try clear hb)
          (try clear hb2)
          (try clear hk)
          (try clear hi)
          refine hK.out _ _ ⟨(blk_cell BK246.out 0).trans rfl, (blk_cell BK246.out 1).trans rfl, (blk_cell BK246.out 2).trans rfl, (blk_cell BK246.out 3).trans rfl, (blk_cell BK246.out 4).trans rfl, (blk_cell BK246.out 5).trans rfl, (blk_cell BK246.out 6).trans rfl, (blk_cell BK246.out 7).trans rfl, (blk_cell BK246.out 8).trans rfl, (blk_cell BK246.out 9).trans rfl⟩ (fun hHeld => ?_)
          clear hK K
          refine norm_ (a' := ?_) ?_ ?_
          rotate_left
          ·show Act.put _ (some 62) _ = _
           simp only [Act.put, sx]
           rfl
          refine run_ [(14, false, some 63), (15, false, some 64), (16, false, some 65), (17, false, some 66), (18, true, some 67), (19, false, some 68), (20, false, some 69), (21, false, some 70), (22, false, some 71), (23, true, some 72), (24, false, some 73), (25, false, some 74), (26, false, some 75)] (n := 13) (ms 36 134217727) rfl HT_.out HW_.out (by kernel_rfl) (fun _ _ _ _ h => h) hHeld ?_
          repeat (first | (refine Run.p (v := ?_) (a' := ?_) rfl rfl (Or.inl ⟨by rfl, ?_⟩) ?_ ?_; rotate_left; (focus intro w'; go_simp; with_reducible rfl); rotate_left; (focus simp only [Act.put, sx]; rfl)) | (refine Run.t (v := ?_) (a' := ?_) rfl rfl (Or.inl ⟨by rfl, ?_⟩) ?_ ?_; rotate_left; (focus rintro w' ⟨s0, s1, s2, s3, s4, s5, s6, s7, s8, s9⟩; go_simp; with_reducible rfl); rotate_left; (focus simp only [Act.put, sx]; rfl)))
          refine Run.nil ?_
          refine pure_ (i := 27) (N := some 76) (v := undef) (a' := ?_) (ms 36 268435455) rfl rfl (any_of HT_.out (by kernel_rfl)) (fun _ _ _ h => h) (Or.inr ⟨by rfl, rfl⟩) ?_ ?_
          rotate_left
          ·simp only [Act.put, sx]
           rfl
          refine pure_ (i := 28) (N := some 77) (v := undef) (a' := ?_) (ms 36 536870911) rfl rfl (any_of HT_.out (by kernel_rfl)) (fun _ _ _ h => h) (Or.inr ⟨by rfl, rfl⟩) ?_ ?_
          rotate_left
          ·simp only [Act.put, sx]
           rfl
          refine pure_ (i := 29) (N := some 78) (v := undef) (a' := ?_) (ms 36 1073741823) rfl rfl (any_of HT_.out (by kernel_rfl)) (fun _ _ _ h => h) (Or.inr ⟨by rfl, rfl⟩) ?_ ?_
          rotate_left
          ·simp only [Act.put, sx]
           rfl
          refine pure_ (i := 30) (N := some 79) (v := undef) (a' := ?_) (ms 36 2147483647) rfl rfl (any_of HT_.out (by kernel_rfl)) (fun _ _ _ h => h) (Or.inr ⟨by rfl, rfl⟩) ?_ ?_
          rotate_left
          ·simp only [Act.put, sx]
           rfl
          refine pure_ (i := 31) (N := some 80) (v := undef) (a' := ?_) (ms 36 4294967295) rfl rfl (any_of HT_.out (by kernel_rfl)) (fun _ _ _ h => h) (Or.inr ⟨by rfl, rfl⟩) ?_ ?_
          rotate_left
          ·simp only [Act.put, sx]
           rfl
          refine pure_ (i := 32) (N := some 81) (v := undef) (a' := ?_) (ms 36 8589934591) rfl rfl (any_of HT_.out (by kernel_rfl)) (fun _ _ _ h => h) (Or.inr ⟨by rfl, rfl⟩) ?_ ?_
          rotate_left
          ·simp only [Act.put, sx]
           rfl
          refine pure_ (i := 33) (N := some 82) (v := undef) (a' := ?_) (ms 36 17179869183) rfl rfl (any_of HT_.out (by kernel_rfl)) (fun _ _ _ h => h) (Or.inr ⟨by rfl, rfl⟩) ?_ ?_
          rotate_left
          ·simp only [Act.put, sx]
           rfl
          refine run_ [(34, false, some 83), (35, false, some 2)] (n := 2) (ms 36 68719476735) rfl HT_.out HW_.out (by kernel_rfl) (fun _ _ _ _ h => h) hHeld ?_
          repeat (refine Run.p (v := ?_) (a' := ?_) rfl rfl (Or.inl ⟨by rfl, ?_⟩) ?_ ?_; rotate_left; (focus intro w'; go_simp; with_reducible rfl); rotate_left; (focus simp only [Act.put, sx]; rfl))
          refine Run.nil ?_
          refine done_ (done_of HT_.out (by kernel_rfl)) ?_
          try go_wp2
          go_ret
          exact ⟨by first | rfl | (simp [errW_none, errW_some] <;> rfl) | (simp [*, errW_none, errW_some] <;> rfl), bel⟩
        ·rw [if_neg c28] at H
         have c28b0 : decide (0 ≤ a0_6) = false := decide_eq_false c28
         clear c28
         obtain rfl := Option.some.inj H
         have hcz38_0 : wc.cell? ⟨gb246, 0, none⟩ = some (.int .i64 a0_0) := (blk_cell BK246.out 0).trans rfl
         have hcz38_1 : wc.cell? ⟨gb246, 1, none⟩ = some (.int .i64 a0_1) := (blk_cell BK246.out 1).trans rfl
         have hcz38_2 : wc.cell? ⟨gb246, 2, none⟩ = some (.int .i64 a0_2) := (blk_cell BK246.out 2).trans rfl
         have hcz38_3 : wc.cell? ⟨gb246, 3, none⟩ = some (.int .i64 a0_3) := (blk_cell BK246.out 3).trans rfl
         have hcz38_4 : wc.cell? ⟨gb246, 4, none⟩ = some (.int .i64 a0_4) := (blk_cell BK246.out 4).trans rfl
         have hcz38_5 : wc.cell? ⟨gb246, 5, none⟩ = some (.int .i64 a0_5) := (blk_cell BK246.out 5).trans rfl
         have hcz38_6 : wc.cell? ⟨gb246, 6, none⟩ = some (.int .i64 a0_6) := (blk_cell BK246.out 6).trans rfl
         have hcz38_7 : wc.cell? ⟨gb246, 7, none⟩ = some (.bool false) := (blk_cell BK246.out 7).trans rfl
         have hcz38_8 : wc.cell? ⟨gb246, 8, none⟩ = some (.int .i64 a0_8) := (blk_cell BK246.out 8).trans rfl
         have hcz38_9 : wc.cell? ⟨gb246, 9, none⟩ = some (.slice A0_9 l0_9.length c0_9) := (blk_cell BK246.out 9).trans rfl
         have hfz38_0 := blk_frozen BK246.out 0
         have hfz38_1 := blk_frozen BK246.out 1
         have hfz38_2 := blk_frozen BK246.out 2
         have hfz38_3 := blk_frozen BK246.out 3
         have hfz38_4 := blk_frozen BK246.out 4
         have hfz38_5 := blk_frozen BK246.out 5
         have hfz38_6 := blk_frozen BK246.out 6
         have hfz38_7 := blk_frozen BK246.out 7
         have hfz38_8 := blk_frozen BK246.out 8
         have hfz38_9 := blk_frozen BK246.out 9
         try go_wp2
         replace BK246 := zA (blk_drew BK246.out)
         replace HB := zA (below_drew1 HB.out)
         refine start_ (n := 36) (S := fun w' => w'.cell? ⟨gb246, 0, none⟩ = some (.int .i64 a0_0) ∧ w'.cell? ⟨gb246, 1, none⟩ = some (.int .i64 a0_1) ∧ w'.cell? ⟨gb246, 2, none⟩ = some (.int .i64 a0_2) ∧ w'.cell? ⟨gb246, 3, none⟩ = some (.int .i64 a0_3) ∧ w'.cell? ⟨gb246, 4, none⟩ = some (.int .i64 a0_4) ∧ w'.cell? ⟨gb246, 5, none⟩ = some (.int .i64 a0_5) ∧ w'.cell? ⟨gb246, 6, none⟩ = some (.int .i64 a0_6) ∧ w'.cell? ⟨gb246, 7, none⟩ = some (.bool false) ∧ w'.cell? ⟨gb246, 8, none⟩ = some (.int .i64 a0_8) ∧ w'.cell? ⟨gb246, 9, none⟩ = some (.slice A0_9 l0_9.length c0_9)) (ds := []) (ms 36 0) (by kernel_rfl) rfl rfl ⟨(blk_cell BK246.out 0).trans rfl, (blk_cell BK246.out 1).trans rfl, (blk_cell BK246.out 2).trans rfl, (blk_cell BK246.out 3).trans rfl, (blk_cell BK246.out 4).trans rfl, (blk_cell BK246.out 5).trans rfl, (blk_cell BK246.out 6).trans rfl, (blk_cell BK246.out 7).trans rfl, (blk_cell BK246.out 8).trans rfl, (blk_cell BK246.out 9).trans rfl⟩ (fun hHeld => ?_); refine with_tabW fountainref14_RightRecord.tab5 fountainref14_RightRecord.bits5 (fun HT_ HW_ => ?_)
         generalize wc.drew = w39 at BK246 HB hHeld ⊢
         refine run_ [(0, false, some 49), (1, true, some 50)] (n := 2) (ms 36 3) rfl HT_.out HW_.out (by kernel_rfl) (fun _ _ _ _ h => h) hHeld ?_
         repeat (first | (refine Run.p (v := ?_) (a' := ?_) rfl rfl (Or.inl ⟨by rfl, ?_⟩) ?_ ?_; rotate_left; (focus intro w'; go_simp; with_reducible rfl); rotate_left; (focus simp only [Act.put, sx]; rfl)) | (refine Run.t (v := ?_) (a' := ?_) rfl rfl (Or.inl ⟨by rfl, ?_⟩) ?_ ?_; rotate_left; (focus rintro w' ⟨s0, s1, s2, s3, s4, s5, s6, s7, s8, s9⟩; go_simp; with_reducible rfl); rotate_left; (focus simp only [Act.put, sx]; rfl)))
         refine Run.nil ?_
         refine one_ (i := 2) (N := some 51) (ms 36 7) rfl rfl (one_of HT_.out (by kernel_rfl)) (by decide) (fun K hK => ?_)
         refine goes_ Try.func27 (by kernel_rfl) rfl #[.agg #[.int .i64 a0_2, .int .i64 a0_3, .int .i64 a0_4]] (by rfl) rfl rfl (by (try simp only [List.map_toArray, List.map_cons, List.map_nil]); first | done | rfl | (simp only [List.length_drop, List.length_take]; rfl)) ?_
         with_reducible refine (fountainref1_RightShape.calls a0_2 a0_3 a0_4 true _ A23.out).mono ?_
         rintro e w40 ⟨rfl, hb⟩
         refine ⟨_, rfl, ?_⟩
         replace BK246 := zA (blk_below (g := gb246) (o := .cells #[.int .i64 a0_0, .int .i64 a0_1, .int .i64 a0_2, .int .i64 a0_3, .int .i64 a0_4, .int .i64 a0_5, .int .i64 a0_6, .bool false, .int .i64 a0_8, .slice A0_9 l0_9.length c0_9] 28 (0, 0)) (blk_g BK246.out) hb)
         replace HB := zA (belt hb)
         (try clear hb)
         (try clear hb2)
         (try clear hk)
         (try clear hi)
         refine hK.out _ _ ⟨(blk_cell BK246.out 0).trans rfl, (blk_cell BK246.out 1).trans rfl, (blk_cell BK246.out 2).trans rfl, (blk_cell BK246.out 3).trans rfl, (blk_cell BK246.out 4).trans rfl, (blk_cell BK246.out 5).trans rfl, (blk_cell BK246.out 6).trans rfl, (blk_cell BK246.out 7).trans rfl, (blk_cell BK246.out 8).trans rfl, (blk_cell BK246.out 9).trans rfl⟩ (fun hHeld => ?_)
         clear hK K
         refine norm_ (a' := ?_) ?_ ?_
         rotate_left
         ·show Act.put _ (some 51) _ = _
          simp only [Act.put, sx]
          rfl
         refine run_ [(3, false, some 52), (4, false, some 53), (5, true, some 54), (6, false, some 55), (7, false, some 56), (8, false, some 57), (9, false, some 58), (11, false, some 60), (10, true, some 59), (12, true, some 61)] (n := 10) (ms 36 8191) rfl HT_.out HW_.out (by kernel_rfl) (fun _ _ _ _ h => h) hHeld ?_
         repeat (first | (refine Run.p (v := ?_) (a' := ?_) rfl rfl (Or.inl ⟨by rfl, ?_⟩) ?_ ?_; rotate_left; (focus intro w'; go_simp; with_reducible rfl); rotate_left; (focus simp only [Act.put, sx]; rfl)) | (refine Run.t (v := ?_) (a' := ?_) rfl rfl (Or.inl ⟨by rfl, ?_⟩) ?_ ?_; rotate_left; (focus rintro w' ⟨s0, s1, s2, s3, s4, s5, s6, s7, s8, s9⟩; go_simp; with_reducible rfl); rotate_left; (focus simp only [Act.put, sx]; rfl)))
         refine Run.nil ?_
         refine one_ (i := 13) (N := some 62) (ms 36 16383) rfl rfl (one_of HT_.out (by kernel_rfl)) (by decide) (fun K hK => ?_)
         refine goes_ Try.func28 (by kernel_rfl) rfl #[.agg #[.int .i64 a0_2, .int .i64 a0_3, .int .i64 a0_4]] (by rfl) rfl rfl (by (try simp only [List.map_toArray, List.map_cons, List.map_nil]); first | done | rfl | (simp only [List.length_drop, List.length_take]; rfl)) ?_
         with_reducible refine (fountainref1_Blocks.calls a0_2 a0_3 a0_4 t251 _ A26.out).mono ?_
         rintro e w41 ⟨rfl, hb⟩
         refine ⟨_, rfl, ?_⟩
         replace BK246 := zA (blk_below (g := gb246) (o := .cells #[.int .i64 a0_0, .int .i64 a0_1, .int .i64 a0_2, .int .i64 a0_3, .int .i64 a0_4, .int .i64 a0_5, .int .i64 a0_6, .bool false, .int .i64 a0_8, .slice A0_9 l0_9.length c0_9] 28 (0, 0)) (blk_g BK246.out) hb)
         replace HB := zA (belt hb)
         (try clear hb)
         (try clear hb2)
         (try clear hk)
         (try clear hi)
         refine hK.out _ _ ⟨(blk_cell BK246.out 0).trans rfl, (blk_cell BK246.out 1).trans rfl, (blk_cell BK246.out 2).trans rfl, (blk_cell BK246.out 3).trans rfl, (blk_cell BK246.out 4).trans rfl, (blk_cell BK246.out 5).trans rfl, (blk_cell BK246.out 6).trans rfl, (blk_cell BK246.out 7).trans rfl, (blk_cell BK246.out 8).trans rfl, (blk_cell BK246.out 9).trans rfl⟩ (fun hHeld => ?_)
         clear hK K
         refine norm_ (a' := ?_) ?_ ?_
         rotate_left
         ·show Act.put _ (some 62) _ = _
          simp only [Act.put, sx]
          rfl
         refine run_ [(14, false, some 63), (15, false, some 64), (16, false, some 65), (17, false, some 66), (18, true, some 67), (19, false, some 68), (20, false, some 69), (21, false, some 70)] (n := 8) (ms 36 4194303) rfl HT_.out HW_.out (by kernel_rfl) (fun _ _ _ _ h => h) hHeld ?_
         repeat (first | (refine Run.p (v := ?_) (a' := ?_) rfl rfl (Or.inl ⟨by rfl, ?_⟩) ?_ ?_; rotate_left; (focus intro w'; go_simp; with_reducible rfl); rotate_left; (focus simp only [Act.put, sx]; rfl)) | (refine Run.t (v := ?_) (a' := ?_) rfl rfl (Or.inl ⟨by rfl, ?_⟩) ?_ ?_; rotate_left; (focus rintro w' ⟨s0, s1, s2, s3, s4, s5, s6, s7, s8, s9⟩; go_simp; with_reducible rfl); rotate_left; (focus simp only [Act.put, sx]; rfl)))
         refine Run.nil ?_
         refine pure_ (i := 22) (N := some 71) (v := undef) (a' := ?_) (ms 36 8388607) rfl rfl (any_of HT_.out (by kernel_rfl)) (fun _ _ _ h => h) (Or.inr ⟨by rfl, rfl⟩) ?_ ?_
         rotate_left
         ·simp only [Act.put, sx]
          rfl
         refine pure_ (i := 23) (N := some 72) (v := undef) (a' := ?_) (ms 36 16777215) rfl rfl (any_of HT_.out (by kernel_rfl)) (fun _ _ _ h => h) (Or.inr ⟨by rfl, rfl⟩) ?_ ?_
         rotate_left
         ·simp only [Act.put, sx]
          rfl
         refine pure_ (i := 24) (N := some 73) (v := undef) (a' := ?_) (ms 36 33554431) rfl rfl (any_of HT_.out (by kernel_rfl)) (fun _ _ _ h => h) (Or.inr ⟨by rfl, rfl⟩) ?_ ?_
         rotate_left
         ·simp only [Act.put, sx]
          rfl
         refine run_ [(25, false, some 74), (26, false, some 75)] (n := 2) (ms 36 134217727) rfl HT_.out HW_.out (by kernel_rfl) (fun _ _ _ _ h => h) hHeld ?_
         repeat (refine Run.p (v := ?_) (a' := ?_) rfl rfl (Or.inl ⟨by rfl, ?_⟩) ?_ ?_; rotate_left; (focus intro w'; go_simp; with_reducible rfl); rotate_left; (focus simp only [Act.put, sx]; rfl))
         refine Run.nil ?_
         refine pure_ (i := 27) (N := some 76) (v := undef) (a' := ?_) (ms 36 268435455) rfl rfl (any_of HT_.out (by kernel_rfl)) (fun _ _ _ h => h) (Or.inr ⟨by rfl, rfl⟩) ?_ ?_
         rotate_left
         ·simp only [Act.put, sx]
          rfl
         refine pure_ (i := 28) (N := some 77) (v := undef) (a' := ?_) (ms 36 536870911) rfl rfl (any_of HT_.out (by kernel_rfl)) (fun _ _ _ h => h) (Or.inr ⟨by rfl, rfl⟩) ?_ ?_
         rotate_left
         ·simp only [Act.put, sx]
          rfl
         refine pure_ (i := 29) (N := some 78) (v := undef) (a' := ?_) (ms 36 1073741823) rfl rfl (any_of HT_.out (by kernel_rfl)) (fun _ _ _ h => h) (Or.inr ⟨by rfl, rfl⟩) ?_ ?_
         rotate_left
         ·simp only [Act.put, sx]
          rfl
         refine pure_ (i := 30) (N := some 79) (v := undef) (a' := ?_) (ms 36 2147483647) rfl rfl (any_of HT_.out (by kernel_rfl)) (fun _ _ _ h => h) (Or.inr ⟨by rfl, rfl⟩) ?_ ?_
         rotate_left
         ·simp only [Act.put, sx]
          rfl
         refine pure_ (i := 31) (N := some 80) (v := undef) (a' := ?_) (ms 36 4294967295) rfl rfl (any_of HT_.out (by kernel_rfl)) (fun _ _ _ h => h) (Or.inr ⟨by rfl, rfl⟩) ?_ ?_
         rotate_left
         ·simp only [Act.put, sx]
          rfl
         refine pure_ (i := 32) (N := some 81) (v := undef) (a' := ?_) (ms 36 8589934591) rfl rfl (any_of HT_.out (by kernel_rfl)) (fun _ _ _ h => h) (Or.inr ⟨by rfl, rfl⟩) ?_ ?_
         rotate_left
         ·simp only [Act.put, sx]
          rfl
         refine pure_ (i := 33) (N := some 82) (v := undef) (a' := ?_) (ms 36 17179869183) rfl rfl (any_of HT_.out (by kernel_rfl)) (fun _ _ _ h => h) (Or.inr ⟨by rfl, rfl⟩) ?_ ?_
         rotate_left
         ·simp only [Act.put, sx]
          rfl
         refine run_ [(34, false, some 83), (35, false, some 2)] (n := 2) (ms 36 68719476735) rfl HT_.out HW_.out (by kernel_rfl) (fun _ _ _ _ h => h) hHeld ?_
         repeat (refine Run.p (v := ?_) (a' := ?_) rfl rfl (Or.inl ⟨by rfl, ?_⟩) ?_ ?_; rotate_left; (focus intro w'; go_simp; with_reducible rfl); rotate_left; (focus simp only [Act.put, sx]; rfl))
         refine Run.nil ?_
         refine done_ (done_of HT_.out (by kernel_rfl)) ?_
         try go_wp2
         go_ret
         exact ⟨by first | rfl | (simp [errW_none, errW_some] <;> rfl) | (simp [*, errW_none, errW_some] <;> rfl), bel⟩
       ·rw [if_neg c27] at H
        have c27b0 : decide (a0_5 < t251) = false := decide_eq_false c27
        clear c27
        obtain rfl := Option.some.inj H
        have hcz42_0 : wc.cell? ⟨gb246, 0, none⟩ = some (.int .i64 a0_0) := (blk_cell BK246.out 0).trans rfl
        have hcz42_1 : wc.cell? ⟨gb246, 1, none⟩ = some (.int .i64 a0_1) := (blk_cell BK246.out 1).trans rfl
        have hcz42_2 : wc.cell? ⟨gb246, 2, none⟩ = some (.int .i64 a0_2) := (blk_cell BK246.out 2).trans rfl
        have hcz42_3 : wc.cell? ⟨gb246, 3, none⟩ = some (.int .i64 a0_3) := (blk_cell BK246.out 3).trans rfl
        have hcz42_4 : wc.cell? ⟨gb246, 4, none⟩ = some (.int .i64 a0_4) := (blk_cell BK246.out 4).trans rfl
        have hcz42_5 : wc.cell? ⟨gb246, 5, none⟩ = some (.int .i64 a0_5) := (blk_cell BK246.out 5).trans rfl
        have hcz42_6 : wc.cell? ⟨gb246, 6, none⟩ = some (.int .i64 a0_6) := (blk_cell BK246.out 6).trans rfl
        have hcz42_7 : wc.cell? ⟨gb246, 7, none⟩ = some (.bool false) := (blk_cell BK246.out 7).trans rfl
        have hcz42_8 : wc.cell? ⟨gb246, 8, none⟩ = some (.int .i64 a0_8) := (blk_cell BK246.out 8).trans rfl
        have hcz42_9 : wc.cell? ⟨gb246, 9, none⟩ = some (.slice A0_9 l0_9.length c0_9) := (blk_cell BK246.out 9).trans rfl
        have hfz42_0 := blk_frozen BK246.out 0
        have hfz42_1 := blk_frozen BK246.out 1
        have hfz42_2 := blk_frozen BK246.out 2
        have hfz42_3 := blk_frozen BK246.out 3
        have hfz42_4 := blk_frozen BK246.out 4
        have hfz42_5 := blk_frozen BK246.out 5
        have hfz42_6 := blk_frozen BK246.out 6
        have hfz42_7 := blk_frozen BK246.out 7
        have hfz42_8 := blk_frozen BK246.out 8
        have hfz42_9 := blk_frozen BK246.out 9
        try go_wp2
        replace BK246 := zA (blk_drew BK246.out)
        replace HB := zA (below_drew1 HB.out)
        refine start_ (n := 36) (S := fun w' => w'.cell? ⟨gb246, 0, none⟩ = some (.int .i64 a0_0) ∧ w'.cell? ⟨gb246, 1, none⟩ = some (.int .i64 a0_1) ∧ w'.cell? ⟨gb246, 2, none⟩ = some (.int .i64 a0_2) ∧ w'.cell? ⟨gb246, 3, none⟩ = some (.int .i64 a0_3) ∧ w'.cell? ⟨gb246, 4, none⟩ = some (.int .i64 a0_4) ∧ w'.cell? ⟨gb246, 5, none⟩ = some (.int .i64 a0_5) ∧ w'.cell? ⟨gb246, 6, none⟩ = some (.int .i64 a0_6) ∧ w'.cell? ⟨gb246, 7, none⟩ = some (.bool false) ∧ w'.cell? ⟨gb246, 8, none⟩ = some (.int .i64 a0_8) ∧ w'.cell? ⟨gb246, 9, none⟩ = some (.slice A0_9 l0_9.length c0_9)) (ds := []) (ms 36 0) (by kernel_rfl) rfl rfl ⟨(blk_cell BK246.out 0).trans rfl, (blk_cell BK246.out 1).trans rfl, (blk_cell BK246.out 2).trans rfl, (blk_cell BK246.out 3).trans rfl, (blk_cell BK246.out 4).trans rfl, (blk_cell BK246.out 5).trans rfl, (blk_cell BK246.out 6).trans rfl, (blk_cell BK246.out 7).trans rfl, (blk_cell BK246.out 8).trans rfl, (blk_cell BK246.out 9).trans rfl⟩ (fun hHeld => ?_); refine with_tabW fountainref14_RightRecord.tab5 fountainref14_RightRecord.bits5 (fun HT_ HW_ => ?_)
        generalize wc.drew = w43 at BK246 HB hHeld ⊢
        refine run_ [(0, false, some 49), (1, true, some 50)] (n := 2) (ms 36 3) rfl HT_.out HW_.out (by kernel_rfl) (fun _ _ _ _ h => h) hHeld ?_
        repeat (first | (refine Run.p (v := ?_) (a' := ?_) rfl rfl (Or.inl ⟨by rfl, ?_⟩) ?_ ?_; rotate_left; (focus intro w'; go_simp; with_reducible rfl); rotate_left; (focus simp only [Act.put, sx]; rfl)) | (refine Run.t (v := ?_) (a' := ?_) rfl rfl (Or.inl ⟨by rfl, ?_⟩) ?_ ?_; rotate_left; (focus rintro w' ⟨s0, s1, s2, s3, s4, s5, s6, s7, s8, s9⟩; go_simp; with_reducible rfl); rotate_left; (focus simp only [Act.put, sx]; rfl)))
        refine Run.nil ?_
        refine one_ (i := 2) (N := some 51) (ms 36 7) rfl rfl (one_of HT_.out (by kernel_rfl)) (by decide) (fun K hK => ?_)
        refine goes_ Try.func27 (by kernel_rfl) rfl #[.agg #[.int .i64 a0_2, .int .i64 a0_3, .int .i64 a0_4]] (by rfl) rfl rfl (by (try simp only [List.map_toArray, List.map_cons, List.map_nil]); first | done | rfl | (simp only [List.length_drop, List.length_take]; rfl)) ?_
        with_reducible refine (fountainref1_RightShape.calls a0_2 a0_3 a0_4 true _ A23.out).mono ?_
        rintro e w44 ⟨rfl, hb⟩
        refine ⟨_, rfl, ?_⟩
        replace BK246 := zA (blk_below (g := gb246) (o := .cells #[.int .i64 a0_0, .int .i64 a0_1, .int .i64 a0_2, .int .i64 a0_3, .int .i64 a0_4, .int .i64 a0_5, .int .i64 a0_6, .bool false, .int .i64 a0_8, .slice A0_9 l0_9.length c0_9] 28 (0, 0)) (blk_g BK246.out) hb)
        replace HB := zA (belt hb)
        (try clear hb)
        (try clear hb2)
        (try clear hk)
        (try clear hi)
        refine hK.out _ _ ⟨(blk_cell BK246.out 0).trans rfl, (blk_cell BK246.out 1).trans rfl, (blk_cell BK246.out 2).trans rfl, (blk_cell BK246.out 3).trans rfl, (blk_cell BK246.out 4).trans rfl, (blk_cell BK246.out 5).trans rfl, (blk_cell BK246.out 6).trans rfl, (blk_cell BK246.out 7).trans rfl, (blk_cell BK246.out 8).trans rfl, (blk_cell BK246.out 9).trans rfl⟩ (fun hHeld => ?_)
        clear hK K
        refine norm_ (a' := ?_) ?_ ?_
        rotate_left
        ·show Act.put _ (some 51) _ = _
         simp only [Act.put, sx]
         rfl
        refine run_ [(3, false, some 52), (4, false, some 53), (5, true, some 54), (6, false, some 55), (7, false, some 56), (8, false, some 57), (9, false, some 58), (11, false, some 60), (10, true, some 59), (12, true, some 61)] (n := 10) (ms 36 8191) rfl HT_.out HW_.out (by kernel_rfl) (fun _ _ _ _ h => h) hHeld ?_
        repeat (first | (refine Run.p (v := ?_) (a' := ?_) rfl rfl (Or.inl ⟨by rfl, ?_⟩) ?_ ?_; rotate_left; (focus intro w'; go_simp; with_reducible rfl); rotate_left; (focus simp only [Act.put, sx]; rfl)) | (refine Run.t (v := ?_) (a' := ?_) rfl rfl (Or.inl ⟨by rfl, ?_⟩) ?_ ?_; rotate_left; (focus rintro w' ⟨s0, s1, s2, s3, s4, s5, s6, s7, s8, s9⟩; go_simp; with_reducible rfl); rotate_left; (focus simp only [Act.put, sx]; rfl)))
        refine Run.nil ?_
        refine one_ (i := 13) (N := some 62) (ms 36 16383) rfl rfl (one_of HT_.out (by kernel_rfl)) (by decide) (fun K hK => ?_)
        refine goes_ Try.func28 (by kernel_rfl) rfl #[.agg #[.int .i64 a0_2, .int .i64 a0_3, .int .i64 a0_4]] (by rfl) rfl rfl (by (try simp only [List.map_toArray, List.map_cons, List.map_nil]); first | done | rfl | (simp only [List.length_drop, List.length_take]; rfl)) ?_
        with_reducible refine (fountainref1_Blocks.calls a0_2 a0_3 a0_4 t251 _ A26.out).mono ?_
        rintro e w45 ⟨rfl, hb⟩
        refine ⟨_, rfl, ?_⟩
        replace BK246 := zA (blk_below (g := gb246) (o := .cells #[.int .i64 a0_0, .int .i64 a0_1, .int .i64 a0_2, .int .i64 a0_3, .int .i64 a0_4, .int .i64 a0_5, .int .i64 a0_6, .bool false, .int .i64 a0_8, .slice A0_9 l0_9.length c0_9] 28 (0, 0)) (blk_g BK246.out) hb)
        replace HB := zA (belt hb)
        (try clear hb)
        (try clear hb2)
        (try clear hk)
        (try clear hi)
        refine hK.out _ _ ⟨(blk_cell BK246.out 0).trans rfl, (blk_cell BK246.out 1).trans rfl, (blk_cell BK246.out 2).trans rfl, (blk_cell BK246.out 3).trans rfl, (blk_cell BK246.out 4).trans rfl, (blk_cell BK246.out 5).trans rfl, (blk_cell BK246.out 6).trans rfl, (blk_cell BK246.out 7).trans rfl, (blk_cell BK246.out 8).trans rfl, (blk_cell BK246.out 9).trans rfl⟩ (fun hHeld => ?_)
        clear hK K
        refine norm_ (a' := ?_) ?_ ?_
        rotate_left
        ·show Act.put _ (some 62) _ = _
         simp only [Act.put, sx]
         rfl
        refine run_ [(14, false, some 63), (15, false, some 64), (16, false, some 65)] (n := 3) (ms 36 131071) rfl HT_.out HW_.out (by kernel_rfl) (fun _ _ _ _ h => h) hHeld ?_
        repeat (refine Run.p (v := ?_) (a' := ?_) rfl rfl (Or.inl ⟨by rfl, ?_⟩) ?_ ?_; rotate_left; (focus intro w'; go_simp; with_reducible rfl); rotate_left; (focus simp only [Act.put, sx]; rfl))
        refine Run.nil ?_
        refine pure_ (i := 17) (N := some 66) (v := undef) (a' := ?_) (ms 36 262143) rfl rfl (any_of HT_.out (by kernel_rfl)) (fun _ _ _ h => h) (Or.inr ⟨by rfl, rfl⟩) ?_ ?_
        rotate_left
        ·simp only [Act.put, sx]
         rfl
        refine pure_ (i := 18) (N := some 67) (v := undef) (a' := ?_) (ms 36 524287) rfl rfl (any_of HT_.out (by kernel_rfl)) (fun _ _ _ h => h) (Or.inr ⟨by rfl, rfl⟩) ?_ ?_
        rotate_left
        ·simp only [Act.put, sx]
         rfl
        refine pure_ (i := 19) (N := some 68) (v := undef) (a' := ?_) (ms 36 1048575) rfl rfl (any_of HT_.out (by kernel_rfl)) (fun _ _ _ h => h) (Or.inr ⟨by rfl, rfl⟩) ?_ ?_
        rotate_left
        ·simp only [Act.put, sx]
         rfl
        refine run_ [(20, false, some 69), (21, false, some 70)] (n := 2) (ms 36 4194303) rfl HT_.out HW_.out (by kernel_rfl) (fun _ _ _ _ h => h) hHeld ?_
        repeat (refine Run.p (v := ?_) (a' := ?_) rfl rfl (Or.inl ⟨by rfl, ?_⟩) ?_ ?_; rotate_left; (focus intro w'; go_simp; with_reducible rfl); rotate_left; (focus simp only [Act.put, sx]; rfl))
        refine Run.nil ?_
        refine pure_ (i := 22) (N := some 71) (v := undef) (a' := ?_) (ms 36 8388607) rfl rfl (any_of HT_.out (by kernel_rfl)) (fun _ _ _ h => h) (Or.inr ⟨by rfl, rfl⟩) ?_ ?_
        rotate_left
        ·simp only [Act.put, sx]
         rfl
        refine pure_ (i := 23) (N := some 72) (v := undef) (a' := ?_) (ms 36 16777215) rfl rfl (any_of HT_.out (by kernel_rfl)) (fun _ _ _ h => h) (Or.inr ⟨by rfl, rfl⟩) ?_ ?_
        rotate_left
        ·simp only [Act.put, sx]
         rfl
        refine pure_ (i := 24) (N := some 73) (v := undef) (a' := ?_) (ms 36 33554431) rfl rfl (any_of HT_.out (by kernel_rfl)) (fun _ _ _ h => h) (Or.inr ⟨by rfl, rfl⟩) ?_ ?_
        rotate_left
        ·simp only [Act.put, sx]
         rfl
        refine run_ [(25, false, some 74), (26, false, some 75)] (n := 2) (ms 36 134217727) rfl HT_.out HW_.out (by kernel_rfl) (fun _ _ _ _ h => h) hHeld ?_
        repeat (refine Run.p (v := ?_) (a' := ?_) rfl rfl (Or.inl ⟨by rfl, ?_⟩) ?_ ?_; rotate_left; (focus intro w'; go_simp; with_reducible rfl); rotate_left; (focus simp only [Act.put, sx]; rfl))
        refine Run.nil ?_
        refine pure_ (i := 27) (N := some 76) (v := undef) (a' := ?_) (ms 36 268435455) rfl rfl (any_of HT_.out (by kernel_rfl)) (fun _ _ _ h => h) (Or.inr ⟨by rfl, rfl⟩) ?_ ?_
        rotate_left
        ·simp only [Act.put, sx]
         rfl
        refine pure_ (i := 28) (N := some 77) (v := undef) (a' := ?_) (ms 36 536870911) rfl rfl (any_of HT_.out (by kernel_rfl)) (fun _ _ _ h => h) (Or.inr ⟨by rfl, rfl⟩) ?_ ?_
        rotate_left
        ·simp only [Act.put, sx]
         rfl
        refine pure_ (i := 29) (N := some 78) (v := undef) (a' := ?_) (ms 36 1073741823) rfl rfl (any_of HT_.out (by kernel_rfl)) (fun _ _ _ h => h) (Or.inr ⟨by rfl, rfl⟩) ?_ ?_
        rotate_left
        ·simp only [Act.put, sx]
         rfl
        refine pure_ (i := 30) (N := some 79) (v := undef) (a' := ?_) (ms 36 2147483647) rfl rfl (any_of HT_.out (by kernel_rfl)) (fun _ _ _ h => h) (Or.inr ⟨by rfl, rfl⟩) ?_ ?_
        rotate_left
        ·simp only [Act.put, sx]
         rfl
        refine pure_ (i := 31) (N := some 80) (v := undef) (a' := ?_) (ms 36 4294967295) rfl rfl (any_of HT_.out (by kernel_rfl)) (fun _ _ _ h => h) (Or.inr ⟨by rfl, rfl⟩) ?_ ?_
        rotate_left
        ·simp only [Act.put, sx]
         rfl
        refine pure_ (i := 32) (N := some 81) (v := undef) (a' := ?_) (ms 36 8589934591) rfl rfl (any_of HT_.out (by kernel_rfl)) (fun _ _ _ h => h) (Or.inr ⟨by rfl, rfl⟩) ?_ ?_
        rotate_left
        ·simp only [Act.put, sx]
         rfl
        refine pure_ (i := 33) (N := some 82) (v := undef) (a' := ?_) (ms 36 17179869183) rfl rfl (any_of HT_.out (by kernel_rfl)) (fun _ _ _ h => h) (Or.inr ⟨by rfl, rfl⟩) ?_ ?_
        rotate_left
        ·simp only [Act.put, sx]
         rfl
        refine run_ [(34, false, some 83), (35, false, some 2)] (n := 2) (ms 36 68719476735) rfl HT_.out HW_.out (by kernel_rfl) (fun _ _ _ _ h => h) hHeld ?_
        repeat (refine Run.p (v := ?_) (a' := ?_) rfl rfl (Or.inl ⟨by rfl, ?_⟩) ?_ ?_; rotate_left; (focus intro w'; go_simp; with_reducible rfl); rotate_left; (focus simp only [Act.put, sx]; rfl))
        refine Run.nil ?_
        refine done_ (done_of HT_.out (by kernel_rfl)) ?_
        try go_wp2
        go_ret
        exact ⟨by first | rfl | (simp [errW_none, errW_some] <;> rfl) | (simp [*, errW_none, errW_some] <;> rfl), bel⟩
      ·rw [if_neg c25] at H
       have c25b0 : decide (0 ≤ a0_5) = false := decide_eq_false c25
       clear c25
       obtain rfl := Option.some.inj H
       have hcz46_0 : wc.cell? ⟨gb246, 0, none⟩ = some (.int .i64 a0_0) := (blk_cell BK246.out 0).trans rfl
       have hcz46_1 : wc.cell? ⟨gb246, 1, none⟩ = some (.int .i64 a0_1) := (blk_cell BK246.out 1).trans rfl
       have hcz46_2 : wc.cell? ⟨gb246, 2, none⟩ = some (.int .i64 a0_2) := (blk_cell BK246.out 2).trans rfl
       have hcz46_3 : wc.cell? ⟨gb246, 3, none⟩ = some (.int .i64 a0_3) := (blk_cell BK246.out 3).trans rfl
       have hcz46_4 : wc.cell? ⟨gb246, 4, none⟩ = some (.int .i64 a0_4) := (blk_cell BK246.out 4).trans rfl
       have hcz46_5 : wc.cell? ⟨gb246, 5, none⟩ = some (.int .i64 a0_5) := (blk_cell BK246.out 5).trans rfl
       have hcz46_6 : wc.cell? ⟨gb246, 6, none⟩ = some (.int .i64 a0_6) := (blk_cell BK246.out 6).trans rfl
       have hcz46_7 : wc.cell? ⟨gb246, 7, none⟩ = some (.bool false) := (blk_cell BK246.out 7).trans rfl
       have hcz46_8 : wc.cell? ⟨gb246, 8, none⟩ = some (.int .i64 a0_8) := (blk_cell BK246.out 8).trans rfl
       have hcz46_9 : wc.cell? ⟨gb246, 9, none⟩ = some (.slice A0_9 l0_9.length c0_9) := (blk_cell BK246.out 9).trans rfl
       have hfz46_0 := blk_frozen BK246.out 0
       have hfz46_1 := blk_frozen BK246.out 1
       have hfz46_2 := blk_frozen BK246.out 2
       have hfz46_3 := blk_frozen BK246.out 3
       have hfz46_4 := blk_frozen BK246.out 4
       have hfz46_5 := blk_frozen BK246.out 5
       have hfz46_6 := blk_frozen BK246.out 6
       have hfz46_7 := blk_frozen BK246.out 7
       have hfz46_8 := blk_frozen BK246.out 8
       have hfz46_9 := blk_frozen BK246.out 9
       try go_wp2
       replace BK246 := zA (blk_drew BK246.out)
       replace HB := zA (below_drew1 HB.out)
       refine start_ (n := 36) (S := fun w' => w'.cell? ⟨gb246, 0, none⟩ = some (.int .i64 a0_0) ∧ w'.cell? ⟨gb246, 1, none⟩ = some (.int .i64 a0_1) ∧ w'.cell? ⟨gb246, 2, none⟩ = some (.int .i64 a0_2) ∧ w'.cell? ⟨gb246, 3, none⟩ = some (.int .i64 a0_3) ∧ w'.cell? ⟨gb246, 4, none⟩ = some (.int .i64 a0_4) ∧ w'.cell? ⟨gb246, 5, none⟩ = some (.int .i64 a0_5) ∧ w'.cell? ⟨gb246, 6, none⟩ = some (.int .i64 a0_6) ∧ w'.cell? ⟨gb246, 7, none⟩ = some (.bool false) ∧ w'.cell? ⟨gb246, 8, none⟩ = some (.int .i64 a0_8) ∧ w'.cell? ⟨gb246, 9, none⟩ = some (.slice A0_9 l0_9.length c0_9)) (ds := []) (ms 36 0) (by kernel_rfl) rfl rfl ⟨(blk_cell BK246.out 0).trans rfl, (blk_cell BK246.out 1).trans rfl, (blk_cell BK246.out 2).trans rfl, (blk_cell BK246.out 3).trans rfl, (blk_cell BK246.out 4).trans rfl, (blk_cell BK246.out 5).trans rfl, (blk_cell BK246.out 6).trans rfl, (blk_cell BK246.out 7).trans rfl, (blk_cell BK246.out 8).trans rfl, (blk_cell BK246.out 9).trans rfl⟩ (fun hHeld => ?_); refine with_tabW fountainref14_RightRecord.tab5 fountainref14_RightRecord.bits5 (fun HT_ HW_ => ?_)
       generalize wc.drew = w47 at BK246 HB hHeld ⊢
       refine run_ [(0, false, some 49), (1, true, some 50)] (n := 2) (ms 36 3) rfl HT_.out HW_.out (by kernel_rfl) (fun _ _ _ _ h => h) hHeld ?_
       repeat (first | (refine Run.p (v := ?_) (a' := ?_) rfl rfl (Or.inl ⟨by rfl, ?_⟩) ?_ ?_; rotate_left; (focus intro w'; go_simp; with_reducible rfl); rotate_left; (focus simp only [Act.put, sx]; rfl)) | (refine Run.t (v := ?_) (a' := ?_) rfl rfl (Or.inl ⟨by rfl, ?_⟩) ?_ ?_; rotate_left; (focus rintro w' ⟨s0, s1, s2, s3, s4, s5, s6, s7, s8, s9⟩; go_simp; with_reducible rfl); rotate_left; (focus simp only [Act.put, sx]; rfl)))
       refine Run.nil ?_
       refine one_ (i := 2) (N := some 51) (ms 36 7) rfl rfl (one_of HT_.out (by kernel_rfl)) (by decide) (fun K hK => ?_)
       refine goes_ Try.func27 (by kernel_rfl) rfl #[.agg #[.int .i64 a0_2, .int .i64 a0_3, .int .i64 a0_4]] (by rfl) rfl rfl (by (try simp only [List.map_toArray, List.map_cons, List.map_nil]); first | done | rfl | (simp only [List.length_drop, List.length_take]; rfl)) ?_
       with_reducible refine (fountainref1_RightShape.calls a0_2 a0_3 a0_4 true _ A23.out).mono ?_
       rintro e w48 ⟨rfl, hb⟩
       refine ⟨_, rfl, ?_⟩
       replace BK246 := zA (blk_below (g := gb246) (o := .cells #[.int .i64 a0_0, .int .i64 a0_1, .int .i64 a0_2, .int .i64 a0_3, .int .i64 a0_4, .int .i64 a0_5, .int .i64 a0_6, .bool false, .int .i64 a0_8, .slice A0_9 l0_9.length c0_9] 28 (0, 0)) (blk_g BK246.out) hb)
       replace HB := zA (belt hb)
       (try clear hb)
       (try clear hb2)
       (try clear hk)
       (try clear hi)
       refine hK.out _ _ ⟨(blk_cell BK246.out 0).trans rfl, (blk_cell BK246.out 1).trans rfl, (blk_cell BK246.out 2).trans rfl, (blk_cell BK246.out 3).trans rfl, (blk_cell BK246.out 4).trans rfl, (blk_cell BK246.out 5).trans rfl, (blk_cell BK246.out 6).trans rfl, (blk_cell BK246.out 7).trans rfl, (blk_cell BK246.out 8).trans rfl, (blk_cell BK246.out 9).trans rfl⟩ (fun hHeld => ?_)
       clear hK K
       refine norm_ (a' := ?_) ?_ ?_
       rotate_left
       ·show Act.put _ (some 51) _ = _
        simp only [Act.put, sx]
        rfl
       refine run_ [(3, false, some 52), (4, false, some 53), (5, true, some 54), (6, false, some 55), (7, false, some 56), (8, false, some 57)] (n := 6) (ms 36 511) rfl HT_.out HW_.out (by kernel_rfl) (fun _ _ _ _ h => h) hHeld ?_
       repeat (first | (refine Run.p (v := ?_) (a' := ?_) rfl rfl (Or.inl ⟨by rfl, ?_⟩) ?_ ?_; rotate_left; (focus intro w'; go_simp; with_reducible rfl); rotate_left; (focus simp only [Act.put, sx]; rfl)) | (refine Run.t (v := ?_) (a' := ?_) rfl rfl (Or.inl ⟨by rfl, ?_⟩) ?_ ?_; rotate_left; (focus rintro w' ⟨s0, s1, s2, s3, s4, s5, s6, s7, s8, s9⟩; go_simp; with_reducible rfl); rotate_left; (focus simp only [Act.put, sx]; rfl)))
       refine Run.nil ?_
       refine pure_ (i := 9) (N := some 58) (v := undef) (a' := ?_) (ms 36 1023) rfl rfl (any_of HT_.out (by kernel_rfl)) (fun _ _ _ h => h) (Or.inr ⟨by rfl, rfl⟩) ?_ ?_
       rotate_left
       ·simp only [Act.put, sx]
        rfl
       refine pure_ (i := 10) (N := some 59) (v := undef) (a' := ?_) (ms 36 2047) rfl rfl (any_of HT_.out (by kernel_rfl)) (fun _ _ _ h => h) (Or.inr ⟨by rfl, rfl⟩) ?_ ?_
       rotate_left
       ·simp only [Act.put, sx]
        rfl
       refine pure_ (i := 11) (N := some 60) (v := undef) (a' := ?_) (ms 36 4095) rfl rfl (any_of HT_.out (by kernel_rfl)) (fun _ _ _ h => h) (Or.inr ⟨by rfl, rfl⟩) ?_ ?_
       rotate_left
       ·simp only [Act.put, sx]
        rfl
       refine pure_ (i := 12) (N := some 61) (v := undef) (a' := ?_) (ms 36 8191) rfl rfl (any_of HT_.out (by kernel_rfl)) (fun _ _ _ h => h) (Or.inr ⟨by rfl, rfl⟩) ?_ ?_
       rotate_left
       ·simp only [Act.put, sx]
        rfl
       refine pure_ (i := 13) (N := some 62) (v := undef) (a' := ?_) (ms 36 16383) rfl rfl (any_of HT_.out (by kernel_rfl)) (fun _ _ _ h => h) (Or.inr ⟨by rfl, rfl⟩) ?_ ?_
       rotate_left
       ·simp only [Act.put, sx]
        rfl
       refine pure_ (i := 14) (N := some 63) (v := undef) (a' := ?_) (ms 36 32767) rfl rfl (any_of HT_.out (by kernel_rfl)) (fun _ _ _ h => h) (Or.inr ⟨by rfl, rfl⟩) ?_ ?_
       rotate_left
       ·simp only [Act.put, sx]
        rfl
       refine run_ [(15, false, some 64), (16, false, some 65)] (n := 2) (ms 36 131071) rfl HT_.out HW_.out (by kernel_rfl) (fun _ _ _ _ h => h) hHeld ?_
       repeat (refine Run.p (v := ?_) (a' := ?_) rfl rfl (Or.inl ⟨by rfl, ?_⟩) ?_ ?_; rotate_left; (focus intro w'; go_simp; with_reducible rfl); rotate_left; (focus simp only [Act.put, sx]; rfl))
       refine Run.nil ?_
       refine pure_ (i := 17) (N := some 66) (v := undef) (a' := ?_) (ms 36 262143) rfl rfl (any_of HT_.out (by kernel_rfl)) (fun _ _ _ h => h) (Or.inr ⟨by rfl, rfl⟩) ?_ ?_
       rotate_left
       ·simp only [Act.put, sx]
        rfl
       refine pure_ (i := 18) (N := some 67) (v := undef) (a' := ?_) (ms 36 524287) rfl rfl (any_of HT_.out (by kernel_rfl)) (fun _ _ _ h => h) (Or.inr ⟨by rfl, rfl⟩) ?_ ?_
       rotate_left
       ·simp only [Act.put, sx]
        rfl
       refine pure_ (i := 19) (N := some 68) (v := undef) (a' := ?_) (ms 36 1048575) rfl rfl (any_of HT_.out (by kernel_rfl)) (fun _ _ _ h => h) (Or.inr ⟨by rfl, rfl⟩) ?_ ?_
       rotate_left
       ·simp only [Act.put, sx]
        rfl
       refine run_ [(20, false, some 69), (21, false, some 70)] (n := 2) (ms 36 4194303) rfl HT_.out HW_.out (by kernel_rfl) (fun _ _ _ _ h => h) hHeld ?_
       repeat (refine Run.p (v := ?_) (a' := ?_) rfl rfl (Or.inl ⟨by rfl, ?_⟩) ?_ ?_; rotate_left; (focus intro w'; go_simp; with_reducible rfl); rotate_left; (focus simp only [Act.put, sx]; rfl))
       refine Run.nil ?_
       refine pure_ (i := 22) (N := some 71) (v := undef) (a' := ?_) (ms 36 8388607) rfl rfl (any_of HT_.out (by kernel_rfl)) (fun _ _ _ h => h) (Or.inr ⟨by rfl, rfl⟩) ?_ ?_
       rotate_left
       ·simp only [Act.put, sx]
        rfl
       refine pure_ (i := 23) (N := some 72) (v := undef) (a' := ?_) (ms 36 16777215) rfl rfl (any_of HT_.out (by kernel_rfl)) (fun _ _ _ h => h) (Or.inr ⟨by rfl, rfl⟩) ?_ ?_
       rotate_left
       ·simp only [Act.put, sx]
        rfl
       refine pure_ (i := 24) (N := some 73) (v := undef) (a' := ?_) (ms 36 33554431) rfl rfl (any_of HT_.out (by kernel_rfl)) (fun _ _ _ h => h) (Or.inr ⟨by rfl, rfl⟩) ?_ ?_
       rotate_left
       ·simp only [Act.put, sx]
        rfl
       refine run_ [(25, false, some 74), (26, false, some 75)] (n := 2) (ms 36 134217727) rfl HT_.out HW_.out (by kernel_rfl) (fun _ _ _ _ h => h) hHeld ?_
       repeat (refine Run.p (v := ?_) (a' := ?_) rfl rfl (Or.inl ⟨by rfl, ?_⟩) ?_ ?_; rotate_left; (focus intro w'; go_simp; with_reducible rfl); rotate_left; (focus simp only [Act.put, sx]; rfl))
       refine Run.nil ?_
       refine pure_ (i := 27) (N := some 76) (v := undef) (a' := ?_) (ms 36 268435455) rfl rfl (any_of HT_.out (by kernel_rfl)) (fun _ _ _ h => h) (Or.inr ⟨by rfl, rfl⟩) ?_ ?_
       rotate_left
       ·simp only [Act.put, sx]
        rfl
       refine pure_ (i := 28) (N := some 77) (v := undef) (a' := ?_) (ms 36 536870911) rfl rfl (any_of HT_.out (by kernel_rfl)) (fun _ _ _ h => h) (Or.inr ⟨by rfl, rfl⟩) ?_ ?_
       rotate_left
       ·simp only [Act.put, sx]
        rfl
       refine pure_ (i := 29) (N := some 78) (v := undef) (a' := ?_) (ms 36 1073741823) rfl rfl (any_of HT_.out (by kernel_rfl)) (fun _ _ _ h => h) (Or.inr ⟨by rfl, rfl⟩) ?_ ?_
       rotate_left
       ·simp only [Act.put, sx]
        rfl
       refine pure_ (i := 30) (N := some 79) (v := undef) (a' := ?_) (ms 36 2147483647) rfl rfl (any_of HT_.out (by kernel_rfl)) (fun _ _ _ h => h) (Or.inr ⟨by rfl, rfl⟩) ?_ ?_
       rotate_left
       ·simp only [Act.put, sx]
        rfl
       refine pure_ (i := 31) (N := some 80) (v := undef) (a' := ?_) (ms 36 4294967295) rfl rfl (any_of HT_.out (by kernel_rfl)) (fun _ _ _ h => h) (Or.inr ⟨by rfl, rfl⟩) ?_ ?_
       rotate_left
       ·simp only [Act.put, sx]
        rfl
       refine pure_ (i := 32) (N := some 81) (v := undef) (a' := ?_) (ms 36 8589934591) rfl rfl (any_of HT_.out (by kernel_rfl)) (fun _ _ _ h => h) (Or.inr ⟨by rfl, rfl⟩) ?_ ?_
       rotate_left
       ·simp only [Act.put, sx]
        rfl
       refine pure_ (i := 33) (N := some 82) (v := undef) (a' := ?_) (ms 36 17179869183) rfl rfl (any_of HT_.out (by kernel_rfl)) (fun _ _ _ h => h) (Or.inr ⟨by rfl, rfl⟩) ?_ ?_
       rotate_left
       ·simp only [Act.put, sx]
        rfl
       refine run_ [(34, false, some 83), (35, false, some 2)] (n := 2) (ms 36 68719476735) rfl HT_.out HW_.out (by kernel_rfl) (fun _ _ _ _ h => h) hHeld ?_
       repeat (refine Run.p (v := ?_) (a' := ?_) rfl rfl (Or.inl ⟨by rfl, ?_⟩) ?_ ?_; rotate_left; (focus intro w'; go_simp; with_reducible rfl); rotate_left; (focus simp only [Act.put, sx]; rfl))
       refine Run.nil ?_
       refine done_ (done_of HT_.out (by kernel_rfl)) ?_
       try go_wp2
       go_ret
       exact ⟨by first | rfl | (simp [errW_none, errW_some] <;> rfl) | (simp [*, errW_none, errW_some] <;> rfl), bel⟩
     ·replace c24 := Bool.eq_false_iff.mpr c24
      subst c24
      have H1 : (some false) = some r := by rw [if_neg (show ¬ (false = true) by decide)] at H; exact H
      clear H
      have H := H1
      clear H1
      obtain rfl := Option.some.inj H
      have hcz49_0 : wc.cell? ⟨gb246, 0, none⟩ = some (.int .i64 a0_0) := (blk_cell BK246.out 0).trans rfl
      have hcz49_1 : wc.cell? ⟨gb246, 1, none⟩ = some (.int .i64 a0_1) := (blk_cell BK246.out 1).trans rfl
      have hcz49_2 : wc.cell? ⟨gb246, 2, none⟩ = some (.int .i64 a0_2) := (blk_cell BK246.out 2).trans rfl
      have hcz49_3 : wc.cell? ⟨gb246, 3, none⟩ = some (.int .i64 a0_3) := (blk_cell BK246.out 3).trans rfl
      have hcz49_4 : wc.cell? ⟨gb246, 4, none⟩ = some (.int .i64 a0_4) := (blk_cell BK246.out 4).trans rfl
      have hcz49_5 : wc.cell? ⟨gb246, 5, none⟩ = some (.int .i64 a0_5) := (blk_cell BK246.out 5).trans rfl
      have hcz49_6 : wc.cell? ⟨gb246, 6, none⟩ = some (.int .i64 a0_6) := (blk_cell BK246.out 6).trans rfl
      have hcz49_7 : wc.cell? ⟨gb246, 7, none⟩ = some (.bool false) := (blk_cell BK246.out 7).trans rfl
      have hcz49_8 : wc.cell? ⟨gb246, 8, none⟩ = some (.int .i64 a0_8) := (blk_cell BK246.out 8).trans rfl
      have hcz49_9 : wc.cell? ⟨gb246, 9, none⟩ = some (.slice A0_9 l0_9.length c0_9) := (blk_cell BK246.out 9).trans rfl
      have hfz49_0 := blk_frozen BK246.out 0
      have hfz49_1 := blk_frozen BK246.out 1
      have hfz49_2 := blk_frozen BK246.out 2
      have hfz49_3 := blk_frozen BK246.out 3
      have hfz49_4 := blk_frozen BK246.out 4
      have hfz49_5 := blk_frozen BK246.out 5
      have hfz49_6 := blk_frozen BK246.out 6
      have hfz49_7 := blk_frozen BK246.out 7
      have hfz49_8 := blk_frozen BK246.out 8
      have hfz49_9 := blk_frozen BK246.out 9
      try go_wp2
      replace BK246 := zA (blk_drew BK246.out)
      replace HB := zA (below_drew1 HB.out)
      refine start_ (n := 36) (S := fun w' => w'.cell? ⟨gb246, 0, none⟩ = some (.int .i64 a0_0) ∧ w'.cell? ⟨gb246, 1, none⟩ = some (.int .i64 a0_1) ∧ w'.cell? ⟨gb246, 2, none⟩ = some (.int .i64 a0_2) ∧ w'.cell? ⟨gb246, 3, none⟩ = some (.int .i64 a0_3) ∧ w'.cell? ⟨gb246, 4, none⟩ = some (.int .i64 a0_4) ∧ w'.cell? ⟨gb246, 5, none⟩ = some (.int .i64 a0_5) ∧ w'.cell? ⟨gb246, 6, none⟩ = some (.int .i64 a0_6) ∧ w'.cell? ⟨gb246, 7, none⟩ = some (.bool false) ∧ w'.cell? ⟨gb246, 8, none⟩ = some (.int .i64 a0_8) ∧ w'.cell? ⟨gb246, 9, none⟩ = some (.slice A0_9 l0_9.length c0_9)) (ds := []) (ms 36 0) (by kernel_rfl) rfl rfl ⟨(blk_cell BK246.out 0).trans rfl, (blk_cell BK246.out 1).trans rfl, (blk_cell BK246.out 2).trans rfl, (blk_cell BK246.out 3).trans rfl, (blk_cell BK246.out 4).trans rfl, (blk_cell BK246.out 5).trans rfl, (blk_cell BK246.out 6).trans rfl, (blk_cell BK246.out 7).trans rfl, (blk_cell BK246.out 8).trans rfl, (blk_cell BK246.out 9).trans rfl⟩ (fun hHeld => ?_); refine with_tabW fountainref14_RightRecord.tab5 fountainref14_RightRecord.bits5 (fun HT_ HW_ => ?_)
      generalize wc.drew = w50 at BK246 HB hHeld ⊢
      refine run_ [(0, false, some 49), (1, true, some 50)] (n := 2) (ms 36 3) rfl HT_.out HW_.out (by kernel_rfl) (fun _ _ _ _ h => h) hHeld ?_
      repeat (first | (refine Run.p (v := ?_) (a' := ?_) rfl rfl (Or.inl ⟨by rfl, ?_⟩) ?_ ?_; rotate_left; (focus intro w'; go_simp; with_reducible rfl); rotate_left; (focus simp only [Act.put, sx]; rfl)) | (refine Run.t (v := ?_) (a' := ?_) rfl rfl (Or.inl ⟨by rfl, ?_⟩) ?_ ?_; rotate_left; (focus rintro w' ⟨s0, s1, s2, s3, s4, s5, s6, s7, s8, s9⟩; go_simp; with_reducible rfl); rotate_left; (focus simp only [Act.put, sx]; rfl)))
      refine Run.nil ?_
      refine one_ (i := 2) (N := some 51) (ms 36 7) rfl rfl (one_of HT_.out (by kernel_rfl)) (by decide) (fun K hK => ?_)
      refine goes_ Try.func27 (by kernel_rfl) rfl #[.agg #[.int .i64 a0_2, .int .i64 a0_3, .int .i64 a0_4]] (by rfl) rfl rfl (by (try simp only [List.map_toArray, List.map_cons, List.map_nil]); first | done | rfl | (simp only [List.length_drop, List.length_take]; rfl)) ?_
      with_reducible refine (fountainref1_RightShape.calls a0_2 a0_3 a0_4 false _ A23.out).mono ?_
      rintro e w51 ⟨rfl, hb⟩
      refine ⟨_, rfl, ?_⟩
      replace BK246 := zA (blk_below (g := gb246) (o := .cells #[.int .i64 a0_0, .int .i64 a0_1, .int .i64 a0_2, .int .i64 a0_3, .int .i64 a0_4, .int .i64 a0_5, .int .i64 a0_6, .bool false, .int .i64 a0_8, .slice A0_9 l0_9.length c0_9] 28 (0, 0)) (blk_g BK246.out) hb)
      replace HB := zA (belt hb)
      (try clear hb)
      (try clear hb2)
      (try clear hk)
      (try clear hi)
      refine hK.out _ _ ⟨(blk_cell BK246.out 0).trans rfl, (blk_cell BK246.out 1).trans rfl, (blk_cell BK246.out 2).trans rfl, (blk_cell BK246.out 3).trans rfl, (blk_cell BK246.out 4).trans rfl, (blk_cell BK246.out 5).trans rfl, (blk_cell BK246.out 6).trans rfl, (blk_cell BK246.out 7).trans rfl, (blk_cell BK246.out 8).trans rfl, (blk_cell BK246.out 9).trans rfl⟩ (fun hHeld => ?_)
      clear hK K
      refine norm_ (a' := ?_) ?_ ?_
      rotate_left
      ·show Act.put _ (some 51) _ = _
       simp only [Act.put, sx]
       rfl
      refine pure_ (i := 3) (N := some 52) (v := ?_) (a' := ?_) (ms 36 15) rfl rfl (any_of HT_.out (by kernel_rfl)) (fun _ _ _ h => h) (Or.inl ⟨by rfl, ?_⟩) ?_ ?_
      rotate_left
      ·intro w'
       go_simp
       with_reducible rfl
      rotate_left
      ·simp only [Act.put, sx]
       rfl
      refine pure_ (i := 4) (N := some 53) (v := undef) (a' := ?_) (ms 36 31) rfl rfl (any_of HT_.out (by kernel_rfl)) (fun _ _ _ h => h) (Or.inr ⟨by rfl, rfl⟩) ?_ ?_
      rotate_left
      ·simp only [Act.put, sx]
       rfl
      refine pure_ (i := 5) (N := some 54) (v := undef) (a' := ?_) (ms 36 63) rfl rfl (any_of HT_.out (by kernel_rfl)) (fun _ _ _ h => h) (Or.inr ⟨by rfl, rfl⟩) ?_ ?_
      rotate_left
      ·simp only [Act.put, sx]
       rfl
      refine pure_ (i := 6) (N := some 55) (v := undef) (a' := ?_) (ms 36 127) rfl rfl (any_of HT_.out (by kernel_rfl)) (fun _ _ _ h => h) (Or.inr ⟨by rfl, rfl⟩) ?_ ?_
      rotate_left
      ·simp only [Act.put, sx]
       rfl
      refine run_ [(7, false, some 56), (8, false, some 57)] (n := 2) (ms 36 511) rfl HT_.out HW_.out (by kernel_rfl) (fun _ _ _ _ h => h) hHeld ?_
      repeat (refine Run.p (v := ?_) (a' := ?_) rfl rfl (Or.inl ⟨by rfl, ?_⟩) ?_ ?_; rotate_left; (focus intro w'; go_simp; with_reducible rfl); rotate_left; (focus simp only [Act.put, sx]; rfl))
      refine Run.nil ?_
      refine pure_ (i := 9) (N := some 58) (v := undef) (a' := ?_) (ms 36 1023) rfl rfl (any_of HT_.out (by kernel_rfl)) (fun _ _ _ h => h) (Or.inr ⟨by rfl, rfl⟩) ?_ ?_
      rotate_left
      ·simp only [Act.put, sx]
       rfl
      refine pure_ (i := 10) (N := some 59) (v := undef) (a' := ?_) (ms 36 2047) rfl rfl (any_of HT_.out (by kernel_rfl)) (fun _ _ _ h => h) (Or.inr ⟨by rfl, rfl⟩) ?_ ?_
      rotate_left
      ·simp only [Act.put, sx]
       rfl
      refine pure_ (i := 11) (N := some 60) (v := undef) (a' := ?_) (ms 36 4095) rfl rfl (any_of HT_.out (by kernel_rfl)) (fun _ _ _ h => h) (Or.inr ⟨by rfl, rfl⟩) ?_ ?_
      rotate_left
      ·simp only [Act.put, sx]
       rfl
      refine pure_ (i := 12) (N := some 61) (v := undef) (a' := ?_) (ms 36 8191) rfl rfl (any_of HT_.out (by kernel_rfl)) (fun _ _ _ h => h) (Or.inr ⟨by rfl, rfl⟩) ?_ ?_
      rotate_left
      ·simp only [Act.put, sx]
       rfl
      refine pure_ (i := 13) (N := some 62) (v := undef) (a' := ?_) (ms 36 16383) rfl rfl (any_of HT_.out (by kernel_rfl)) (fun _ _ _ h => h) (Or.inr ⟨by rfl, rfl⟩) ?_ ?_
      rotate_left
      ·simp only [Act.put, sx]
       rfl
      refine pure_ (i := 14) (N := some 63) (v := undef) (a' := ?_) (ms 36 32767) rfl rfl (any_of HT_.out (by kernel_rfl)) (fun _ _ _ h => h) (Or.inr ⟨by rfl, rfl⟩) ?_ ?_
      rotate_left
      ·simp only [Act.put, sx]
       rfl
      refine run_ [(15, false, some 64), (16, false, some 65)] (n := 2) (ms 36 131071) rfl HT_.out HW_.out (by kernel_rfl) (fun _ _ _ _ h => h) hHeld ?_
      repeat (refine Run.p (v := ?_) (a' := ?_) rfl rfl (Or.inl ⟨by rfl, ?_⟩) ?_ ?_; rotate_left; (focus intro w'; go_simp; with_reducible rfl); rotate_left; (focus simp only [Act.put, sx]; rfl))
      refine Run.nil ?_
      refine pure_ (i := 17) (N := some 66) (v := undef) (a' := ?_) (ms 36 262143) rfl rfl (any_of HT_.out (by kernel_rfl)) (fun _ _ _ h => h) (Or.inr ⟨by rfl, rfl⟩) ?_ ?_
      rotate_left
      ·simp only [Act.put, sx]
       rfl
      refine pure_ (i := 18) (N := some 67) (v := undef) (a' := ?_) (ms 36 524287) rfl rfl (any_of HT_.out (by kernel_rfl)) (fun _ _ _ h => h) (Or.inr ⟨by rfl, rfl⟩) ?_ ?_
      rotate_left
      ·simp only [Act.put, sx]
       rfl
      refine pure_ (i := 19) (N := some 68) (v := undef) (a' := ?_) (ms 36 1048575) rfl rfl (any_of HT_.out (by kernel_rfl)) (fun _ _ _ h => h) (Or.inr ⟨by rfl, rfl⟩) ?_ ?_
      rotate_left
      ·simp only [Act.put, sx]
       rfl
      refine run_ [(20, false, some 69), (21, false, some 70)] (n := 2) (ms 36 4194303) rfl HT_.out HW_.out (by kernel_rfl) (fun _ _ _ _ h => h) hHeld ?_
      repeat (refine Run.p (v := ?_) (a' := ?_) rfl rfl (Or.inl ⟨by rfl, ?_⟩) ?_ ?_; rotate_left; (focus intro w'; go_simp; with_reducible rfl); rotate_left; (focus simp only [Act.put, sx]; rfl))
      refine Run.nil ?_
      refine pure_ (i := 22) (N := some 71) (v := undef) (a' := ?_) (ms 36 8388607) rfl rfl (any_of HT_.out (by kernel_rfl)) (fun _ _ _ h => h) (Or.inr ⟨by rfl, rfl⟩) ?_ ?_
      rotate_left
      ·simp only [Act.put, sx]
       rfl
      refine pure_ (i := 23) (N := some 72) (v := undef) (a' := ?_) (ms 36 16777215) rfl rfl (any_of HT_.out (by kernel_rfl)) (fun _ _ _ h => h) (Or.inr ⟨by rfl, rfl⟩) ?_ ?_
      rotate_left
      ·simp only [Act.put, sx]
       rfl
      refine pure_ (i := 24) (N := some 73) (v := undef) (a' := ?_) (ms 36 33554431) rfl rfl (any_of HT_.out (by kernel_rfl)) (fun _ _ _ h => h) (Or.inr ⟨by rfl, rfl⟩) ?_ ?_
      rotate_left
      ·simp only [Act.put, sx]
       rfl
      refine run_ [(25, false, some 74), (26, false, some 75)] (n := 2) (ms 36 134217727) rfl HT_.out HW_.out (by kernel_rfl) (fun _ _ _ _ h => h) hHeld ?_
      repeat (refine Run.p (v := ?_) (a' := ?_) rfl rfl (Or.inl ⟨by rfl, ?_⟩) ?_ ?_; rotate_left; (focus intro w'; go_simp; with_reducible rfl); rotate_left; (focus simp only [Act.put, sx]; rfl))
      refine Run.nil ?_
      refine pure_ (i := 27) (N := some 76) (v := undef) (a' := ?_) (ms 36 268435455) rfl rfl (any_of HT_.out (by kernel_rfl)) (fun _ _ _ h => h) (Or.inr ⟨by rfl, rfl⟩) ?_ ?_
      rotate_left
      ·simp only [Act.put, sx]
       rfl
      refine pure_ (i := 28) (N := some 77) (v := undef) (a' := ?_) (ms 36 536870911) rfl rfl (any_of HT_.out (by kernel_rfl)) (fun _ _ _ h => h) (Or.inr ⟨by rfl, rfl⟩) ?_ ?_
      rotate_left
      ·simp only [Act.put, sx]
       rfl
      refine pure_ (i := 29) (N := some 78) (v := undef) (a' := ?_) (ms 36 1073741823) rfl rfl (any_of HT_.out (by kernel_rfl)) (fun _ _ _ h => h) (Or.inr ⟨by rfl, rfl⟩) ?_ ?_
      rotate_left
      ·simp only [Act.put, sx]
       rfl
      refine pure_ (i := 30) (N := some 79) (v := undef) (a' := ?_) (ms 36 2147483647) rfl rfl (any_of HT_.out (by kernel_rfl)) (fun _ _ _ h => h) (Or.inr ⟨by rfl, rfl⟩) ?_ ?_
      rotate_left
      ·simp only [Act.put, sx]
       rfl
      refine pure_ (i := 31) (N := some 80) (v := undef) (a' := ?_) (ms 36 4294967295) rfl rfl (any_of HT_.out (by kernel_rfl)) (fun _ _ _ h => h) (Or.inr ⟨by rfl, rfl⟩) ?_ ?_
      rotate_left
      ·simp only [Act.put, sx]
       rfl
      refine pure_ (i := 32) (N := some 81) (v := undef) (a' := ?_) (ms 36 8589934591) rfl rfl (any_of HT_.out (by kernel_rfl)) (fun _ _ _ h => h) (Or.inr ⟨by rfl, rfl⟩) ?_ ?_
      rotate_left
      ·simp only [Act.put, sx]
       rfl
      refine pure_ (i := 33) (N := some 82) (v := undef) (a' := ?_) (ms 36 17179869183) rfl rfl (any_of HT_.out (by kernel_rfl)) (fun _ _ _ h => h) (Or.inr ⟨by rfl, rfl⟩) ?_ ?_
      rotate_left
      ·simp only [Act.put, sx]
       rfl
      refine run_ [(34, false, some 83), (35, false, some 2)] (n := 2) (ms 36 68719476735) rfl HT_.out HW_.out (by kernel_rfl) (fun _ _ _ _ h => h) hHeld ?_
      repeat (refine Run.p (v := ?_) (a' := ?_) rfl rfl (Or.inl ⟨by rfl, ?_⟩) ?_ ?_; rotate_left; (focus intro w'; go_simp; with_reducible rfl); rotate_left; (focus simp only [Act.put, sx]; rfl))
      refine Run.nil ?_
      refine done_ (done_of HT_.out (by kernel_rfl)) ?_
      try go_wp2
      go_ret
      exact ⟨by first | rfl | (simp [errW_none, errW_some] <;> rfl) | (simp [*, errW_none, errW_some] <;> rfl), bel⟩
end Go.Proofs.Ytjcfmfdkligmoaa.PRecordTells
