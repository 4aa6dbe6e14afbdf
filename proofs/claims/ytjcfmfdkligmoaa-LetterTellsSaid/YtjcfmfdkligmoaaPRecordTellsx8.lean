/- Written by a program (this session's own): functions that the law reaches, as plain Lean functions, each with the proof that the code comes to it. No conditions but those that stand in the theorems. -/
import Derived.Test.YtjcfmfdkligmoaaPq
import Derived.Test.YtjcfmfdkligmoaaPs
import Derived.Test.YtjcfmfdkligmoaaCl
import Derived.Test.YtjcfmfdkligmoaaPRecordTellsx0
import Derived.Test.YtjcfmfdkligmoaaPRecordTellsx4
import Derived.Test.YtjcfmfdkligmoaaPRecordTellsx6
import Derived.Test.YtjcfmfdkligmoaaPRecordTellsx7
set_option maxHeartbeats 8000000
set_option maxRecDepth 100000
namespace Go.Proofs.Ytjcfmfdkligmoaa.PRecordTells
open Go.RowKit Go.Proofs.YtjcfmfdkligmoaaW.PrintWords Go.Proofs.YtjcfmfdkligmoaaW.PrintLast Go.Proofs.YtjcfmfdkligmoaaW.PrintMore
attribute [local go_sem] max2_int min2_int max_two min_two max_three min_three max_four min_four
set_option linter.unusedVariables false
set_option linter.unusedSimpArgs false
mutual
def record_Read.j0 : Nat → List Int → List Int → Bool → Int → Int → Int → Int → Int → Int → Int → Bool → Int → Option (Int × Int × Int × Int × Int × Int × Int × Bool × Int × List Int × Int)
 | 0, _, _, _, _, _, _, _, _, _, _, _, _ => none
 | k + 1, x0, x5, x34, x186000, x186001, x186002, x186003, x186004, x186005, x186006, x186007, x186008 => if x34 = true then (if 2 ≤ (x5.length : Int) then ((record_Whole.f k (x5.take 2)).bind fun t188 => (if 2 ≤ 4 then (if 4 ≤ (x5.length : Int) then ((record_Whole.f k ((x5.take 4).drop 2)).bind fun t190 => (if 4 ≤ 6 then (if 6 ≤ (x5.length : Int) then ((record_Whole.f k ((x5.take 6).drop 4)).bind fun t192 => (if 6 ≤ 8 then (if 8 ≤ (x5.length : Int) then ((record_Whole.f k ((x5.take 8).drop 6)).bind fun t194 => (if 8 ≤ 11 then (if 11 ≤ (x5.length : Int) then ((record_Whole.f k ((x5.take 11).drop 8)).bind fun t196 => ((Cl.clone.f (x5.drop 11)).bind fun t198 => (record_Read.j1 k x0 x186000 x186001 t188 t190 t192 t194 t196 x186007 x186008 t198))) else (none)) else (none))) else (none)) else (none))) else (none)) else (none))) else (none)) else (none))) else (none)) else (record_Read.j1 k x0 x186000 x186001 x186002 x186003 x186004 x186005 x186006 x186007 x186008 ([] : List Int))
def record_Read.j1 : Nat → List Int → Int → Int → Int → Int → Int → Int → Int → Bool → Int → List Int → Option (Int × Int × Int × Int × Int × Int × Int × Bool × Int × List Int × Int)
 | 0, _, _, _, _, _, _, _, _, _, _, _ => none
 | k + 1, x0, x186000, x186001, x186002, x186003, x186004, x186005, x186006, x186007, x186008, x186009 => (record_Right.f k x186000 x186001 x186002 x186003 x186004 x186005 x186006 x186007 x186008 x186009).bind fun t201 => (if t201 = true then ((record_Bytes.f k x186000 x186001 x186002 x186003 x186004 x186005 x186006 x186007 x186008 x186009).bind fun t202 => ((eq_bb.f k t202 x0).bind fun t205 => (if t205 = true then (some (x186000, x186001, x186002, x186003, x186004, x186005, x186006, x186007, x186008, x186009, 0)) else (some (0, 0, 0, 0, 0, 0, 0, false, 0, ([] : List Int), 2))))) else (some (0, 0, 0, 0, 0, 0, 0, false, 0, ([] : List Int), 2)))
end
def record_Read.f (k : Nat) (l0 : List Int) : Option (Int × Int × Int × Int × Int × Int × Int × Bool × Int × List Int × Int) := if (l0.length : Int) < 13 then (some (0, 0, 0, 0, 0, 0, 0, false, 0, ([] : List Int), 2)) else (if 0 < (l0.length : Int) then (if 1 ≤ 5 then (if 5 ≤ (l0.length : Int) then ((record_Whole.f k ((l0.take 5).drop 1)).bind fun t180 => (if 5 ≤ 9 then (if 9 ≤ (l0.length : Int) then ((record_Whole.f k ((l0.take 9).drop 5)).bind fun t182 => (if 9 ≤ 13 then (if 13 ≤ (l0.length : Int) then ((record_Whole.f k ((l0.take 13).drop 9)).bind fun t184 => (if ((rd l0 0) = 1) then (record_Read.j0 k l0 (l0.drop 13) false t180 t182 0 0 0 0 0 ((rd l0 0) == 1) t184) else (record_Read.j0 k l0 (l0.drop 13) (decide (((l0.drop 13).length : Int) ≥ 11)) t180 t182 0 0 0 0 0 ((rd l0 0) == 1) t184))) else (none)) else (none))) else (none)) else (none))) else (none)) else (none)) else (none))
def record_Read.T3 : Bool × List (List Nat × List Nat) := (true, [([], []), ([0], [0]), ([1], [1]), ([2], [2]), ([], []), ([4], [4]), ([5], [5]), ([], []), ([7], [7]), ([8, 6], [8]), ([6, 9], [6, 9]), ([], []), ([11], [11]), ([12, 9], [12]), ([3, 10, 13], [3, 10, 13]), ([], []), ([15, 14, 13, 0, 1, 2, 3, 4, 5, 6, 7, 8, 9, 10, 11, 12, 13, 14, 15], [14, 15])])
def record_Read.B3 : List Nat := [0, 1, 3, 7, 0, 16, 48, 0, 128, 496, 1008, 0, 2048, 7152, 16383, 0, 65535]
theorem record_Read.tab3 : rtab .any (opsOf Try.f12 3) = record_Read.T3 := by kernel_rfl
theorem record_Read.bits3 : waitsOk record_Read.T3.2 record_Read.B3 = true := by kernel_rfl
def record_Read.T6 : Bool × List (List Nat × List Nat) := (true, [([], []), ([0], [0]), ([1], [1]), ([], []), ([3], [3]), ([4, 2], [4]), ([], []), ([6], [6]), ([7, 5], [7]), ([2, 5, 8], [2, 5, 8]), ([0, 1, 2, 3, 4, 5, 6, 7, 8, 9], []), ([10, 9, 8, 0, 1, 2, 3, 4, 5, 6, 7, 8, 9], [9, 10])])
def record_Read.B6 : List Nat := [0, 1, 3, 0, 8, 31, 0, 64, 255, 511, 1023, 2047]
theorem record_Read.tab6 : rtab .any (opsOf Try.f12 6) = record_Read.T6 := by kernel_rfl
theorem record_Read.bits6 : waitsOk record_Read.T6.2 record_Read.B6 = true := by kernel_rfl
def record_Read.T7 : Bool × List (List Nat × List Nat) := (true, [([], []), ([0], [0]), ([1], [1]), ([], []), ([3], [3]), ([4, 2], [4]), ([], []), ([6], [6]), ([7, 5], [7]), ([0, 1, 2], []), ([9, 2, 8, 0, 1, 2], [2, 9]), ([0, 1, 2, 3, 4, 5, 9, 10], []), ([11, 5, 10, 0, 1, 2, 3, 4, 5, 9, 10], [5, 11]), ([0, 1, 2, 3, 4, 5, 6, 7, 8, 9, 10, 11, 12], []), ([13, 8, 12, 0, 1, 2, 3, 4, 5, 6, 7, 8, 9, 10, 11, 12], [8, 13])])
def record_Read.B7 : List Nat := [0, 1, 3, 0, 8, 31, 0, 64, 255, 7, 1023, 2047, 4095, 8191, 16383]
theorem record_Read.tab7 : rtab .any (opsOf Try.f12 7) = record_Read.T7 := by kernel_rfl
theorem record_Read.bits7 : waitsOk record_Read.T7.2 record_Read.B7 = true := by kernel_rfl
theorem record_Read.calls (k : Nat) (A0 : Option Addr) (c0 : Nat) (l0 : List Int) (r1 : Int) (r2 : Int) (r3 : Int) (r4 : Int) (r5 : Int) (r6 : Int) (r7 : Int) (r8 : Bool) (r9 : Int) (r10 : List Int) (r11 : Int) (w : World) (hr0 : Kd.C (Kd.int .u8) w A0 l0.length l0) (hc0 : l0.length ≤ c0) (h : record_Read.f k l0 = some (r1, r2, r3, r4, r5, r6, r7, r8, r9, r10, r11)) :
 Calls Try.prog 12 #[.slice A0 l0.length c0] w fun e w' => ∃ v9_ : Value, e = .returned (.tuple #[.agg #[.int .i64 r1, .int .i64 r2, .int .i64 r3, .int .i64 r4, .int .i64 r5, .int .i64 r6, .int .i64 r7, .bool r8, .int .i64 r9, v9_], .int .i64 r11]) ∧ Kd.R (Kd.int .u8) 5 w' w.heap.size (fun _ => True) v9_ r10 ∧ Below w.heap.size w w' := by
 have hu28 := Try.underlying28
 have hu23 := Try.underlying23
 have hu25 := Try.underlying25
 have HR0 := zA hr0
 have HC0 := zA hc0
 clear hr0 hc0
 have HB := zA (Below.refl w.heap.size w)
 have H : (if (l0.length : Int) < 13 then (some (0, 0, 0, 0, 0, 0, 0, false, 0, ([] : List Int), 2)) else (if 0 < (l0.length : Int) then (if 1 ≤ 5 then (if 5 ≤ (l0.length : Int) then ((record_Whole.f k ((l0.take 5).drop 1)).bind fun t180 => (if 5 ≤ 9 then (if 9 ≤ (l0.length : Int) then ((record_Whole.f k ((l0.take 9).drop 5)).bind fun t182 => (if 9 ≤ 13 then (if 13 ≤ (l0.length : Int) then ((record_Whole.f k ((l0.take 13).drop 9)).bind fun t184 => (if ((rd l0 0) = 1) then (record_Read.j0 k l0 (l0.drop 13) false t180 t182 0 0 0 0 0 ((rd l0 0) == 1) t184) else (record_Read.j0 k l0 (l0.drop 13) (decide (((l0.drop 13).length : Int) ≥ 11)) t180 t182 0 0 0 0 0 ((rd l0 0) == 1) t184))) else (none)) else (none))) else (none)) else (none))) else (none)) else (none)) else (none))) = some (r1, r2, r3, r4, r5, r6, r7, r8, r9, r10, r11) := h
 clear h
 by_cases c2 : (l0.length : Int) < 13
 ·rw [if_pos c2] at H
  have c2b0 : decide ((l0.length : Int) < 13) = true := decide_eq_true c2
  have c2b1 : decide (l0.length < 13) = true := decide_eq_true (by omega)
  clear c2
  simp only [Option.some.injEq, Prod.mk.injEq] at H
  obtain ⟨rfl, rfl, rfl, rfl, rfl, rfl, rfl, rfl, rfl, rfl, rfl⟩ := H
  go_enter Try.func12, Try.ntmps12
  go_wp2_with (first | ((with_reducible refine gate_dst (N := 2) rfl ?_); (try (refine gate_guard (by rfl) ?_; dsimp only)); refine box_event ?hg (N := 2) ?hd (cs := #[.int .i64 0, .int .i64 0, .int .i64 0, .int .i64 0, .int .i64 0, .int .i64 0, .int .i64 0, .bool false, .int .i64 0, .slice none 0 0]) (t := 28) ?hr ?_; (case hd => rfl); (case hg => rfl); (case hr => first | (go_simp; done) | (go_simp; rfl)); intro gb177 hg w3 hbox hb; have BK177 := zA (hbox); have GW177 := zA ((by rw [hg]; exact bels : w.heap.size ≤ gb177)); have GE177 := zA ((by rw [hg]; exact bels : w.heap.size ≤ gb177)); replace HB := zA (belt hb); clear hb hbox hg; obtain ⟨hcz4_0, hcz4_1, hcz4_2, hcz4_3, hcz4_4, hcz4_5, hcz4_6, hcz4_7, hcz4_8, hcz4_9⟩ := bx10 BK177.out; obtain ⟨hfz4_0, hfz4_1, hfz4_2, hfz4_3, hfz4_4, hfz4_5, hfz4_6, hfz4_7, hfz4_8, hfz4_9⟩ := fz10 BK177.out))
  refine bodyPost_ret (results_ct rfl _ _ gb177 28 #[.int .i64 0, .int .i64 0, .int .i64 0, .int .i64 0, .int .i64 0, .int .i64 0, .int .i64 0, .bool false, .int .i64 0, .slice none 0 0] (0, 0) _ rfl (by (with_reducible repeat (first | refine blk_drewN ?_ _ | refine blk_drew ?_ | refine blk_alloc ?_ _)); refine blk_put (cs := #[.int .i64 0, .int .i64 0, .int .i64 0, .int .i64 0, .int .i64 0, .int .i64 0, .int .i64 0, .bool false, .int .i64 0, .slice none 0 0]) ?_ 9 _ rfl; (with_reducible repeat (first | refine blk_drewN ?_ _ | refine blk_drew ?_ | refine blk_alloc ?_ _)); refine blk_put (cs := #[.int .i64 0, .int .i64 0, .int .i64 0, .int .i64 0, .int .i64 0, .int .i64 0, .int .i64 0, .bool false, .int .i64 0, .slice none 0 0]) ?_ 8 _ rfl; (with_reducible repeat (first | refine blk_drewN ?_ _ | refine blk_drew ?_ | refine blk_alloc ?_ _)); refine blk_put (cs := #[.int .i64 0, .int .i64 0, .int .i64 0, .int .i64 0, .int .i64 0, .int .i64 0, .int .i64 0, .bool false, .int .i64 0, .slice none 0 0]) ?_ 7 _ (by first | rfl | (simp only [*]; rfl) | (simp [*]; done)); (with_reducible repeat (first | refine blk_drewN ?_ _ | refine blk_drew ?_ | refine blk_alloc ?_ _)); refine blk_put (cs := #[.int .i64 0, .int .i64 0, .int .i64 0, .int .i64 0, .int .i64 0, .int .i64 0, .int .i64 0, .bool false, .int .i64 0, .slice none 0 0]) ?_ 6 _ rfl; (with_reducible repeat (first | refine blk_drewN ?_ _ | refine blk_drew ?_ | refine blk_alloc ?_ _)); refine blk_put (cs := #[.int .i64 0, .int .i64 0, .int .i64 0, .int .i64 0, .int .i64 0, .int .i64 0, .int .i64 0, .bool false, .int .i64 0, .slice none 0 0]) ?_ 5 _ rfl; (with_reducible repeat (first | refine blk_drewN ?_ _ | refine blk_drew ?_ | refine blk_alloc ?_ _)); refine blk_put (cs := #[.int .i64 0, .int .i64 0, .int .i64 0, .int .i64 0, .int .i64 0, .int .i64 0, .int .i64 0, .bool false, .int .i64 0, .slice none 0 0]) ?_ 4 _ rfl; (with_reducible repeat (first | refine blk_drewN ?_ _ | refine blk_drew ?_ | refine blk_alloc ?_ _)); refine blk_put (cs := #[.int .i64 0, .int .i64 0, .int .i64 0, .int .i64 0, .int .i64 0, .int .i64 0, .int .i64 0, .bool false, .int .i64 0, .slice none 0 0]) ?_ 3 _ rfl; (with_reducible repeat (first | refine blk_drewN ?_ _ | refine blk_drew ?_ | refine blk_alloc ?_ _)); refine blk_put (cs := #[.int .i64 0, .int .i64 0, .int .i64 0, .int .i64 0, .int .i64 0, .int .i64 0, .int .i64 0, .bool false, .int .i64 0, .slice none 0 0]) ?_ 2 _ rfl; (with_reducible repeat (first | refine blk_drewN ?_ _ | refine blk_drew ?_ | refine blk_alloc ?_ _)); refine blk_put (cs := #[.int .i64 0, .int .i64 0, .int .i64 0, .int .i64 0, .int .i64 0, .int .i64 0, .int .i64 0, .bool false, .int .i64 0, .slice none 0 0]) ?_ 1 _ rfl; (with_reducible repeat (first | refine blk_drewN ?_ _ | refine blk_drew ?_ | refine blk_alloc ?_ _)); refine blk_put (cs := #[.int .i64 0, .int .i64 0, .int .i64 0, .int .i64 0, .int .i64 0, .int .i64 0, .int .i64 0, .bool false, .int .i64 0, .slice none 0 0]) ?_ 0 _ rfl; (with_reducible repeat (first | refine blk_drewN ?_ _ | refine blk_drew ?_ | refine blk_alloc ?_ _)); exact BK177.out) Try.underlying28 rfl (by kernel_rfl)) rfl ?_
  exact ⟨_, by first | rfl | (simp [errW_none, errW_some] <;> rfl) | (simp [*, errW_none, errW_some] <;> rfl), by first | exact Kd.R_nil _ _ _ _ _ | exact Kd.N_nil _ _ _ _ _ | exact Kd.V_nil _ _ _ _ _ | exact Kd.Q_nil _ _ _ _ _ | exact Kd.S_nil _ _ _ _ _, bel⟩
 ·rw [if_neg c2] at H
  have c2b0 : decide ((l0.length : Int) < 13) = false := decide_eq_false c2
  have c2b1 : decide (l0.length < 13) = false := decide_eq_false (by omega)
  clear c2
  by_cases c5 : 0 < (l0.length : Int)
  ·rw [if_pos c5] at H
   have c5b0 : decide (0 < (l0.length : Int)) = true := decide_eq_true c5
   have c5b1 : decide (0 < l0.length) = true := decide_eq_true (by omega)
   clear c5
   by_cases c6 : 1 ≤ 5
   ·rw [if_pos c6] at H
    have c6b0 := eq_true c6
    have c6b1 : decide (1 ≤ 5) = true := decide_eq_true c6
    clear c6
    by_cases c7 : 5 ≤ (l0.length : Int)
    ·rw [if_pos c7] at H
     have c7b0 := eq_true c7
     have c7b1 : decide (5 ≤ (l0.length : Int)) = true := decide_eq_true c7
     clear c7
     replace H := Option.bind_eq_some_iff.mp H
     obtain ⟨t180, A80, H⟩ := H
     replace H : (if 5 ≤ 9 then (if 9 ≤ (l0.length : Int) then ((record_Whole.f k ((l0.take 9).drop 5)).bind fun t182 => (if 9 ≤ 13 then (if 13 ≤ (l0.length : Int) then ((record_Whole.f k ((l0.take 13).drop 9)).bind fun t184 => (if ((rd l0 0) = 1) then (record_Read.j0 k l0 (l0.drop 13) false t180 t182 0 0 0 0 0 ((rd l0 0) == 1) t184) else (record_Read.j0 k l0 (l0.drop 13) (decide (((l0.drop 13).length : Int) ≥ 11)) t180 t182 0 0 0 0 0 ((rd l0 0) == 1) t184))) else (none)) else (none))) else (none)) else (none)) = some (r1, r2, r3, r4, r5, r6, r7, r8, r9, r10, r11) := H
     have A8 := zA A80
     clear A80
     by_cases c9 : 5 ≤ 9
     ·rw [if_pos c9] at H
      have c9b0 := eq_true c9
      have c9b1 : decide (5 ≤ 9) = true := decide_eq_true c9
      clear c9
      by_cases c10 : 9 ≤ (l0.length : Int)
      ·rw [if_pos c10] at H
       have c10b0 := eq_true c10
       have c10b1 : decide (9 ≤ (l0.length : Int)) = true := decide_eq_true c10
       clear c10
       replace H := Option.bind_eq_some_iff.mp H
       obtain ⟨t182, A110, H⟩ := H
       replace H : (if 9 ≤ 13 then (if 13 ≤ (l0.length : Int) then ((record_Whole.f k ((l0.take 13).drop 9)).bind fun t184 => (if ((rd l0 0) = 1) then (record_Read.j0 k l0 (l0.drop 13) false t180 t182 0 0 0 0 0 ((rd l0 0) == 1) t184) else (record_Read.j0 k l0 (l0.drop 13) (decide (((l0.drop 13).length : Int) ≥ 11)) t180 t182 0 0 0 0 0 ((rd l0 0) == 1) t184))) else (none)) else (none)) = some (r1, r2, r3, r4, r5, r6, r7, r8, r9, r10, r11) := H
       have A11 := zA A110
       clear A110
       by_cases c12 : 9 ≤ 13
       ·rw [if_pos c12] at H
        have c12b0 := eq_true c12
        have c12b1 : decide (9 ≤ 13) = true := decide_eq_true c12
        clear c12
        by_cases c13 : 13 ≤ (l0.length : Int)
        ·rw [if_pos c13] at H
         have c13b0 := eq_true c13
         have c13b1 : decide (13 ≤ (l0.length : Int)) = true := decide_eq_true c13
         clear c13
         replace H := Option.bind_eq_some_iff.mp H
         obtain ⟨t184, A140, H⟩ := H
         replace H : (if ((rd l0 0) = 1) then (record_Read.j0 k l0 (l0.drop 13) false t180 t182 0 0 0 0 0 ((rd l0 0) == 1) t184) else (record_Read.j0 k l0 (l0.drop 13) (decide (((l0.drop 13).length : Int) ≥ 11)) t180 t182 0 0 0 0 0 ((rd l0 0) == 1) t184)) = some (r1, r2, r3, r4, r5, r6, r7, r8, r9, r10, r11) := H
         have A14 := zA A140
         clear A140
         have c15b0 := eq_true (of_decide_eq_true (by first | (with_reducible assumption) | assumption) : 13 ≤ (l0.length : Int))
         have HC16 := zA H
         clear H
         go_enter Try.func12, Try.ntmps12
         try go_wp2_with (first | ((with_reducible refine gate_dst (N := 2) rfl ?_); (try (refine gate_guard (by rfl) ?_; dsimp only)); refine box_event ?hg (N := 2) ?hd (cs := #[.int .i64 0, .int .i64 0, .int .i64 0, .int .i64 0, .int .i64 0, .int .i64 0, .int .i64 0, .bool false, .int .i64 0, .slice none 0 0]) (t := 28) ?hr ?_; (case hd => rfl); (case hg => rfl); (case hr => first | (go_simp; done) | (go_simp; rfl)); intro gb177 hg w17 hbox hb; have BK177 := zA (hbox); have GW177 := zA ((by rw [hg]; exact bels : w.heap.size ≤ gb177)); have GE177 := zA ((by rw [hg]; exact bels : w.heap.size ≤ gb177)); replace HB := zA (belt hb); clear hb hbox hg))
         replace BK177 := zA (blk_drew BK177.out)
         replace HB := zA (below_drew1 HB.out)
         have p178 : 0 ≤ (0 : Int) := (by omega)
         have q178 : 0 < (l0.length : Int) := of_decide_eq_true (by first | (with_reducible assumption) | assumption)
         obtain ⟨ad178, e178, hx178_0⟩ := Kd.at_int HR0.out 0 p178 q178
         have hw178_0 := hx178_0
         (try rw [show ((0 : Int)).toNat = 0 from rfl] at hw178_0)
         (try rw [show 0 * 1 = 0 from rfl] at hw178_0)
         (try rw [Addr.add_zero'] at hw178_0)
         cases e178
         have qi178 : (0 < l0.length) = True := eq_true (by omega)
         (try rw [show ((0 : Int)).toNat = 0 from rfl] at hx178_0)
         (try rw [Addr.add_zero'] at hx178_0)
         replace hx178_0 := (HB.out.cell (World.block_lt_of_cell? w _ hx178_0)).trans hx178_0
         replace p178 := eq_true p178
         replace q178 := eq_true q178
         obtain ⟨i019, hi019, _, hsz19, _⟩ := info_parts info5
         obtain ⟨A19, hcut19, hA19, hC19⟩ := print_mid_of (P := Try.prog) (Value.int .u8) 0 26 5 .i64 .i64 Try.underlying26 hi019 hsz19 (some ad178) c0 l0 1 5 (by omega) (by first | omega | exact of_decide_eq_true (by first | (with_reducible assumption) | assumption)) (of_decide_eq_true (by first | (with_reducible assumption) | assumption)) HC0.out
         have HR179 := zA (Kd.C_of_reads (h1 := fun _ => rfl) (hA19 _ (Kd.reads_of_C HR0.out)))
         have HC179 := zA hC19
         clear hA19 hC19 hi019 hsz19
         obtain ⟨i020, hi020, _, hsz20, _⟩ := info_parts info5
         obtain ⟨A20, hcut20, hA20, hC20⟩ := print_mid_of (P := Try.prog) (Value.int .u8) 0 26 5 .i64 .i64 Try.underlying26 hi020 hsz20 (some ad178) c0 l0 5 9 (by omega) (by first | omega | exact of_decide_eq_true (by first | (with_reducible assumption) | assumption)) (of_decide_eq_true (by first | (with_reducible assumption) | assumption)) HC0.out
         have HR181 := zA (Kd.C_of_reads (h1 := fun _ => rfl) (hA20 _ (Kd.reads_of_C HR0.out)))
         have HC181 := zA hC20
         clear hA20 hC20 hi020 hsz20
         obtain ⟨i021, hi021, _, hsz21, _⟩ := info_parts info5
         obtain ⟨A21, hcut21, hA21, hC21⟩ := print_mid_of (P := Try.prog) (Value.int .u8) 0 26 5 .i64 .i64 Try.underlying26 hi021 hsz21 (some ad178) c0 l0 9 13 (by omega) (by first | omega | exact of_decide_eq_true (by first | (with_reducible assumption) | assumption)) (of_decide_eq_true (by first | (with_reducible assumption) | assumption)) HC0.out
         have HR183 := zA (Kd.C_of_reads (h1 := fun _ => rfl) (hA21 _ (Kd.reads_of_C HR0.out)))
         have HC183 := zA hC21
         clear hA21 hC21 hi021 hsz21
         refine start_ (n := 17) (S := fun w' => w'.cell? ad178 = some (.int .u8 (rd l0 0))) (ds := []) (ms 17 0) (by kernel_rfl) rfl rfl (((HB.out.cell (World.block_lt_of_cell? w _ hw178_0)).trans hw178_0)) (fun hHeld => ?_); refine with_tabW record_Read.tab3 record_Read.bits3 (fun HT_ HW_ => ?_)
         generalize w17.drew = w18 at BK177 HB HR179 HR181 HR183 hx178_0 hHeld ⊢
         refine run_ [(0, false, some 10), (1, false, some 11), (4, false, some 14), (5, false, some 15), (7, false, some 17), (8, false, some 18), (11, false, some 21), (12, false, some 22), (2, true, some 12), (3, false, some 13)] (n := 10) (ms 17 6591) rfl HT_.out HW_.out (by kernel_rfl) (fun _ _ _ _ h => h) hHeld ?_
         repeat (first | (refine Run.p (v := ?_) (a' := ?_) rfl rfl (Or.inl ⟨by rfl, ?_⟩) ?_ ?_; rotate_left; (focus intro w'; go_simp; with_reducible rfl); rotate_left; (focus simp only [Act.put, sx]; rfl)) | (refine Run.t (v := ?_) (a' := ?_) rfl rfl (Or.inl ⟨by rfl, ?_⟩) ?_ ?_; rotate_left; (focus intro w' s0; go_simp; with_reducible rfl); rotate_left; (focus simp only [Act.put, sx]; rfl)))
         refine Run.nil ?_
         refine join_ (σ := Nat) 1 (ms 17 65535) (fun s_ => [(16, .int .i64 t180), (19, .int .i64 t182), (23, .int .i64 t184), (4, .pointer (some ⟨s_, 0, none⟩)), (20, .agg #[.int .i64 t180, .int .i64 t182]), (24, .agg #[.int .i64 t180, .int .i64 t182, .int .i64 0, .int .i64 0, .int .i64 0, .int .i64 0, .int .i64 0, .bool ((rd l0 0) == 1), .int .i64 t184, .slice none 0 0])]) (fun s_ w' => (w'.cell? ad178 = some (.int .u8 (rd l0 0))) ∧ (w'.heap[gb177]? = some (.cells #[.int .i64 0, .int .i64 0, .int .i64 0, .int .i64 0, .int .i64 0, .int .i64 0, .int .i64 0, .bool false, .int .i64 0, .slice none 0 0] 28 (0, 0))) ∧ (w'.heap[s_]? = some (.cells #[.int .i64 0, .int .i64 0, .int .i64 0, .int .i64 0, .int .i64 0, .int .i64 0, .int .i64 0, .bool false, .int .i64 0, .slice none 0 0] 28 (0, 0))) ∧ (w.heap.size ≤ s_) ∧ (w.heap.size ≤ s_) ∧ (gb177 ≠ s_) ∧ (s_ ≠ gb177) ∧ (Below w.heap.size w w')) ?_ ?_
         rotate_left
         ·intro hCont
          refine two_ (i := 6) (j := 15) (Ni := some 16) (Nj := some 4) (ms 17 6655) (ms 17 39359) rfl rfl rfl rfl (two_of HT_.out (by kernel_rfl)) (by decide) (by decide) (fun K hK => ?_) (fun K hK => ?_)
          ·skip
           refine goes_ Try.func31 (by kernel_rfl) rfl #[.slice A19 ((l0.take 5).drop 1).length (c0 - 1)] (by rfl) rfl rfl (by (try simp only [List.map_toArray, List.map_cons, List.map_nil]); first | done | (rw [show ((l0.take 5).drop 1).length = (5 - 1) from (by rw [List.length_drop, List.length_take]; have h_ : (5 : Int) ≤ (l0.length : Int) := of_decide_eq_true (by first | (with_reducible assumption) | assumption); omega)] <;> rfl) | rfl | (simp only [List.length_drop, List.length_take]; rfl)) ?_
           with_reducible refine (record_Whole.calls k _ _ ((l0.take 5).drop 1) t180 _ ?side1 ?side2 A8.out).mono ?_
           (case side1 => repeat (first | exact (Kd.C_below HR179.out HB.out) | (with_reducible refine Kd.C_alloc ?_ _) | (with_reducible refine Kd.C_drewN ?_ _) | (with_reducible refine Kd.C_drew ?_)))
           (case side2 => exact HC179.out)
           rintro e w' ⟨rfl, ⟨nd, rfl⟩⟩
           refine ⟨_, rfl, ?_⟩
           refine hK.out _ _ (((HB.out.cell (World.block_lt_of_cell? w _ hw178_0)).trans hw178_0)) (fun hHeld => ?_)
           clear hK K
           refine norm_ (a' := ?_) ?_ ?_
           rotate_left
           ·show Act.put _ (some 16) _ = _
            simp only [Act.put, sx]
            rfl
           refine two_ (i := 9) (j := 15) (Ni := some 19) (Nj := some 4) (ms 17 7167) (ms 17 39423) rfl rfl rfl rfl (two_of HT_.out (by kernel_rfl)) (by decide) (by decide) (fun K hK => ?_) (fun K hK => ?_)
           ·skip
            refine goes_ Try.func31 (by kernel_rfl) rfl #[.slice A20 ((l0.take 9).drop 5).length (c0 - 5)] (by rfl) rfl rfl (by (try simp only [List.map_toArray, List.map_cons, List.map_nil]); first | done | (rw [show ((l0.take 9).drop 5).length = (9 - 5) from (by rw [List.length_drop, List.length_take]; have h_ : (9 : Int) ≤ (l0.length : Int) := of_decide_eq_true (by first | (with_reducible assumption) | assumption); omega)] <;> rfl) | rfl | (simp only [List.length_drop, List.length_take]; rfl)) ?_
            with_reducible refine (record_Whole.calls k _ _ ((l0.take 9).drop 5) t182 _ ?side1 ?side2 A11.out).mono ?_
            (case side1 => repeat (first | exact (Kd.C_below HR181.out bel) | (with_reducible refine Kd.C_alloc ?_ _) | (with_reducible refine Kd.C_drewN ?_ _) | (with_reducible refine Kd.C_drew ?_)))
            (case side2 => exact HC181.out)
            rintro e w' ⟨rfl, ⟨nd, rfl⟩⟩
            refine ⟨_, rfl, ?_⟩
            refine hK.out _ _ (((HB.out.cell (World.block_lt_of_cell? w _ hw178_0)).trans hw178_0)) (fun hHeld => ?_)
            clear hK K
            refine norm_ (a' := ?_) ?_ ?_
            rotate_left
            ·show Act.put _ (some 19) _ = _
             simp only [Act.put, sx]
             rfl
            refine pure_ (i := 10) (N := some 20) (v := ?_) (a' := ?_) (ms 17 8191) rfl rfl (any_of HT_.out (by kernel_rfl)) (fun _ _ _ h => h) (Or.inl ⟨by rfl, ?_⟩) ?_ ?_
            rotate_left
            ·intro w'
             go_simp
             with_reducible rfl
            rotate_left
            ·simp only [Act.put, sx]
             rfl
            refine two_ (i := 13) (j := 15) (Ni := some 23) (Nj := some 4) (ms 17 16383) (ms 17 40959) rfl rfl rfl rfl (two_of HT_.out (by kernel_rfl)) (by decide) (by decide) (fun K hK => ?_) (fun K hK => ?_)
            ·skip
             refine goes_ Try.func31 (by kernel_rfl) rfl #[.slice A21 ((l0.take 13).drop 9).length (c0 - 9)] (by rfl) rfl rfl (by (try simp only [List.map_toArray, List.map_cons, List.map_nil]); first | done | (rw [show ((l0.take 13).drop 9).length = (13 - 9) from (by rw [List.length_drop, List.length_take]; have h_ : (13 : Int) ≤ (l0.length : Int) := of_decide_eq_true (by first | (with_reducible assumption) | assumption); omega)] <;> rfl) | rfl | (simp only [List.length_drop, List.length_take]; rfl)) ?_
             with_reducible refine (record_Whole.calls k _ _ ((l0.take 13).drop 9) t184 _ ?side1 ?side2 A14.out).mono ?_
             (case side1 => repeat (first | exact (Kd.C_below HR183.out bel) | (with_reducible refine Kd.C_alloc ?_ _) | (with_reducible refine Kd.C_drewN ?_ _) | (with_reducible refine Kd.C_drew ?_)))
             (case side2 => exact HC183.out)
             rintro e w' ⟨rfl, ⟨nd, rfl⟩⟩
             refine ⟨_, rfl, ?_⟩
             refine hK.out _ _ (((HB.out.cell (World.block_lt_of_cell? w _ hw178_0)).trans hw178_0)) (fun hHeld => ?_)
             clear hK K
             refine norm_ (a' := ?_) ?_ ?_
             rotate_left
             ·show Act.put _ (some 23) _ = _
              simp only [Act.put, sx]
              rfl
             refine pure_ (i := 14) (N := some 24) (v := ?_) (a' := ?_) (ms 17 32767) rfl rfl (any_of HT_.out (by kernel_rfl)) (fun _ _ _ h => h) (Or.inl ⟨by rfl, ?_⟩) ?_ ?_
             rotate_left
             ·intro w'
              go_simp
              with_reducible rfl
             rotate_left
             ·simp only [Act.put, sx]
              rfl
             refine one_ (i := 15) (N := some 4) (ms 17 65535) rfl rfl (one_of HT_.out (by kernel_rfl)) (by decide) (fun K hK => ?_)
             refine box_step ?hg (N := 4) ?hd (cs := #[.int .i64 0, .int .i64 0, .int .i64 0, .int .i64 0, .int .i64 0, .int .i64 0, .int .i64 0, .bool false, .int .i64 0, .slice none 0 0]) (t := 28) ?hr ?_; (case hd => rfl); (case hg => rfl); (case hr => first | (go_simp; done) | (go_simp; rfl))
             intro gb185 hg w22 hbox hb
             have BK185 := zA (hbox)
             have GW185 := zA ((by rw [hg]; exact bels : w.heap.size ≤ gb185))
             have GE185 := zA ((by rw [hg]; exact bels : w.heap.size ≤ gb185))
             have NB177_185 := zA ((by rw [hg]; exact Nat.ne_of_lt (blk_lt (g := gb177) (o := .cells #[.int .i64 0, .int .i64 0, .int .i64 0, .int .i64 0, .int .i64 0, .int .i64 0, .int .i64 0, .bool false, .int .i64 0, .slice none 0 0] 28 (0, 0)) (blk_g BK177.out)) : gb177 ≠ gb185))
             have NB185_177 := zA ((by rw [hg]; exact Nat.ne_of_gt (blk_lt (g := gb177) (o := .cells #[.int .i64 0, .int .i64 0, .int .i64 0, .int .i64 0, .int .i64 0, .int .i64 0, .int .i64 0, .bool false, .int .i64 0, .slice none 0 0] 28 (0, 0)) (blk_g BK177.out)) : gb185 ≠ gb177))
             replace BK177 := zA (blk_below (g := gb177) (o := .cells #[.int .i64 0, .int .i64 0, .int .i64 0, .int .i64 0, .int .i64 0, .int .i64 0, .int .i64 0, .bool false, .int .i64 0, .slice none 0 0] 28 (0, 0)) (blk_g BK177.out) hb)
             replace HB := zA (belt hb)
             clear hb hbox hg
             refine hK.out _ _ (((HB.out.cell (World.block_lt_of_cell? w _ hw178_0)).trans hw178_0)) (fun hHeld => ?_)
             clear hK K
             refine norm_ (a' := ?_) ?_ ?_
             rotate_left
             ·show Act.put _ (some 4) _ = _
              simp only [Act.put, sx]
              rfl
             exact norm_ (by simp only [putAll, Act.put, List.setIfInBounds_toArray, List.set_cons_zero, List.set_cons_succ]) (hCont (gb185) _ ⟨hHeld, (blk_g BK177.out), (blk_g BK185.out), GW185.out, GE185.out, NB177_185.out, NB185_177.out, bel⟩)
            ·skip
             refine box_step ?hg (N := 4) ?hd (cs := #[.int .i64 0, .int .i64 0, .int .i64 0, .int .i64 0, .int .i64 0, .int .i64 0, .int .i64 0, .bool false, .int .i64 0, .slice none 0 0]) (t := 28) ?hr ?_; (case hd => rfl); (case hg => rfl); (case hr => first | (go_simp; done) | (go_simp; rfl))
             intro gb185 hg w22 hbox hb
             have BK185 := zA (hbox)
             have GW185 := zA ((by rw [hg]; exact bels : w.heap.size ≤ gb185))
             have GE185 := zA ((by rw [hg]; exact bels : w.heap.size ≤ gb185))
             have NB177_185 := zA ((by rw [hg]; exact Nat.ne_of_lt (blk_lt (g := gb177) (o := .cells #[.int .i64 0, .int .i64 0, .int .i64 0, .int .i64 0, .int .i64 0, .int .i64 0, .int .i64 0, .bool false, .int .i64 0, .slice none 0 0] 28 (0, 0)) (blk_g BK177.out)) : gb177 ≠ gb185))
             have NB185_177 := zA ((by rw [hg]; exact Nat.ne_of_gt (blk_lt (g := gb177) (o := .cells #[.int .i64 0, .int .i64 0, .int .i64 0, .int .i64 0, .int .i64 0, .int .i64 0, .int .i64 0, .bool false, .int .i64 0, .slice none 0 0] 28 (0, 0)) (blk_g BK177.out)) : gb185 ≠ gb177))
             replace BK177 := zA (blk_below (g := gb177) (o := .cells #[.int .i64 0, .int .i64 0, .int .i64 0, .int .i64 0, .int .i64 0, .int .i64 0, .int .i64 0, .bool false, .int .i64 0, .slice none 0 0] 28 (0, 0)) (blk_g BK177.out) hb)
             replace HB := zA (belt hb)
             clear hb hbox hg
             refine hK.out _ _ (((HB.out.cell (World.block_lt_of_cell? w _ hw178_0)).trans hw178_0)) (fun hHeld => ?_)
             clear hK K
             refine norm_ (a' := ?_) ?_ ?_
             rotate_left
             ·show Act.put _ (some 4) _ = _
              simp only [Act.put, sx]
              rfl
             refine one_ (i := 13) (N := some 23) (ms 17 49151) rfl rfl (one_of HT_.out (by kernel_rfl)) (by decide) (fun K hK => ?_)
             refine goes_ Try.func31 (by kernel_rfl) rfl #[.slice A21 ((l0.take 13).drop 9).length (c0 - 9)] (by rfl) rfl rfl (by (try simp only [List.map_toArray, List.map_cons, List.map_nil]); first | done | (rw [show ((l0.take 13).drop 9).length = (13 - 9) from (by rw [List.length_drop, List.length_take]; have h_ : (13 : Int) ≤ (l0.length : Int) := of_decide_eq_true (by first | (with_reducible assumption) | assumption); omega)] <;> rfl) | rfl | (simp only [List.length_drop, List.length_take]; rfl)) ?_
             with_reducible refine (record_Whole.calls k _ _ ((l0.take 13).drop 9) t184 _ ?side1 ?side2 A14.out).mono ?_
             (case side1 => repeat (first | exact (Kd.C_below HR183.out HB.out) | (with_reducible refine Kd.C_alloc ?_ _) | (with_reducible refine Kd.C_drewN ?_ _) | (with_reducible refine Kd.C_drew ?_)))
             (case side2 => exact HC183.out)
             rintro e w' ⟨rfl, ⟨nd, rfl⟩⟩
             refine ⟨_, rfl, ?_⟩
             refine hK.out _ _ (((HB.out.cell (World.block_lt_of_cell? w _ hw178_0)).trans hw178_0)) (fun hHeld => ?_)
             clear hK K
             refine norm_ (a' := ?_) ?_ ?_
             rotate_left
             ·show Act.put _ (some 23) _ = _
              simp only [Act.put, sx]
              rfl
             refine pure_ (i := 14) (N := some 24) (v := ?_) (a' := ?_) (ms 17 65535) rfl rfl (any_of HT_.out (by kernel_rfl)) (fun _ _ _ h => h) (Or.inl ⟨by rfl, ?_⟩) ?_ ?_
             rotate_left
             ·intro w'
              go_simp
              with_reducible rfl
             rotate_left
             ·simp only [Act.put, sx]
              rfl
             exact norm_ (by simp only [putAll, Act.put, List.setIfInBounds_toArray, List.set_cons_zero, List.set_cons_succ]) (hCont (gb185) _ ⟨hHeld, (blk_g BK177.out), (blk_g BK185.out), GW185.out, GE185.out, NB177_185.out, NB185_177.out, bel⟩)
           ·skip
            refine box_step ?hg (N := 4) ?hd (cs := #[.int .i64 0, .int .i64 0, .int .i64 0, .int .i64 0, .int .i64 0, .int .i64 0, .int .i64 0, .bool false, .int .i64 0, .slice none 0 0]) (t := 28) ?hr ?_; (case hd => rfl); (case hg => rfl); (case hr => first | (go_simp; done) | (go_simp; rfl))
            intro gb185 hg w22 hbox hb
            have BK185 := zA (hbox)
            have GW185 := zA ((by rw [hg]; exact bels : w.heap.size ≤ gb185))
            have GE185 := zA ((by rw [hg]; exact bels : w.heap.size ≤ gb185))
            have NB177_185 := zA ((by rw [hg]; exact Nat.ne_of_lt (blk_lt (g := gb177) (o := .cells #[.int .i64 0, .int .i64 0, .int .i64 0, .int .i64 0, .int .i64 0, .int .i64 0, .int .i64 0, .bool false, .int .i64 0, .slice none 0 0] 28 (0, 0)) (blk_g BK177.out)) : gb177 ≠ gb185))
            have NB185_177 := zA ((by rw [hg]; exact Nat.ne_of_gt (blk_lt (g := gb177) (o := .cells #[.int .i64 0, .int .i64 0, .int .i64 0, .int .i64 0, .int .i64 0, .int .i64 0, .int .i64 0, .bool false, .int .i64 0, .slice none 0 0] 28 (0, 0)) (blk_g BK177.out)) : gb185 ≠ gb177))
            replace BK177 := zA (blk_below (g := gb177) (o := .cells #[.int .i64 0, .int .i64 0, .int .i64 0, .int .i64 0, .int .i64 0, .int .i64 0, .int .i64 0, .bool false, .int .i64 0, .slice none 0 0] 28 (0, 0)) (blk_g BK177.out) hb)
            replace HB := zA (belt hb)
            clear hb hbox hg
            refine hK.out _ _ (((HB.out.cell (World.block_lt_of_cell? w _ hw178_0)).trans hw178_0)) (fun hHeld => ?_)
            clear hK K
            refine norm_ (a' := ?_) ?_ ?_
            rotate_left
            ·show Act.put _ (some 4) _ = _
             simp only [Act.put, sx]
             rfl
            refine one_ (i := 9) (N := some 19) (ms 17 39935) rfl rfl (one_of HT_.out (by kernel_rfl)) (by decide) (fun K hK => ?_)
            refine goes_ Try.func31 (by kernel_rfl) rfl #[.slice A20 ((l0.take 9).drop 5).length (c0 - 5)] (by rfl) rfl rfl (by (try simp only [List.map_toArray, List.map_cons, List.map_nil]); first | done | (rw [show ((l0.take 9).drop 5).length = (9 - 5) from (by rw [List.length_drop, List.length_take]; have h_ : (9 : Int) ≤ (l0.length : Int) := of_decide_eq_true (by first | (with_reducible assumption) | assumption); omega)] <;> rfl) | rfl | (simp only [List.length_drop, List.length_take]; rfl)) ?_
            with_reducible refine (record_Whole.calls k _ _ ((l0.take 9).drop 5) t182 _ ?side1 ?side2 A11.out).mono ?_
            (case side1 => repeat (first | exact (Kd.C_below HR181.out HB.out) | (with_reducible refine Kd.C_alloc ?_ _) | (with_reducible refine Kd.C_drewN ?_ _) | (with_reducible refine Kd.C_drew ?_)))
            (case side2 => exact HC181.out)
            rintro e w' ⟨rfl, ⟨nd, rfl⟩⟩
            refine ⟨_, rfl, ?_⟩
            refine hK.out _ _ (((HB.out.cell (World.block_lt_of_cell? w _ hw178_0)).trans hw178_0)) (fun hHeld => ?_)
            clear hK K
            refine norm_ (a' := ?_) ?_ ?_
            rotate_left
            ·show Act.put _ (some 19) _ = _
             simp only [Act.put, sx]
             rfl
            refine pure_ (i := 10) (N := some 20) (v := ?_) (a' := ?_) (ms 17 40959) rfl rfl (any_of HT_.out (by kernel_rfl)) (fun _ _ _ h => h) (Or.inl ⟨by rfl, ?_⟩) ?_ ?_
            rotate_left
            ·intro w'
             go_simp
             with_reducible rfl
            rotate_left
            ·simp only [Act.put, sx]
             rfl
            refine one_ (i := 13) (N := some 23) (ms 17 49151) rfl rfl (one_of HT_.out (by kernel_rfl)) (by decide) (fun K hK => ?_)
            refine goes_ Try.func31 (by kernel_rfl) rfl #[.slice A21 ((l0.take 13).drop 9).length (c0 - 9)] (by rfl) rfl rfl (by (try simp only [List.map_toArray, List.map_cons, List.map_nil]); first | done | (rw [show ((l0.take 13).drop 9).length = (13 - 9) from (by rw [List.length_drop, List.length_take]; have h_ : (13 : Int) ≤ (l0.length : Int) := of_decide_eq_true (by first | (with_reducible assumption) | assumption); omega)] <;> rfl) | rfl | (simp only [List.length_drop, List.length_take]; rfl)) ?_
            with_reducible refine (record_Whole.calls k _ _ ((l0.take 13).drop 9) t184 _ ?side1 ?side2 A14.out).mono ?_
            (case side1 => repeat (first | exact (Kd.C_below HR183.out bel) | (with_reducible refine Kd.C_alloc ?_ _) | (with_reducible refine Kd.C_drewN ?_ _) | (with_reducible refine Kd.C_drew ?_)))
            (case side2 => exact HC183.out)
            rintro e w' ⟨rfl, ⟨nd, rfl⟩⟩
            refine ⟨_, rfl, ?_⟩
            refine hK.out _ _ (((HB.out.cell (World.block_lt_of_cell? w _ hw178_0)).trans hw178_0)) (fun hHeld => ?_)
            clear hK K
            refine norm_ (a' := ?_) ?_ ?_
            rotate_left
            ·show Act.put _ (some 23) _ = _
             simp only [Act.put, sx]
             rfl
            refine pure_ (i := 14) (N := some 24) (v := ?_) (a' := ?_) (ms 17 65535) rfl rfl (any_of HT_.out (by kernel_rfl)) (fun _ _ _ h => h) (Or.inl ⟨by rfl, ?_⟩) ?_ ?_
            rotate_left
            ·intro w'
             go_simp
             with_reducible rfl
            rotate_left
            ·simp only [Act.put, sx]
             rfl
            exact norm_ (by simp only [putAll, Act.put, List.setIfInBounds_toArray, List.set_cons_zero, List.set_cons_succ]) (hCont (gb185) _ ⟨hHeld, (blk_g BK177.out), (blk_g BK185.out), GW185.out, GE185.out, NB177_185.out, NB185_177.out, bel⟩)
          ·skip
           refine box_step ?hg (N := 4) ?hd (cs := #[.int .i64 0, .int .i64 0, .int .i64 0, .int .i64 0, .int .i64 0, .int .i64 0, .int .i64 0, .bool false, .int .i64 0, .slice none 0 0]) (t := 28) ?hr ?_; (case hd => rfl); (case hg => rfl); (case hr => first | (go_simp; done) | (go_simp; rfl))
           intro gb185 hg w22 hbox hb
           have BK185 := zA (hbox)
           have GW185 := zA ((by rw [hg]; exact bels : w.heap.size ≤ gb185))
           have GE185 := zA ((by rw [hg]; exact bels : w.heap.size ≤ gb185))
           have NB177_185 := zA ((by rw [hg]; exact Nat.ne_of_lt (blk_lt (g := gb177) (o := .cells #[.int .i64 0, .int .i64 0, .int .i64 0, .int .i64 0, .int .i64 0, .int .i64 0, .int .i64 0, .bool false, .int .i64 0, .slice none 0 0] 28 (0, 0)) (blk_g BK177.out)) : gb177 ≠ gb185))
           have NB185_177 := zA ((by rw [hg]; exact Nat.ne_of_gt (blk_lt (g := gb177) (o := .cells #[.int .i64 0, .int .i64 0, .int .i64 0, .int .i64 0, .int .i64 0, .int .i64 0, .int .i64 0, .bool false, .int .i64 0, .slice none 0 0] 28 (0, 0)) (blk_g BK177.out)) : gb185 ≠ gb177))
           replace BK177 := zA (blk_below (g := gb177) (o := .cells #[.int .i64 0, .int .i64 0, .int .i64 0, .int .i64 0, .int .i64 0, .int .i64 0, .int .i64 0, .bool false, .int .i64 0, .slice none 0 0] 28 (0, 0)) (blk_g BK177.out) hb)
           replace HB := zA (belt hb)
           clear hb hbox hg
           refine hK.out _ _ (((HB.out.cell (World.block_lt_of_cell? w _ hw178_0)).trans hw178_0)) (fun hHeld => ?_)
           clear hK K
           refine norm_ (a' := ?_) ?_ ?_
           rotate_left
           ·show Act.put _ (some 4) _ = _
            simp only [Act.put, sx]
            rfl
           refine one_ (i := 6) (N := some 16) (ms 17 39423) rfl rfl (one_of HT_.out (by kernel_rfl)) (by decide) (fun K hK => ?_)
           refine goes_ Try.func31 (by kernel_rfl) rfl #[.slice A19 ((l0.take 5).drop 1).length (c0 - 1)] (by rfl) rfl rfl (by (try simp only [List.map_toArray, List.map_cons, List.map_nil]); first | done | (rw [show ((l0.take 5).drop 1).length = (5 - 1) from (by rw [List.length_drop, List.length_take]; have h_ : (5 : Int) ≤ (l0.length : Int) := of_decide_eq_true (by first | (with_reducible assumption) | assumption); omega)] <;> rfl) | rfl | (simp only [List.length_drop, List.length_take]; rfl)) ?_
           with_reducible refine (record_Whole.calls k _ _ ((l0.take 5).drop 1) t180 _ ?side1 ?side2 A8.out).mono ?_
           (case side1 => repeat (first | exact (Kd.C_below HR179.out HB.out) | (with_reducible refine Kd.C_alloc ?_ _) | (with_reducible refine Kd.C_drewN ?_ _) | (with_reducible refine Kd.C_drew ?_)))
           (case side2 => exact HC179.out)
           rintro e w' ⟨rfl, ⟨nd, rfl⟩⟩
           refine ⟨_, rfl, ?_⟩
           refine hK.out _ _ (((HB.out.cell (World.block_lt_of_cell? w _ hw178_0)).trans hw178_0)) (fun hHeld => ?_)
           clear hK K
           refine norm_ (a' := ?_) ?_ ?_
           rotate_left
           ·show Act.put _ (some 16) _ = _
            simp only [Act.put, sx]
            rfl
           refine one_ (i := 9) (N := some 19) (ms 17 39935) rfl rfl (one_of HT_.out (by kernel_rfl)) (by decide) (fun K hK => ?_)
           refine goes_ Try.func31 (by kernel_rfl) rfl #[.slice A20 ((l0.take 9).drop 5).length (c0 - 5)] (by rfl) rfl rfl (by (try simp only [List.map_toArray, List.map_cons, List.map_nil]); first | done | (rw [show ((l0.take 9).drop 5).length = (9 - 5) from (by rw [List.length_drop, List.length_take]; have h_ : (9 : Int) ≤ (l0.length : Int) := of_decide_eq_true (by first | (with_reducible assumption) | assumption); omega)] <;> rfl) | rfl | (simp only [List.length_drop, List.length_take]; rfl)) ?_
           with_reducible refine (record_Whole.calls k _ _ ((l0.take 9).drop 5) t182 _ ?side1 ?side2 A11.out).mono ?_
           (case side1 => repeat (first | exact (Kd.C_below HR181.out bel) | (with_reducible refine Kd.C_alloc ?_ _) | (with_reducible refine Kd.C_drewN ?_ _) | (with_reducible refine Kd.C_drew ?_)))
           (case side2 => exact HC181.out)
           rintro e w' ⟨rfl, ⟨nd, rfl⟩⟩
           refine ⟨_, rfl, ?_⟩
           refine hK.out _ _ (((HB.out.cell (World.block_lt_of_cell? w _ hw178_0)).trans hw178_0)) (fun hHeld => ?_)
           clear hK K
           refine norm_ (a' := ?_) ?_ ?_
           rotate_left
           ·show Act.put _ (some 19) _ = _
            simp only [Act.put, sx]
            rfl
           refine pure_ (i := 10) (N := some 20) (v := ?_) (a' := ?_) (ms 17 40959) rfl rfl (any_of HT_.out (by kernel_rfl)) (fun _ _ _ h => h) (Or.inl ⟨by rfl, ?_⟩) ?_ ?_
           rotate_left
           ·intro w'
            go_simp
            with_reducible rfl
           rotate_left
           ·simp only [Act.put, sx]
            rfl
           refine one_ (i := 13) (N := some 23) (ms 17 49151) rfl rfl (one_of HT_.out (by kernel_rfl)) (by decide) (fun K hK => ?_)
           refine goes_ Try.func31 (by kernel_rfl) rfl #[.slice A21 ((l0.take 13).drop 9).length (c0 - 9)] (by rfl) rfl rfl (by (try simp only [List.map_toArray, List.map_cons, List.map_nil]); first | done | (rw [show ((l0.take 13).drop 9).length = (13 - 9) from (by rw [List.length_drop, List.length_take]; have h_ : (13 : Int) ≤ (l0.length : Int) := of_decide_eq_true (by first | (with_reducible assumption) | assumption); omega)] <;> rfl) | rfl | (simp only [List.length_drop, List.length_take]; rfl)) ?_
           with_reducible refine (record_Whole.calls k _ _ ((l0.take 13).drop 9) t184 _ ?side1 ?side2 A14.out).mono ?_
           (case side1 => repeat (first | exact (Kd.C_below HR183.out bel) | (with_reducible refine Kd.C_alloc ?_ _) | (with_reducible refine Kd.C_drewN ?_ _) | (with_reducible refine Kd.C_drew ?_)))
           (case side2 => exact HC183.out)
           rintro e w' ⟨rfl, ⟨nd, rfl⟩⟩
           refine ⟨_, rfl, ?_⟩
           refine hK.out _ _ (((HB.out.cell (World.block_lt_of_cell? w _ hw178_0)).trans hw178_0)) (fun hHeld => ?_)
           clear hK K
           refine norm_ (a' := ?_) ?_ ?_
           rotate_left
           ·show Act.put _ (some 23) _ = _
            simp only [Act.put, sx]
            rfl
           refine pure_ (i := 14) (N := some 24) (v := ?_) (a' := ?_) (ms 17 65535) rfl rfl (any_of HT_.out (by kernel_rfl)) (fun _ _ _ h => h) (Or.inl ⟨by rfl, ?_⟩) ?_ ?_
           rotate_left
           ·intro w'
            go_simp
            with_reducible rfl
           rotate_left
           ·simp only [Act.put, sx]
            rfl
           exact norm_ (by simp only [putAll, Act.put, List.setIfInBounds_toArray, List.set_cons_zero, List.set_cons_succ]) (hCont (gb185) _ ⟨hHeld, (blk_g BK177.out), (blk_g BK185.out), GW185.out, GE185.out, NB177_185.out, NB185_177.out, bel⟩)
         rintro gb185 w23 ⟨hS_, h0_, h1_, h2_, h3_, h4_, h5_, h6_⟩
         have n0_ : Aside0 (w23.heap[gb177]? = some (.cells #[.int .i64 0, .int .i64 0, .int .i64 0, .int .i64 0, .int .i64 0, .int .i64 0, .int .i64 0, .bool false, .int .i64 0, .slice none 0 0] 28 (0, 0))) := ⟨h0_⟩
         have n1_ : Aside0 (w23.heap[gb185]? = some (.cells #[.int .i64 0, .int .i64 0, .int .i64 0, .int .i64 0, .int .i64 0, .int .i64 0, .int .i64 0, .bool false, .int .i64 0, .slice none 0 0] 28 (0, 0))) := ⟨h1_⟩
         have n2_ : Aside0 (w.heap.size ≤ gb185) := ⟨h2_⟩
         have n3_ : Aside0 (w.heap.size ≤ gb185) := ⟨h3_⟩
         have n4_ : Aside0 (gb177 ≠ gb185) := ⟨h4_⟩
         have n5_ : Aside0 (gb185 ≠ gb177) := ⟨h5_⟩
         have n6_ : Aside0 (Below w.heap.size w w23) := ⟨h6_⟩
         clear BK177
         clear HB
         clear h0_ h1_ h2_ h3_ h4_ h5_ h6_
         have BK177 := n0_
         have BK185 := n1_
         have GW185 := n2_
         have GE185 := n3_
         have NB177_185 := n4_
         have NB185_177 := n5_
         have HB := n6_
         clear n0_ n1_ n2_ n3_ n4_ n5_ n6_
         have hHeld : w23.cell? ad178 = some (.int .u8 (rd l0 0)) := hS_
         refine norm_ (a' := ?_) ?_ ?_
         rotate_left
         ·simp only [putAll, Act.put, List.setIfInBounds_toArray, List.set_cons_zero, List.set_cons_succ]
          rfl
         refine one_ (i := 16) (N := none) (ms 17 131071) rfl rfl (one_of HT_.out (by kernel_rfl)) (by decide) (fun K hK => ?_)
         have hs24 : w23.cell? ⟨gb185, 0, none⟩ = some (.int .i64 0) := (blk_cell BK185.out 0).trans rfl
         have hfs24 := blk_frozen BK185.out 0
         have hns24_0 := NB177_185.out
         have hms24_0 := NB185_177.out
         have hs25 : w23.cell? ⟨gb185, 1, none⟩ = some (.int .i64 0) := (blk_cell BK185.out 1).trans rfl
         have hfs25 := blk_frozen BK185.out 1
         have hns25_0 := NB177_185.out
         have hms25_0 := NB185_177.out
         have hs26 : w23.cell? ⟨gb185, 2, none⟩ = some (.int .i64 0) := (blk_cell BK185.out 2).trans rfl
         have hfs26 := blk_frozen BK185.out 2
         have hns26_0 := NB177_185.out
         have hms26_0 := NB185_177.out
         have hs27 : w23.cell? ⟨gb185, 3, none⟩ = some (.int .i64 0) := (blk_cell BK185.out 3).trans rfl
         have hfs27 := blk_frozen BK185.out 3
         have hns27_0 := NB177_185.out
         have hms27_0 := NB185_177.out
         have hs28 : w23.cell? ⟨gb185, 4, none⟩ = some (.int .i64 0) := (blk_cell BK185.out 4).trans rfl
         have hfs28 := blk_frozen BK185.out 4
         have hns28_0 := NB177_185.out
         have hms28_0 := NB185_177.out
         have hs29 : w23.cell? ⟨gb185, 5, none⟩ = some (.int .i64 0) := (blk_cell BK185.out 5).trans rfl
         have hfs29 := blk_frozen BK185.out 5
         have hns29_0 := NB177_185.out
         have hms29_0 := NB185_177.out
         have hs30 : w23.cell? ⟨gb185, 6, none⟩ = some (.int .i64 0) := (blk_cell BK185.out 6).trans rfl
         have hfs30 := blk_frozen BK185.out 6
         have hns30_0 := NB177_185.out
         have hms30_0 := NB185_177.out
         have hs31 : w23.cell? ⟨gb185, 7, none⟩ = some (.bool false) := (blk_cell BK185.out 7).trans rfl
         have hfs31 := blk_frozen BK185.out 7
         have hns31_0 := NB177_185.out
         have hms31_0 := NB185_177.out
         have hs32 : w23.cell? ⟨gb185, 8, none⟩ = some (.int .i64 0) := (blk_cell BK185.out 8).trans rfl
         have hfs32 := blk_frozen BK185.out 8
         have hns32_0 := NB177_185.out
         have hms32_0 := NB185_177.out
         have hs33 : w23.cell? ⟨gb185, 9, none⟩ = some (.slice none 0 0) := (blk_cell BK185.out 9).trans rfl
         have hfs33 := blk_frozen BK185.out 9
         have hns33_0 := NB177_185.out
         have hms33_0 := NB185_177.out
         refine skip_ (w1 := ?_) (by rfl) rfl ?_ ?_
         rotate_left
         ·go_simp
          rfl
         refine hK.out _ _ (((cell_far (p := ⟨gb185, _, none⟩) (by first | exact Nat.ne_of_lt (Nat.lt_of_lt_of_le (by have := World.block_lt_of_cell? _ _ hw178_0; first | rwa [add_block] at this | exact this) GW185.out) | (rw [add_block]; exact Nat.ne_of_lt (Nat.lt_of_lt_of_le (by have := World.block_lt_of_cell? _ _ hw178_0; first | rwa [add_block] at this | exact this) GW185.out)) | (show (Addr.add _ _).block ≠ _; rw [add_block]; exact Nat.ne_of_lt (Nat.lt_of_lt_of_le (by have := World.block_lt_of_cell? _ _ hw178_0; first | rwa [add_block] at this | exact this) GW185.out)) | (dsimp only; exact Nat.ne_of_lt (Nat.lt_of_lt_of_le (by have := World.block_lt_of_cell? _ _ hw178_0; first | rwa [add_block] at this | exact this) GW185.out))) _).trans (((cell_far (p := ⟨gb185, _, none⟩) (by first | exact Nat.ne_of_lt (Nat.lt_of_lt_of_le (by have := World.block_lt_of_cell? _ _ hw178_0; first | rwa [add_block] at this | exact this) GW185.out) | (rw [add_block]; exact Nat.ne_of_lt (Nat.lt_of_lt_of_le (by have := World.block_lt_of_cell? _ _ hw178_0; first | rwa [add_block] at this | exact this) GW185.out)) | (show (Addr.add _ _).block ≠ _; rw [add_block]; exact Nat.ne_of_lt (Nat.lt_of_lt_of_le (by have := World.block_lt_of_cell? _ _ hw178_0; first | rwa [add_block] at this | exact this) GW185.out)) | (dsimp only; exact Nat.ne_of_lt (Nat.lt_of_lt_of_le (by have := World.block_lt_of_cell? _ _ hw178_0; first | rwa [add_block] at this | exact this) GW185.out))) _).trans (((cell_far (p := ⟨gb185, _, none⟩) (by first | exact Nat.ne_of_lt (Nat.lt_of_lt_of_le (by have := World.block_lt_of_cell? _ _ hw178_0; first | rwa [add_block] at this | exact this) GW185.out) | (rw [add_block]; exact Nat.ne_of_lt (Nat.lt_of_lt_of_le (by have := World.block_lt_of_cell? _ _ hw178_0; first | rwa [add_block] at this | exact this) GW185.out)) | (show (Addr.add _ _).block ≠ _; rw [add_block]; exact Nat.ne_of_lt (Nat.lt_of_lt_of_le (by have := World.block_lt_of_cell? _ _ hw178_0; first | rwa [add_block] at this | exact this) GW185.out)) | (dsimp only; exact Nat.ne_of_lt (Nat.lt_of_lt_of_le (by have := World.block_lt_of_cell? _ _ hw178_0; first | rwa [add_block] at this | exact this) GW185.out))) _).trans (((cell_far (p := ⟨gb185, _, none⟩) (by first | exact Nat.ne_of_lt (Nat.lt_of_lt_of_le (by have := World.block_lt_of_cell? _ _ hw178_0; first | rwa [add_block] at this | exact this) GW185.out) | (rw [add_block]; exact Nat.ne_of_lt (Nat.lt_of_lt_of_le (by have := World.block_lt_of_cell? _ _ hw178_0; first | rwa [add_block] at this | exact this) GW185.out)) | (show (Addr.add _ _).block ≠ _; rw [add_block]; exact Nat.ne_of_lt (Nat.lt_of_lt_of_le (by have := World.block_lt_of_cell? _ _ hw178_0; first | rwa [add_block] at this | exact this) GW185.out)) | (dsimp only; exact Nat.ne_of_lt (Nat.lt_of_lt_of_le (by have := World.block_lt_of_cell? _ _ hw178_0; first | rwa [add_block] at this | exact this) GW185.out))) _).trans (((cell_far (p := ⟨gb185, _, none⟩) (by first | exact Nat.ne_of_lt (Nat.lt_of_lt_of_le (by have := World.block_lt_of_cell? _ _ hw178_0; first | rwa [add_block] at this | exact this) GW185.out) | (rw [add_block]; exact Nat.ne_of_lt (Nat.lt_of_lt_of_le (by have := World.block_lt_of_cell? _ _ hw178_0; first | rwa [add_block] at this | exact this) GW185.out)) | (show (Addr.add _ _).block ≠ _; rw [add_block]; exact Nat.ne_of_lt (Nat.lt_of_lt_of_le (by have := World.block_lt_of_cell? _ _ hw178_0; first | rwa [add_block] at this | exact this) GW185.out)) | (dsimp only; exact Nat.ne_of_lt (Nat.lt_of_lt_of_le (by have := World.block_lt_of_cell? _ _ hw178_0; first | rwa [add_block] at this | exact this) GW185.out))) _).trans (((cell_far (p := ⟨gb185, _, none⟩) (by first | exact Nat.ne_of_lt (Nat.lt_of_lt_of_le (by have := World.block_lt_of_cell? _ _ hw178_0; first | rwa [add_block] at this | exact this) GW185.out) | (rw [add_block]; exact Nat.ne_of_lt (Nat.lt_of_lt_of_le (by have := World.block_lt_of_cell? _ _ hw178_0; first | rwa [add_block] at this | exact this) GW185.out)) | (show (Addr.add _ _).block ≠ _; rw [add_block]; exact Nat.ne_of_lt (Nat.lt_of_lt_of_le (by have := World.block_lt_of_cell? _ _ hw178_0; first | rwa [add_block] at this | exact this) GW185.out)) | (dsimp only; exact Nat.ne_of_lt (Nat.lt_of_lt_of_le (by have := World.block_lt_of_cell? _ _ hw178_0; first | rwa [add_block] at this | exact this) GW185.out))) _).trans (((cell_far (p := ⟨gb185, _, none⟩) (by first | exact Nat.ne_of_lt (Nat.lt_of_lt_of_le (by have := World.block_lt_of_cell? _ _ hw178_0; first | rwa [add_block] at this | exact this) GW185.out) | (rw [add_block]; exact Nat.ne_of_lt (Nat.lt_of_lt_of_le (by have := World.block_lt_of_cell? _ _ hw178_0; first | rwa [add_block] at this | exact this) GW185.out)) | (show (Addr.add _ _).block ≠ _; rw [add_block]; exact Nat.ne_of_lt (Nat.lt_of_lt_of_le (by have := World.block_lt_of_cell? _ _ hw178_0; first | rwa [add_block] at this | exact this) GW185.out)) | (dsimp only; exact Nat.ne_of_lt (Nat.lt_of_lt_of_le (by have := World.block_lt_of_cell? _ _ hw178_0; first | rwa [add_block] at this | exact this) GW185.out))) _).trans (((cell_far (p := ⟨gb185, _, none⟩) (by first | exact Nat.ne_of_lt (Nat.lt_of_lt_of_le (by have := World.block_lt_of_cell? _ _ hw178_0; first | rwa [add_block] at this | exact this) GW185.out) | (rw [add_block]; exact Nat.ne_of_lt (Nat.lt_of_lt_of_le (by have := World.block_lt_of_cell? _ _ hw178_0; first | rwa [add_block] at this | exact this) GW185.out)) | (show (Addr.add _ _).block ≠ _; rw [add_block]; exact Nat.ne_of_lt (Nat.lt_of_lt_of_le (by have := World.block_lt_of_cell? _ _ hw178_0; first | rwa [add_block] at this | exact this) GW185.out)) | (dsimp only; exact Nat.ne_of_lt (Nat.lt_of_lt_of_le (by have := World.block_lt_of_cell? _ _ hw178_0; first | rwa [add_block] at this | exact this) GW185.out))) _).trans (((cell_far (p := ⟨gb185, _, none⟩) (by first | exact Nat.ne_of_lt (Nat.lt_of_lt_of_le (by have := World.block_lt_of_cell? _ _ hw178_0; first | rwa [add_block] at this | exact this) GW185.out) | (rw [add_block]; exact Nat.ne_of_lt (Nat.lt_of_lt_of_le (by have := World.block_lt_of_cell? _ _ hw178_0; first | rwa [add_block] at this | exact this) GW185.out)) | (show (Addr.add _ _).block ≠ _; rw [add_block]; exact Nat.ne_of_lt (Nat.lt_of_lt_of_le (by have := World.block_lt_of_cell? _ _ hw178_0; first | rwa [add_block] at this | exact this) GW185.out)) | (dsimp only; exact Nat.ne_of_lt (Nat.lt_of_lt_of_le (by have := World.block_lt_of_cell? _ _ hw178_0; first | rwa [add_block] at this | exact this) GW185.out))) _).trans (((cell_far (p := ⟨gb185, _, none⟩) (by first | exact Nat.ne_of_lt (Nat.lt_of_lt_of_le (by have := World.block_lt_of_cell? _ _ hw178_0; first | rwa [add_block] at this | exact this) GW185.out) | (rw [add_block]; exact Nat.ne_of_lt (Nat.lt_of_lt_of_le (by have := World.block_lt_of_cell? _ _ hw178_0; first | rwa [add_block] at this | exact this) GW185.out)) | (show (Addr.add _ _).block ≠ _; rw [add_block]; exact Nat.ne_of_lt (Nat.lt_of_lt_of_le (by have := World.block_lt_of_cell? _ _ hw178_0; first | rwa [add_block] at this | exact this) GW185.out)) | (dsimp only; exact Nat.ne_of_lt (Nat.lt_of_lt_of_le (by have := World.block_lt_of_cell? _ _ hw178_0; first | rwa [add_block] at this | exact this) GW185.out))) _).trans (hHeld))))))))))))))))))))) (fun hHeld => ?_)
         clear hK K
         refine done_ (done_of HT_.out (by kernel_rfl)) ?_
         obtain ⟨i034, hi034, _, hsz34, _⟩ := info_parts info5
         obtain ⟨A34, hcut34, hA34, hC34⟩ := print_drop_of (P := Try.prog) (Value.int .u8) 0 26 5 .i64 Try.underlying26 hi034 hsz34 (some ad178) c0 l0 13 (by omega) (of_decide_eq_true (by first | (with_reducible assumption) | assumption)) HC0.out
         have HR186 := zA (Kd.C_of_reads (h1 := fun _ => rfl) (hA34 _ (Kd.reads_of_C HR0.out)))
         have HC186 := zA hC34
         clear hA34 hC34 hi034 hsz34
         go_upto_region 5 with (fail)
         go_cut [34] (fun v34 wc => ∃ (kq : Nat) (x34_15 : Bool), v34 = .bool x34_15 ∧ Aside0 (record_Read.j0 kq l0 (l0.drop 13) x34_15 t180 t182 0 0 0 0 0 ((rd l0 0) == 1) t184 = some (r1, r2, r3, r4, r5, r6, r7, r8, r9, r10, r11)) ∧ Aside0 (kq ≤ k) ∧ Aside0 (wc.heap[gb177]? = some (.cells #[.int .i64 0, .int .i64 0, .int .i64 0, .int .i64 0, .int .i64 0, .int .i64 0, .int .i64 0, .bool false, .int .i64 0, (.slice none 0 0)] 28 (0, 0))) ∧ Aside0 (wc.heap[gb185]? = some (.cells #[.int .i64 t180, .int .i64 t182, .int .i64 0, .int .i64 0, .int .i64 0, .int .i64 0, .int .i64 0, .bool ((rd l0 0) == 1), .int .i64 t184, (.slice none 0 0)] 28 (0, 0))) ∧ Aside0 (Below w.heap.size w wc))
         case first =>
          have H := HC16.out
          clear HC16
          by_cases c35 : ((rd l0 0) = 1)
          ·rw [if_pos c35] at H
           have c35b0 : ((rd l0 0) == 1) = true := beq_iff_eq.mpr c35
           have c35b1 : ((rd l0 0) != 1) = false := bne_eq_false_iff_eq.mpr c35
           clear c35
           (first | rw [c35b0] | (simp only [i64_w, i32_w]; rw [c35b0]) | skip)
           have H' := zA H
           clear H
           have hnb36 := NB185_177.out
           have hnc36 := NB177_185.out
           obtain ⟨hcz37_0, hcz37_1, hcz37_2, hcz37_3, hcz37_4, hcz37_5, hcz37_6, hcz37_7, hcz37_8, hcz37_9⟩ := bx10 BK185.out
           obtain ⟨hfz37_0, hfz37_1, hfz37_2, hfz37_3, hfz37_4, hfz37_5, hfz37_6, hfz37_7, hfz37_8, hfz37_9⟩ := fz10 BK185.out
           go_wp2
           go_meet
           case rel => exact ⟨_, (false), frs, H', ⟨by first | omega | exact Nat.le_refl _⟩, ⟨by (with_reducible repeat (first | refine blk_drewN ?_ _ | refine blk_drew ?_ | refine blk_alloc ?_ _)); refine blk_far ?_ NB177_185.out _; (with_reducible repeat (first | refine blk_drewN ?_ _ | refine blk_drew ?_ | refine blk_alloc ?_ _)); refine blk_far ?_ NB177_185.out _; (with_reducible repeat (first | refine blk_drewN ?_ _ | refine blk_drew ?_ | refine blk_alloc ?_ _)); refine blk_far ?_ NB177_185.out _; (with_reducible repeat (first | refine blk_drewN ?_ _ | refine blk_drew ?_ | refine blk_alloc ?_ _)); refine blk_far ?_ NB177_185.out _; (with_reducible repeat (first | refine blk_drewN ?_ _ | refine blk_drew ?_ | refine blk_alloc ?_ _)); refine blk_far ?_ NB177_185.out _; (with_reducible repeat (first | refine blk_drewN ?_ _ | refine blk_drew ?_ | refine blk_alloc ?_ _)); refine blk_far ?_ NB177_185.out _; (with_reducible repeat (first | refine blk_drewN ?_ _ | refine blk_drew ?_ | refine blk_alloc ?_ _)); refine blk_far ?_ NB177_185.out _; (with_reducible repeat (first | refine blk_drewN ?_ _ | refine blk_drew ?_ | refine blk_alloc ?_ _)); refine blk_far ?_ NB177_185.out _; (with_reducible repeat (first | refine blk_drewN ?_ _ | refine blk_drew ?_ | refine blk_alloc ?_ _)); refine blk_far ?_ NB177_185.out _; (with_reducible repeat (first | refine blk_drewN ?_ _ | refine blk_drew ?_ | refine blk_alloc ?_ _)); refine blk_far ?_ NB177_185.out _; (with_reducible repeat (first | refine blk_drewN ?_ _ | refine blk_drew ?_ | refine blk_alloc ?_ _)); exact BK177.out⟩, ⟨by (with_reducible repeat (first | refine blk_drewN ?_ _ | refine blk_drew ?_ | refine blk_alloc ?_ _)); refine blk_put (cs := #[.int .i64 t180, .int .i64 t182, .int .i64 0, .int .i64 0, .int .i64 0, .int .i64 0, .int .i64 0, .bool ((rd l0 0) == 1), .int .i64 t184, .slice none 0 0]) ?_ 9 _ rfl; (with_reducible repeat (first | refine blk_drewN ?_ _ | refine blk_drew ?_ | refine blk_alloc ?_ _)); refine blk_put (cs := #[.int .i64 t180, .int .i64 t182, .int .i64 0, .int .i64 0, .int .i64 0, .int .i64 0, .int .i64 0, .bool ((rd l0 0) == 1), .int .i64 0, .slice none 0 0]) ?_ 8 _ rfl; (with_reducible repeat (first | refine blk_drewN ?_ _ | refine blk_drew ?_ | refine blk_alloc ?_ _)); refine blk_put (cs := #[.int .i64 t180, .int .i64 t182, .int .i64 0, .int .i64 0, .int .i64 0, .int .i64 0, .int .i64 0, .bool false, .int .i64 0, .slice none 0 0]) ?_ 7 _ (by first | rfl | (simp only [*]; rfl) | (simp [*]; done)); (with_reducible repeat (first | refine blk_drewN ?_ _ | refine blk_drew ?_ | refine blk_alloc ?_ _)); refine blk_put (cs := #[.int .i64 t180, .int .i64 t182, .int .i64 0, .int .i64 0, .int .i64 0, .int .i64 0, .int .i64 0, .bool false, .int .i64 0, .slice none 0 0]) ?_ 6 _ rfl; (with_reducible repeat (first | refine blk_drewN ?_ _ | refine blk_drew ?_ | refine blk_alloc ?_ _)); refine blk_put (cs := #[.int .i64 t180, .int .i64 t182, .int .i64 0, .int .i64 0, .int .i64 0, .int .i64 0, .int .i64 0, .bool false, .int .i64 0, .slice none 0 0]) ?_ 5 _ rfl; (with_reducible repeat (first | refine blk_drewN ?_ _ | refine blk_drew ?_ | refine blk_alloc ?_ _)); refine blk_put (cs := #[.int .i64 t180, .int .i64 t182, .int .i64 0, .int .i64 0, .int .i64 0, .int .i64 0, .int .i64 0, .bool false, .int .i64 0, .slice none 0 0]) ?_ 4 _ rfl; (with_reducible repeat (first | refine blk_drewN ?_ _ | refine blk_drew ?_ | refine blk_alloc ?_ _)); refine blk_put (cs := #[.int .i64 t180, .int .i64 t182, .int .i64 0, .int .i64 0, .int .i64 0, .int .i64 0, .int .i64 0, .bool false, .int .i64 0, .slice none 0 0]) ?_ 3 _ rfl; (with_reducible repeat (first | refine blk_drewN ?_ _ | refine blk_drew ?_ | refine blk_alloc ?_ _)); refine blk_put (cs := #[.int .i64 t180, .int .i64 t182, .int .i64 0, .int .i64 0, .int .i64 0, .int .i64 0, .int .i64 0, .bool false, .int .i64 0, .slice none 0 0]) ?_ 2 _ rfl; (with_reducible repeat (first | refine blk_drewN ?_ _ | refine blk_drew ?_ | refine blk_alloc ?_ _)); refine blk_put (cs := #[.int .i64 t180, .int .i64 0, .int .i64 0, .int .i64 0, .int .i64 0, .int .i64 0, .int .i64 0, .bool false, .int .i64 0, .slice none 0 0]) ?_ 1 _ rfl; (with_reducible repeat (first | refine blk_drewN ?_ _ | refine blk_drew ?_ | refine blk_alloc ?_ _)); refine blk_put (cs := #[.int .i64 0, .int .i64 0, .int .i64 0, .int .i64 0, .int .i64 0, .int .i64 0, .int .i64 0, .bool false, .int .i64 0, .slice none 0 0]) ?_ 0 _ rfl; (with_reducible repeat (first | refine blk_drewN ?_ _ | refine blk_drew ?_ | refine blk_alloc ?_ _)); exact BK185.out⟩, ⟨bel⟩⟩
          ·rw [if_neg c35] at H
           have c35b0 : ((rd l0 0) == 1) = false := beq_eq_false_iff_ne.mpr c35
           have c35b1 : ((rd l0 0) != 1) = true := bne_iff_ne.mpr c35
           (first | rw [c35b0] | (simp only [i64_w, i32_w]; rw [c35b0]) | skip)
           have H' := zA H
           clear H
           have hnb38 := NB185_177.out
           have hnc38 := NB177_185.out
           obtain ⟨hcz39_0, hcz39_1, hcz39_2, hcz39_3, hcz39_4, hcz39_5, hcz39_6, hcz39_7, hcz39_8, hcz39_9⟩ := bx10 BK185.out
           obtain ⟨hfz39_0, hfz39_1, hfz39_2, hfz39_3, hfz39_4, hfz39_5, hfz39_6, hfz39_7, hfz39_8, hfz39_9⟩ := fz10 BK185.out
           go_wp2
           go_meet
           case rel => exact ⟨_, (decide (((l0.drop 13).length : Int) ≥ 11)), frs, H', ⟨by first | omega | exact Nat.le_refl _⟩, ⟨by (with_reducible repeat (first | refine blk_drewN ?_ _ | refine blk_drew ?_ | refine blk_alloc ?_ _)); refine blk_far ?_ NB177_185.out _; (with_reducible repeat (first | refine blk_drewN ?_ _ | refine blk_drew ?_ | refine blk_alloc ?_ _)); refine blk_far ?_ NB177_185.out _; (with_reducible repeat (first | refine blk_drewN ?_ _ | refine blk_drew ?_ | refine blk_alloc ?_ _)); refine blk_far ?_ NB177_185.out _; (with_reducible repeat (first | refine blk_drewN ?_ _ | refine blk_drew ?_ | refine blk_alloc ?_ _)); refine blk_far ?_ NB177_185.out _; (with_reducible repeat (first | refine blk_drewN ?_ _ | refine blk_drew ?_ | refine blk_alloc ?_ _)); refine blk_far ?_ NB177_185.out _; (with_reducible repeat (first | refine blk_drewN ?_ _ | refine blk_drew ?_ | refine blk_alloc ?_ _)); refine blk_far ?_ NB177_185.out _; (with_reducible repeat (first | refine blk_drewN ?_ _ | refine blk_drew ?_ | refine blk_alloc ?_ _)); refine blk_far ?_ NB177_185.out _; (with_reducible repeat (first | refine blk_drewN ?_ _ | refine blk_drew ?_ | refine blk_alloc ?_ _)); refine blk_far ?_ NB177_185.out _; (with_reducible repeat (first | refine blk_drewN ?_ _ | refine blk_drew ?_ | refine blk_alloc ?_ _)); refine blk_far ?_ NB177_185.out _; (with_reducible repeat (first | refine blk_drewN ?_ _ | refine blk_drew ?_ | refine blk_alloc ?_ _)); refine blk_far ?_ NB177_185.out _; (with_reducible repeat (first | refine blk_drewN ?_ _ | refine blk_drew ?_ | refine blk_alloc ?_ _)); exact BK177.out⟩, ⟨by (with_reducible repeat (first | refine blk_drewN ?_ _ | refine blk_drew ?_ | refine blk_alloc ?_ _)); refine blk_put (cs := #[.int .i64 t180, .int .i64 t182, .int .i64 0, .int .i64 0, .int .i64 0, .int .i64 0, .int .i64 0, .bool ((rd l0 0) == 1), .int .i64 t184, .slice none 0 0]) ?_ 9 _ rfl; (with_reducible repeat (first | refine blk_drewN ?_ _ | refine blk_drew ?_ | refine blk_alloc ?_ _)); refine blk_put (cs := #[.int .i64 t180, .int .i64 t182, .int .i64 0, .int .i64 0, .int .i64 0, .int .i64 0, .int .i64 0, .bool ((rd l0 0) == 1), .int .i64 0, .slice none 0 0]) ?_ 8 _ rfl; (with_reducible repeat (first | refine blk_drewN ?_ _ | refine blk_drew ?_ | refine blk_alloc ?_ _)); refine blk_put (cs := #[.int .i64 t180, .int .i64 t182, .int .i64 0, .int .i64 0, .int .i64 0, .int .i64 0, .int .i64 0, .bool false, .int .i64 0, .slice none 0 0]) ?_ 7 _ (by first | rfl | (simp only [*]; rfl) | (simp [*]; done)); (with_reducible repeat (first | refine blk_drewN ?_ _ | refine blk_drew ?_ | refine blk_alloc ?_ _)); refine blk_put (cs := #[.int .i64 t180, .int .i64 t182, .int .i64 0, .int .i64 0, .int .i64 0, .int .i64 0, .int .i64 0, .bool false, .int .i64 0, .slice none 0 0]) ?_ 6 _ rfl; (with_reducible repeat (first | refine blk_drewN ?_ _ | refine blk_drew ?_ | refine blk_alloc ?_ _)); refine blk_put (cs := #[.int .i64 t180, .int .i64 t182, .int .i64 0, .int .i64 0, .int .i64 0, .int .i64 0, .int .i64 0, .bool false, .int .i64 0, .slice none 0 0]) ?_ 5 _ rfl; (with_reducible repeat (first | refine blk_drewN ?_ _ | refine blk_drew ?_ | refine blk_alloc ?_ _)); refine blk_put (cs := #[.int .i64 t180, .int .i64 t182, .int .i64 0, .int .i64 0, .int .i64 0, .int .i64 0, .int .i64 0, .bool false, .int .i64 0, .slice none 0 0]) ?_ 4 _ rfl; (with_reducible repeat (first | refine blk_drewN ?_ _ | refine blk_drew ?_ | refine blk_alloc ?_ _)); refine blk_put (cs := #[.int .i64 t180, .int .i64 t182, .int .i64 0, .int .i64 0, .int .i64 0, .int .i64 0, .int .i64 0, .bool false, .int .i64 0, .slice none 0 0]) ?_ 3 _ rfl; (with_reducible repeat (first | refine blk_drewN ?_ _ | refine blk_drew ?_ | refine blk_alloc ?_ _)); refine blk_put (cs := #[.int .i64 t180, .int .i64 t182, .int .i64 0, .int .i64 0, .int .i64 0, .int .i64 0, .int .i64 0, .bool false, .int .i64 0, .slice none 0 0]) ?_ 2 _ rfl; (with_reducible repeat (first | refine blk_drewN ?_ _ | refine blk_drew ?_ | refine blk_alloc ?_ _)); refine blk_put (cs := #[.int .i64 t180, .int .i64 0, .int .i64 0, .int .i64 0, .int .i64 0, .int .i64 0, .int .i64 0, .bool false, .int .i64 0, .slice none 0 0]) ?_ 1 _ rfl; (with_reducible repeat (first | refine blk_drewN ?_ _ | refine blk_drew ?_ | refine blk_alloc ?_ _)); refine blk_put (cs := #[.int .i64 0, .int .i64 0, .int .i64 0, .int .i64 0, .int .i64 0, .int .i64 0, .int .i64 0, .bool false, .int .i64 0, .slice none 0 0]) ?_ 0 _ rfl; (with_reducible repeat (first | refine blk_drewN ?_ _ | refine blk_drew ?_ | refine blk_alloc ?_ _)); exact BK185.out⟩, ⟨bel⟩⟩
         case rest =>
          clear HC16
          obtain ⟨kq, x34_15, rfl, HA, HJ15, BK177, BK185, HB⟩ := hcut
          cases kq with
          | zero => exact absurd HA.out (by simp [record_Read.j0])
          | succ kj15 =>
           have H := HA.out
           clear HA
           simp only [record_Read.j0] at H
           have HC40 := zA H
           clear H
           go_upto_if 34 with (fail)
           go_cut [] (fun wc => ∃ (kq : Nat) (x186002_39 : Int) (x186003_39 : Int) (x186004_39 : Int) (x186005_39 : Int) (x186006_39 : Int) (x186009_39 : List Int) (u186009 : Value), Aside0 (record_Read.j1 kq l0 t180 t182 x186002_39 x186003_39 x186004_39 x186005_39 x186006_39 ((rd l0 0) == 1) t184 x186009_39 = some (r1, r2, r3, r4, r5, r6, r7, r8, r9, r10, r11)) ∧ Aside0 (kq ≤ kj15) ∧ Aside0 (Kd.R (Kd.int .u8) 5 wc w.heap.size (fun _ => True) u186009 x186009_39) ∧ Aside0 (wc.heap[gb177]? = some (.cells #[.int .i64 0, .int .i64 0, .int .i64 0, .int .i64 0, .int .i64 0, .int .i64 0, .int .i64 0, .bool false, .int .i64 0, (.slice none 0 0)] 28 (0, 0))) ∧ Aside0 (wc.heap[gb185]? = some (.cells #[.int .i64 t180, .int .i64 t182, .int .i64 x186002_39, .int .i64 x186003_39, .int .i64 x186004_39, .int .i64 x186005_39, .int .i64 x186006_39, .bool ((rd l0 0) == 1), .int .i64 t184, u186009] 28 (0, 0))) ∧ Aside0 (Below w.heap.size w wc))
           case first =>
            have H := HC40.out
            clear HC40
            by_cases c41 : x34_15 = true
            ·subst c41
             have H1 : (if 2 ≤ ((l0.drop 13).length : Int) then ((record_Whole.f kj15 ((l0.drop 13).take 2)).bind fun t188 => (if 2 ≤ 4 then (if 4 ≤ ((l0.drop 13).length : Int) then ((record_Whole.f kj15 (((l0.drop 13).take 4).drop 2)).bind fun t190 => (if 4 ≤ 6 then (if 6 ≤ ((l0.drop 13).length : Int) then ((record_Whole.f kj15 (((l0.drop 13).take 6).drop 4)).bind fun t192 => (if 6 ≤ 8 then (if 8 ≤ ((l0.drop 13).length : Int) then ((record_Whole.f kj15 (((l0.drop 13).take 8).drop 6)).bind fun t194 => (if 8 ≤ 11 then (if 11 ≤ ((l0.drop 13).length : Int) then ((record_Whole.f kj15 (((l0.drop 13).take 11).drop 8)).bind fun t196 => ((Cl.clone.f ((l0.drop 13).drop 11)).bind fun t198 => (record_Read.j1 kj15 l0 t180 t182 t188 t190 t192 t194 t196 ((rd l0 0) == 1) t184 t198))) else (none)) else (none))) else (none)) else (none))) else (none)) else (none))) else (none)) else (none))) else (none)) = some (r1, r2, r3, r4, r5, r6, r7, r8, r9, r10, r11) := by rw [if_pos rfl] at H; exact H
             clear H
             have H := H1
             clear H1
             by_cases c42 : 2 ≤ ((l0.drop 13).length : Int)
             ·rw [if_pos c42] at H
              have c42b0 := eq_true c42
              have c42b1 : decide (2 ≤ ((l0.drop 13).length : Int)) = true := decide_eq_true c42
              clear c42
              replace H := Option.bind_eq_some_iff.mp H
              obtain ⟨t188, A430, H⟩ := H
              replace H : (if 2 ≤ 4 then (if 4 ≤ ((l0.drop 13).length : Int) then ((record_Whole.f kj15 (((l0.drop 13).take 4).drop 2)).bind fun t190 => (if 4 ≤ 6 then (if 6 ≤ ((l0.drop 13).length : Int) then ((record_Whole.f kj15 (((l0.drop 13).take 6).drop 4)).bind fun t192 => (if 6 ≤ 8 then (if 8 ≤ ((l0.drop 13).length : Int) then ((record_Whole.f kj15 (((l0.drop 13).take 8).drop 6)).bind fun t194 => (if 8 ≤ 11 then (if 11 ≤ ((l0.drop 13).length : Int) then ((record_Whole.f kj15 (((l0.drop 13).take 11).drop 8)).bind fun t196 => ((Cl.clone.f ((l0.drop 13).drop 11)).bind fun t198 => (record_Read.j1 kj15 l0 t180 t182 t188 t190 t192 t194 t196 ((rd l0 0) == 1) t184 t198))) else (none)) else (none))) else (none)) else (none))) else (none)) else (none))) else (none)) else (none)) = some (r1, r2, r3, r4, r5, r6, r7, r8, r9, r10, r11) := H
              have A43 := zA A430
              clear A430
              by_cases c44 : 2 ≤ 4
              ·rw [if_pos c44] at H
               have c44b0 := eq_true c44
               have c44b1 : decide (2 ≤ 4) = true := decide_eq_true c44
               clear c44
               by_cases c45 : 4 ≤ ((l0.drop 13).length : Int)
               ·rw [if_pos c45] at H
                have c45b0 := eq_true c45
                have c45b1 : decide (4 ≤ ((l0.drop 13).length : Int)) = true := decide_eq_true c45
                clear c45
                replace H := Option.bind_eq_some_iff.mp H
                obtain ⟨t190, A460, H⟩ := H
                replace H : (if 4 ≤ 6 then (if 6 ≤ ((l0.drop 13).length : Int) then ((record_Whole.f kj15 (((l0.drop 13).take 6).drop 4)).bind fun t192 => (if 6 ≤ 8 then (if 8 ≤ ((l0.drop 13).length : Int) then ((record_Whole.f kj15 (((l0.drop 13).take 8).drop 6)).bind fun t194 => (if 8 ≤ 11 then (if 11 ≤ ((l0.drop 13).length : Int) then ((record_Whole.f kj15 (((l0.drop 13).take 11).drop 8)).bind fun t196 => ((Cl.clone.f ((l0.drop 13).drop 11)).bind fun t198 => (record_Read.j1 kj15 l0 t180 t182 t188 t190 t192 t194 t196 ((rd l0 0) == 1) t184 t198))) else (none)) else (none))) else (none)) else (none))) else (none)) else (none)) = some (r1, r2, r3, r4, r5, r6, r7, r8, r9, r10, r11) := H
                have A46 := zA A460
                clear A460
                by_cases c47 : 4 ≤ 6
                ·rw [if_pos c47] at H
                 have c47b0 := eq_true c47
                 have c47b1 : decide (4 ≤ 6) = true := decide_eq_true c47
                 clear c47
                 by_cases c48 : 6 ≤ ((l0.drop 13).length : Int)
                 ·rw [if_pos c48] at H
                  have c48b0 := eq_true c48
                  have c48b1 : decide (6 ≤ ((l0.drop 13).length : Int)) = true := decide_eq_true c48
                  clear c48
                  replace H := Option.bind_eq_some_iff.mp H
                  obtain ⟨t192, A490, H⟩ := H
                  replace H : (if 6 ≤ 8 then (if 8 ≤ ((l0.drop 13).length : Int) then ((record_Whole.f kj15 (((l0.drop 13).take 8).drop 6)).bind fun t194 => (if 8 ≤ 11 then (if 11 ≤ ((l0.drop 13).length : Int) then ((record_Whole.f kj15 (((l0.drop 13).take 11).drop 8)).bind fun t196 => ((Cl.clone.f ((l0.drop 13).drop 11)).bind fun t198 => (record_Read.j1 kj15 l0 t180 t182 t188 t190 t192 t194 t196 ((rd l0 0) == 1) t184 t198))) else (none)) else (none))) else (none)) else (none)) = some (r1, r2, r3, r4, r5, r6, r7, r8, r9, r10, r11) := H
                  have A49 := zA A490
                  clear A490
                  by_cases c50 : 6 ≤ 8
                  ·rw [if_pos c50] at H
                   have c50b0 := eq_true c50
                   have c50b1 : decide (6 ≤ 8) = true := decide_eq_true c50
                   clear c50
                   by_cases c51 : 8 ≤ ((l0.drop 13).length : Int)
                   ·rw [if_pos c51] at H
                    have c51b0 := eq_true c51
                    have c51b1 : decide (8 ≤ ((l0.drop 13).length : Int)) = true := decide_eq_true c51
                    clear c51
                    replace H := Option.bind_eq_some_iff.mp H
                    obtain ⟨t194, A520, H⟩ := H
                    replace H : (if 8 ≤ 11 then (if 11 ≤ ((l0.drop 13).length : Int) then ((record_Whole.f kj15 (((l0.drop 13).take 11).drop 8)).bind fun t196 => ((Cl.clone.f ((l0.drop 13).drop 11)).bind fun t198 => (record_Read.j1 kj15 l0 t180 t182 t188 t190 t192 t194 t196 ((rd l0 0) == 1) t184 t198))) else (none)) else (none)) = some (r1, r2, r3, r4, r5, r6, r7, r8, r9, r10, r11) := H
                    have A52 := zA A520
                    clear A520
                    by_cases c53 : 8 ≤ 11
                    ·rw [if_pos c53] at H
                     have c53b0 := eq_true c53
                     have c53b1 : decide (8 ≤ 11) = true := decide_eq_true c53
                     clear c53
                     by_cases c54 : 11 ≤ ((l0.drop 13).length : Int)
                     ·rw [if_pos c54] at H
                      have c54b0 := eq_true c54
                      have c54b1 : decide (11 ≤ ((l0.drop 13).length : Int)) = true := decide_eq_true c54
                      clear c54
                      replace H := Option.bind_eq_some_iff.mp H
                      obtain ⟨t196, A550, H⟩ := H
                      replace H : ((Cl.clone.f ((l0.drop 13).drop 11)).bind fun t198 => (record_Read.j1 kj15 l0 t180 t182 t188 t190 t192 t194 t196 ((rd l0 0) == 1) t184 t198)) = some (r1, r2, r3, r4, r5, r6, r7, r8, r9, r10, r11) := H
                      have A55 := zA A550
                      clear A550
                      have c56b0 := eq_true (of_decide_eq_true (by first | (with_reducible assumption) | assumption) : 11 ≤ ((l0.drop 13).length : Int))
                      replace H := Option.bind_eq_some_iff.mp H
                      obtain ⟨t198, A570, H⟩ := H
                      replace H : (record_Read.j1 kj15 l0 t180 t182 t188 t190 t192 t194 t196 ((rd l0 0) == 1) t184 t198) = some (r1, r2, r3, r4, r5, r6, r7, r8, r9, r10, r11) := H
                      have A57 := zA A570
                      clear A570
                      have H' := zA H
                      clear H
                      try go_wp2
                      replace BK177 := zA (blk_drew BK177.out)
                      replace BK185 := zA (blk_drew BK185.out)
                      replace HB := zA (below_drew1 HB.out)
                      obtain ⟨i059, hi059, _, hsz59, _⟩ := info_parts info5
                      obtain ⟨hcut59, hA59, hC59⟩ := print_take_of (P := Try.prog) (Value.int .u8) 0 26 5 .i64 Try.underlying26 hi059 hsz59 A34 (c0 - 13) (l0.drop 13) 2 (by omega) (of_decide_eq_true (by first | (with_reducible assumption) | assumption)) HC186.out
                      have HR187 := zA (Kd.C_of_reads (h1 := fun _ => rfl) (hA59 _ (Kd.reads_of_C HR186.out)))
                      have HC187 := zA hC59
                      clear hA59 hC59 hi059 hsz59
                      obtain ⟨i060, hi060, _, hsz60, _⟩ := info_parts info5
                      obtain ⟨A60, hcut60, hA60, hC60⟩ := print_mid_of (P := Try.prog) (Value.int .u8) 0 26 5 .i64 .i64 Try.underlying26 hi060 hsz60 A34 (c0 - 13) (l0.drop 13) 2 4 (by omega) (by first | omega | exact of_decide_eq_true (by first | (with_reducible assumption) | assumption)) (of_decide_eq_true (by first | (with_reducible assumption) | assumption)) HC186.out
                      have HR189 := zA (Kd.C_of_reads (h1 := fun _ => rfl) (hA60 _ (Kd.reads_of_C HR186.out)))
                      have HC189 := zA hC60
                      clear hA60 hC60 hi060 hsz60
                      obtain ⟨i061, hi061, _, hsz61, _⟩ := info_parts info5
                      obtain ⟨A61, hcut61, hA61, hC61⟩ := print_mid_of (P := Try.prog) (Value.int .u8) 0 26 5 .i64 .i64 Try.underlying26 hi061 hsz61 A34 (c0 - 13) (l0.drop 13) 4 6 (by omega) (by first | omega | exact of_decide_eq_true (by first | (with_reducible assumption) | assumption)) (of_decide_eq_true (by first | (with_reducible assumption) | assumption)) HC186.out
                      have HR191 := zA (Kd.C_of_reads (h1 := fun _ => rfl) (hA61 _ (Kd.reads_of_C HR186.out)))
                      have HC191 := zA hC61
                      clear hA61 hC61 hi061 hsz61
                      simp only [List.length_drop] at hcut59 hcut60 hcut61
                      refine start_ (n := 12) (S := fun w' => True) (ds := []) (ms 12 0) (by kernel_rfl) rfl rfl trivial (fun hHeld => ?_); refine with_tabW record_Read.tab6 record_Read.bits6 (fun HT_ HW_ => ?_)
                      generalize wc.drew = w58 at BK177 BK185 HB HR187 HR189 HR191 hHeld ⊢
                      refine run_ [(0, false, some 35), (1, false, some 36), (3, false, some 38), (4, false, some 39), (6, false, some 41), (7, false, some 42)] (n := 6) (ms 12 219) rfl HT_.out HW_.out (by kernel_rfl) (fun _ _ _ _ h => h) hHeld ?_
                      repeat (refine Run.p (v := ?_) (a' := ?_) rfl rfl (Or.inl ⟨by rfl, ?_⟩) ?_ ?_; rotate_left; (focus intro w'; go_simp; with_reducible rfl); rotate_left; (focus simp only [Act.put, sx]; rfl))
                      refine Run.nil ?_
                      refine one_ (i := 2) (N := some 37) (ms 12 223) rfl rfl (one_of HT_.out (by kernel_rfl)) (by decide) (fun K hK => ?_)
                      refine goes_ Try.func31 (by kernel_rfl) rfl #[.slice A34 ((l0.drop 13).take 2).length (c0 - 13)] (by rfl) rfl rfl (by (try simp only [List.map_toArray, List.map_cons, List.map_nil]); first | done | (rw [show ((l0.drop 13).take 2).length = 2 from (by rw [List.length_take]; have h_ : (2 : Int) ≤ ((l0.drop 13).length : Int) := of_decide_eq_true (by first | (with_reducible assumption) | assumption); omega)] <;> rfl) | rfl | (simp only [List.length_drop, List.length_take]; rfl)) ?_
                      with_reducible refine (record_Whole.calls kj15 _ _ ((l0.drop 13).take 2) t188 _ ?side1 ?side2 A43.out).mono ?_
                      (case side1 => repeat (first | exact (Kd.C_below HR187.out HB.out) | (with_reducible refine Kd.C_alloc ?_ _) | (with_reducible refine Kd.C_drewN ?_ _) | (with_reducible refine Kd.C_drew ?_)))
                      (case side2 => exact HC187.out)
                      rintro e w' ⟨rfl, ⟨nd, rfl⟩⟩
                      refine ⟨_, rfl, ?_⟩
                      refine hK.out _ _ trivial (fun hHeld => ?_)
                      clear hK K
                      refine norm_ (a' := ?_) ?_ ?_
                      rotate_left
                      ·show Act.put _ (some 37) _ = _
                       simp only [Act.put, sx]
                       rfl
                      refine one_ (i := 5) (N := some 40) (ms 12 255) rfl rfl (one_of HT_.out (by kernel_rfl)) (by decide) (fun K hK => ?_)
                      refine goes_ Try.func31 (by kernel_rfl) rfl #[.slice A60 (((l0.drop 13).take 4).drop 2).length ((c0 - 13) - 2)] (by rfl) rfl rfl (by (try simp only [List.map_toArray, List.map_cons, List.map_nil]); first | done | (rw [show (((l0.drop 13).take 4).drop 2).length = (4 - 2) from (by rw [List.length_drop, List.length_take]; have h_ : (4 : Int) ≤ ((l0.drop 13).length : Int) := of_decide_eq_true (by first | (with_reducible assumption) | assumption); omega)] <;> rfl) | rfl | (simp only [List.length_drop, List.length_take]; rfl)) ?_
                      with_reducible refine (record_Whole.calls kj15 _ _ (((l0.drop 13).take 4).drop 2) t190 _ ?side1 ?side2 A46.out).mono ?_
                      (case side1 => repeat (first | exact (Kd.C_below HR189.out bel) | (with_reducible refine Kd.C_alloc ?_ _) | (with_reducible refine Kd.C_drewN ?_ _) | (with_reducible refine Kd.C_drew ?_)))
                      (case side2 => exact HC189.out)
                      rintro e w' ⟨rfl, ⟨nd, rfl⟩⟩
                      refine ⟨_, rfl, ?_⟩
                      refine hK.out _ _ trivial (fun hHeld => ?_)
                      clear hK K
                      refine norm_ (a' := ?_) ?_ ?_
                      rotate_left
                      ·show Act.put _ (some 40) _ = _
                       simp only [Act.put, sx]
                       rfl
                      refine one_ (i := 8) (N := some 43) (ms 12 511) rfl rfl (one_of HT_.out (by kernel_rfl)) (by decide) (fun K hK => ?_)
                      refine goes_ Try.func31 (by kernel_rfl) rfl #[.slice A61 (((l0.drop 13).take 6).drop 4).length ((c0 - 13) - 4)] (by rfl) rfl rfl (by (try simp only [List.map_toArray, List.map_cons, List.map_nil]); first | done | (rw [show (((l0.drop 13).take 6).drop 4).length = (6 - 4) from (by rw [List.length_drop, List.length_take]; have h_ : (6 : Int) ≤ ((l0.drop 13).length : Int) := of_decide_eq_true (by first | (with_reducible assumption) | assumption); omega)] <;> rfl) | rfl | (simp only [List.length_drop, List.length_take]; rfl)) ?_
                      with_reducible refine (record_Whole.calls kj15 _ _ (((l0.drop 13).take 6).drop 4) t192 _ ?side1 ?side2 A49.out).mono ?_
                      (case side1 => repeat (first | exact (Kd.C_below HR191.out bel) | (with_reducible refine Kd.C_alloc ?_ _) | (with_reducible refine Kd.C_drewN ?_ _) | (with_reducible refine Kd.C_drew ?_)))
                      (case side2 => exact HC191.out)
                      rintro e w' ⟨rfl, ⟨nd, rfl⟩⟩
                      refine ⟨_, rfl, ?_⟩
                      refine hK.out _ _ trivial (fun hHeld => ?_)
                      clear hK K
                      refine norm_ (a' := ?_) ?_ ?_
                      rotate_left
                      ·show Act.put _ (some 43) _ = _
                       simp only [Act.put, sx]
                       rfl
                      refine run_ [(9, false, some 44), (10, false, some 45)] (n := 2) (ms 12 2047) rfl HT_.out HW_.out (by kernel_rfl) (fun _ _ _ _ h => h) hHeld ?_
                      repeat (refine Run.p (v := ?_) (a' := ?_) rfl rfl (Or.inl ⟨by rfl, ?_⟩) ?_ ?_; rotate_left; (focus intro w'; go_simp; with_reducible rfl); rotate_left; (focus simp only [Act.put, sx]; rfl))
                      refine Run.nil ?_
                      refine one_ (i := 11) (N := none) (ms 12 4095) rfl rfl (one_of HT_.out (by kernel_rfl)) (by decide) (fun K hK => ?_)
                      have hs62 : w58.cell? ⟨gb185, 2, none⟩ = some (.int .i64 0) := (blk_cell BK185.out 2).trans rfl
                      have hfs62 := blk_frozen BK185.out 2
                      have hns62_0 := NB177_185.out
                      have hms62_0 := NB185_177.out
                      have hs63 : w58.cell? ⟨gb185, 3, none⟩ = some (.int .i64 0) := (blk_cell BK185.out 3).trans rfl
                      have hfs63 := blk_frozen BK185.out 3
                      have hns63_0 := NB177_185.out
                      have hms63_0 := NB185_177.out
                      have hs64 : w58.cell? ⟨gb185, 4, none⟩ = some (.int .i64 0) := (blk_cell BK185.out 4).trans rfl
                      have hfs64 := blk_frozen BK185.out 4
                      have hns64_0 := NB177_185.out
                      have hms64_0 := NB185_177.out
                      refine skip_ (w1 := ?_) (by rfl) rfl ?_ ?_
                      rotate_left
                      ·go_simp
                       rfl
                      refine hK.out _ _ trivial (fun hHeld => ?_)
                      clear hK K
                      refine done_ (done_of HT_.out (by kernel_rfl)) ?_
                      try go_wp2
                      generalize hq_ : World.drewN w58 _ = w58b
                      obtain ⟨nq_, hq2_⟩ : ∃ n_, World.drewN w58 n_ = w58b := ⟨_, hq_⟩
                      replace BK177 := zA (blk_drewN BK177.out nq_)
                      replace BK185 := zA (blk_drewN BK185.out nq_)
                      replace HB := zA (pw_below_drewN HB.out nq_)
                      rw [hq2_] at BK177 BK185 HB
                      clear hq_ hq2_
                      have n0_ : Aside0 ((((w58b.setCell ⟨gb185, 2, none⟩ (.int .i64 t188)).setCell ⟨gb185, 3, none⟩ (.int .i64 t190)).setCell ⟨gb185, 4, none⟩ (.int .i64 t192)).heap[gb177]? = some (.cells #[.int .i64 0, .int .i64 0, .int .i64 0, .int .i64 0, .int .i64 0, .int .i64 0, .int .i64 0, .bool false, .int .i64 0, .slice none 0 0] 28 (0, 0))) := ⟨by (with_reducible repeat (first | refine blk_drewN ?_ _ | refine blk_drew ?_ | refine blk_alloc ?_ _)); refine blk_far ?_ NB177_185.out _; (with_reducible repeat (first | refine blk_drewN ?_ _ | refine blk_drew ?_ | refine blk_alloc ?_ _)); refine blk_far ?_ NB177_185.out _; (with_reducible repeat (first | refine blk_drewN ?_ _ | refine blk_drew ?_ | refine blk_alloc ?_ _)); refine blk_far ?_ NB177_185.out _; (with_reducible repeat (first | refine blk_drewN ?_ _ | refine blk_drew ?_ | refine blk_alloc ?_ _)); exact BK177.out⟩
                      have n1_ : Aside0 ((((w58b.setCell ⟨gb185, 2, none⟩ (.int .i64 t188)).setCell ⟨gb185, 3, none⟩ (.int .i64 t190)).setCell ⟨gb185, 4, none⟩ (.int .i64 t192)).heap[gb185]? = some (.cells #[.int .i64 t180, .int .i64 t182, .int .i64 t188, .int .i64 t190, .int .i64 t192, .int .i64 0, .int .i64 0, .bool ((rd l0 0) == 1), .int .i64 t184, .slice none 0 0] 28 (0, 0))) := ⟨by (with_reducible repeat (first | refine blk_drewN ?_ _ | refine blk_drew ?_ | refine blk_alloc ?_ _)); refine blk_put (cs := #[.int .i64 t180, .int .i64 t182, .int .i64 t188, .int .i64 t190, .int .i64 0, .int .i64 0, .int .i64 0, .bool ((rd l0 0) == 1), .int .i64 t184, .slice none 0 0]) ?_ 4 _ rfl; (with_reducible repeat (first | refine blk_drewN ?_ _ | refine blk_drew ?_ | refine blk_alloc ?_ _)); refine blk_put (cs := #[.int .i64 t180, .int .i64 t182, .int .i64 t188, .int .i64 0, .int .i64 0, .int .i64 0, .int .i64 0, .bool ((rd l0 0) == 1), .int .i64 t184, .slice none 0 0]) ?_ 3 _ rfl; (with_reducible repeat (first | refine blk_drewN ?_ _ | refine blk_drew ?_ | refine blk_alloc ?_ _)); refine blk_put (cs := #[.int .i64 t180, .int .i64 t182, .int .i64 0, .int .i64 0, .int .i64 0, .int .i64 0, .int .i64 0, .bool ((rd l0 0) == 1), .int .i64 t184, .slice none 0 0]) ?_ 2 _ rfl; (with_reducible repeat (first | refine blk_drewN ?_ _ | refine blk_drew ?_ | refine blk_alloc ?_ _)); exact BK185.out⟩
                      have n2_ : Aside0 (Below w.heap.size w (((w58b.setCell ⟨gb185, 2, none⟩ (.int .i64 t188)).setCell ⟨gb185, 3, none⟩ (.int .i64 t190)).setCell ⟨gb185, 4, none⟩ (.int .i64 t192))) := ⟨bel⟩
                      (try clear BK177)
                      (try clear BK185)
                      (try clear HB)
                      generalize (((w58b.setCell ⟨gb185, 2, none⟩ (.int .i64 t188)).setCell ⟨gb185, 3, none⟩ (.int .i64 t190)).setCell ⟨gb185, 4, none⟩ (.int .i64 t192)) = w65 at n0_ n1_ n2_ ⊢
                      have BK177 := n0_
                      have BK185 := n1_
                      have HB := n2_
                      clear n0_ n1_ n2_
                      (try (rw [drewN_self w65]; generalize hq_ : World.drewN w65 _ = w65; have n0_ : Aside0 (w65.heap[gb177]? = some (.cells #[.int .i64 0, .int .i64 0, .int .i64 0, .int .i64 0, .int .i64 0, .int .i64 0, .int .i64 0, .bool false, .int .i64 0, .slice none 0 0] 28 (0, 0))) := ⟨by rw [← hq_]; exact (blk_g BK177.out)⟩; have n1_ : Aside0 (w65.heap[gb185]? = some (.cells #[.int .i64 t180, .int .i64 t182, .int .i64 t188, .int .i64 t190, .int .i64 t192, .int .i64 0, .int .i64 0, .bool ((rd l0 0) == 1), .int .i64 t184, .slice none 0 0] 28 (0, 0))) := ⟨by rw [← hq_]; exact (blk_g BK185.out)⟩; have n2_ : Aside0 (Below w.heap.size w w65) := ⟨by rw [← hq_]; exact bel⟩; clear BK177 BK185 HB hq_; have BK177 := n0_; have BK185 := n1_; have HB := n2_; clear n0_ n1_ n2_))
                      replace BK177 := zA (blk_drew BK177.out)
                      replace BK185 := zA (blk_drew BK185.out)
                      replace HB := zA (below_drew1 HB.out)
                      obtain ⟨i067, hi067, _, hsz67, _⟩ := info_parts info5
                      obtain ⟨A67, hcut67, hA67, hC67⟩ := print_mid_of (P := Try.prog) (Value.int .u8) 0 26 5 .i64 .i64 Try.underlying26 hi067 hsz67 A34 (c0 - 13) (l0.drop 13) 6 8 (by omega) (by first | omega | exact of_decide_eq_true (by first | (with_reducible assumption) | assumption)) (of_decide_eq_true (by first | (with_reducible assumption) | assumption)) HC186.out
                      have HR193 := zA (Kd.C_of_reads (h1 := fun _ => rfl) (hA67 _ (Kd.reads_of_C HR186.out)))
                      have HC193 := zA hC67
                      clear hA67 hC67 hi067 hsz67
                      obtain ⟨i068, hi068, _, hsz68, _⟩ := info_parts info5
                      obtain ⟨A68, hcut68, hA68, hC68⟩ := print_mid_of (P := Try.prog) (Value.int .u8) 0 26 5 .i64 .i64 Try.underlying26 hi068 hsz68 A34 (c0 - 13) (l0.drop 13) 8 11 (by omega) (by first | omega | exact of_decide_eq_true (by first | (with_reducible assumption) | assumption)) (of_decide_eq_true (by first | (with_reducible assumption) | assumption)) HC186.out
                      have HR195 := zA (Kd.C_of_reads (h1 := fun _ => rfl) (hA68 _ (Kd.reads_of_C HR186.out)))
                      have HC195 := zA hC68
                      clear hA68 hC68 hi068 hsz68
                      obtain ⟨i069, hi069, _, hsz69, _⟩ := info_parts info5
                      obtain ⟨A69, hcut69, hA69, hC69⟩ := print_drop_of (P := Try.prog) (Value.int .u8) 0 26 5 .i64 Try.underlying26 hi069 hsz69 A34 (c0 - 13) (l0.drop 13) 11 (by omega) (of_decide_eq_true (by first | (with_reducible assumption) | assumption)) HC186.out
                      have HR197 := zA (Kd.C_of_reads (h1 := fun _ => rfl) (hA69 _ (Kd.reads_of_C HR186.out)))
                      have HC197 := zA hC69
                      clear hA69 hC69 hi069 hsz69
                      simp only [List.length_drop] at hcut67 hcut68 hcut69
                      refine start_ (n := 15) (S := fun w' => True) (ds := []) (ms 15 0) (by kernel_rfl) rfl rfl trivial (fun hHeld => ?_); refine with_tabW record_Read.tab7 record_Read.bits7 (fun HT_ HW_ => ?_)
                      generalize w65.drew = w66 at BK177 BK185 HB HR193 HR195 HR197 hHeld ⊢
                      refine run_ [(0, false, some 46), (1, false, some 47), (3, false, some 49), (4, false, some 50), (6, false, some 52), (7, false, some 53)] (n := 6) (ms 15 219) rfl HT_.out HW_.out (by kernel_rfl) (fun _ _ _ _ h => h) hHeld ?_
                      repeat (refine Run.p (v := ?_) (a' := ?_) rfl rfl (Or.inl ⟨by rfl, ?_⟩) ?_ ?_; rotate_left; (focus intro w'; go_simp; with_reducible rfl); rotate_left; (focus simp only [Act.put, sx]; rfl))
                      refine Run.nil ?_
                      refine one_ (i := 2) (N := some 48) (ms 15 223) rfl rfl (one_of HT_.out (by kernel_rfl)) (by decide) (fun K hK => ?_)
                      refine goes_ Try.func31 (by kernel_rfl) rfl #[.slice A67 (((l0.drop 13).take 8).drop 6).length ((c0 - 13) - 6)] (by rfl) rfl rfl (by (try simp only [List.map_toArray, List.map_cons, List.map_nil]); first | done | (rw [show (((l0.drop 13).take 8).drop 6).length = (8 - 6) from (by rw [List.length_drop, List.length_take]; have h_ : (8 : Int) ≤ ((l0.drop 13).length : Int) := of_decide_eq_true (by first | (with_reducible assumption) | assumption); omega)] <;> rfl) | rfl | (simp only [List.length_drop, List.length_take]; rfl)) ?_
                      with_reducible refine (record_Whole.calls kj15 _ _ (((l0.drop 13).take 8).drop 6) t194 _ ?side1 ?side2 A52.out).mono ?_
                      (case side1 => repeat (first | exact (Kd.C_below HR193.out HB.out) | (with_reducible refine Kd.C_alloc ?_ _) | (with_reducible refine Kd.C_drewN ?_ _) | (with_reducible refine Kd.C_drew ?_)))
                      (case side2 => exact HC193.out)
                      rintro e w' ⟨rfl, ⟨nd, rfl⟩⟩
                      refine ⟨_, rfl, ?_⟩
                      refine hK.out _ _ trivial (fun hHeld => ?_)
                      clear hK K
                      refine norm_ (a' := ?_) ?_ ?_
                      rotate_left
                      ·show Act.put _ (some 48) _ = _
                       simp only [Act.put, sx]
                       rfl
                      refine pure_ (i := 9) (N := some 55) (v := ?_) (a' := ?_) (ms 15 735) rfl rfl (any_of HT_.out (by kernel_rfl)) (fun _ _ _ h => h) (Or.inl ⟨by rfl, ?_⟩) ?_ ?_
                      rotate_left
                      ·intro w'
                       go_simp
                       with_reducible rfl
                      rotate_left
                      ·simp only [Act.put, sx]
                       rfl
                      refine one_ (i := 5) (N := some 51) (ms 15 767) rfl rfl (one_of HT_.out (by kernel_rfl)) (by decide) (fun K hK => ?_)
                      refine goes_ Try.func31 (by kernel_rfl) rfl #[.slice A68 (((l0.drop 13).take 11).drop 8).length ((c0 - 13) - 8)] (by rfl) rfl rfl (by (try simp only [List.map_toArray, List.map_cons, List.map_nil]); first | done | (rw [show (((l0.drop 13).take 11).drop 8).length = (11 - 8) from (by rw [List.length_drop, List.length_take]; have h_ : (11 : Int) ≤ ((l0.drop 13).length : Int) := of_decide_eq_true (by first | (with_reducible assumption) | assumption); omega)] <;> rfl) | rfl | (simp only [List.length_drop, List.length_take]; rfl)) ?_
                      with_reducible refine (record_Whole.calls kj15 _ _ (((l0.drop 13).take 11).drop 8) t196 _ ?side1 ?side2 A55.out).mono ?_
                      (case side1 => repeat (first | exact (Kd.C_below HR195.out bel) | (with_reducible refine Kd.C_alloc ?_ _) | (with_reducible refine Kd.C_drewN ?_ _) | (with_reducible refine Kd.C_drew ?_)))
                      (case side2 => exact HC195.out)
                      rintro e w' ⟨rfl, ⟨nd, rfl⟩⟩
                      refine ⟨_, rfl, ?_⟩
                      refine hK.out _ _ trivial (fun hHeld => ?_)
                      clear hK K
                      refine norm_ (a' := ?_) ?_ ?_
                      rotate_left
                      ·show Act.put _ (some 51) _ = _
                       simp only [Act.put, sx]
                       rfl
                      refine one_ (i := 8) (N := some 54) (ms 15 1023) rfl rfl (one_of HT_.out (by kernel_rfl)) (by decide) (fun K hK => ?_)
                      refine goes_ Try.func32 (by kernel_rfl) rfl #[.slice A69 ((l0.drop 13).drop 11).length ((c0 - 13) - 11)] (by rfl) rfl rfl (by (try simp only [List.map_toArray, List.map_cons, List.map_nil]); first | done | (rw [show ((l0.drop 13).drop 11).length = ((l0.drop 13).length - 11) from List.length_drop] <;> rfl) | rfl | (simp only [List.length_drop, List.length_take]; rfl)) ?_
                      with_reducible refine (Cl.clone.calls _ _ ((l0.drop 13).drop 11) t198 _ ?side1 ?side2 A57.out).mono ?_
                      (case side1 => repeat (first | exact (Kd.C_below HR197.out bel) | (with_reducible refine Kd.C_alloc ?_ _) | (with_reducible refine Kd.C_drewN ?_ _) | (with_reducible refine Kd.C_drew ?_)))
                      (case side2 => exact HC197.out)
                      rintro e w70 ⟨v199, rfl, ho0, hb⟩
                      refine ⟨_, rfl, ?_⟩
                      have HO200 := zA (Kd.R_lower ho0 bels)
                      replace BK177 := zA (blk_below (g := gb177) (o := .cells #[.int .i64 0, .int .i64 0, .int .i64 0, .int .i64 0, .int .i64 0, .int .i64 0, .int .i64 0, .bool false, .int .i64 0, .slice none 0 0] 28 (0, 0)) (blk_g BK177.out) hb)
                      replace BK185 := zA (blk_below (g := gb185) (o := .cells #[.int .i64 t180, .int .i64 t182, .int .i64 t188, .int .i64 t190, .int .i64 t192, .int .i64 0, .int .i64 0, .bool ((rd l0 0) == 1), .int .i64 t184, .slice none 0 0] 28 (0, 0)) (blk_g BK185.out) hb)
                      replace HB := zA (belt hb)
                      (try clear hb)
                      (try clear hb2)
                      (try clear hk)
                      (try clear hi)
                      (try clear ho0)
                      obtain ⟨Ao73, co73, eo73⟩ := Kd.R_slice HO200.out
                      (first | subst eo73 | (injection eo73 with f1_ f2_ f3_; have f4_ := f1_.symm; have f5_ := f3_.symm; clear f1_ f2_ f3_; subst f4_; subst f5_))
                      refine hK.out _ _ trivial (fun hHeld => ?_)
                      clear hK K
                      refine norm_ (a' := ?_) ?_ ?_
                      rotate_left
                      ·show Act.put _ (some 54) _ = _
                       simp only [Act.put, sx]
                       rfl
                      refine one_ (i := 10) (N := none) (ms 15 2047) rfl rfl (one_of HT_.out (by kernel_rfl)) (by decide) (fun K hK => ?_)
                      have hs71 : w70.cell? ⟨gb185, 5, none⟩ = some (.int .i64 0) := (blk_cell BK185.out 5).trans rfl
                      have hfs71 := blk_frozen BK185.out 5
                      have hns71_0 := NB177_185.out
                      have hms71_0 := NB185_177.out
                      refine skip_ (w1 := ?_) (by rfl) rfl ?_ ?_
                      rotate_left
                      ·go_simp
                       rfl
                      refine hK.out _ _ trivial (fun hHeld => ?_)
                      clear hK K
                      refine pure_ (i := 11) (N := some 56) (v := ?_) (a' := ?_) (ms 15 4095) rfl rfl (any_of HT_.out (by kernel_rfl)) (fun _ _ _ h => h) (Or.inl ⟨by rfl, ?_⟩) ?_ ?_
                      rotate_left
                      ·intro w'
                       go_simp
                       with_reducible rfl
                      rotate_left
                      ·simp only [Act.put, sx]
                       rfl
                      refine one_ (i := 12) (N := none) (ms 15 8191) rfl rfl (one_of HT_.out (by kernel_rfl)) (by decide) (fun K hK => ?_)
                      have hs72 : w70.cell? ⟨gb185, 6, none⟩ = some (.int .i64 0) := (blk_cell BK185.out 6).trans rfl
                      have hfs72 := blk_frozen BK185.out 6
                      have hns72_0 := NB177_185.out
                      have hms72_0 := NB185_177.out
                      refine skip_ (w1 := ?_) (by rfl) rfl ?_ ?_
                      rotate_left
                      ·go_simp
                       rfl
                      refine hK.out _ _ trivial (fun hHeld => ?_)
                      clear hK K
                      refine pure_ (i := 13) (N := some 57) (v := ?_) (a' := ?_) (ms 15 16383) rfl rfl (any_of HT_.out (by kernel_rfl)) (fun _ _ _ h => h) (Or.inl ⟨by rfl, ?_⟩) ?_ ?_
                      rotate_left
                      ·intro w'
                       go_simp
                       with_reducible rfl
                      rotate_left
                      ·simp only [Act.put, sx]
                       rfl
                      refine one_ (i := 14) (N := none) (ms 15 32767) rfl rfl (one_of HT_.out (by kernel_rfl)) (by decide) (fun K hK => ?_)
                      have hs74 : w70.cell? ⟨gb185, 9, none⟩ = some (.slice none 0 0) := (blk_cell BK185.out 9).trans rfl
                      have hfs74 := blk_frozen BK185.out 9
                      have hns74_0 := NB177_185.out
                      have hms74_0 := NB185_177.out
                      refine skip_ (w1 := ?_) (by rfl) rfl ?_ ?_
                      rotate_left
                      ·go_simp
                       rfl
                      refine hK.out _ _ trivial (fun hHeld => ?_)
                      clear hK K
                      refine done_ (done_of HT_.out (by kernel_rfl)) ?_
                      try go_wp2
                      go_meet
                      case rel => exact ⟨_, (t188), (t190), (t192), (t194), (t196), (t198), (.slice Ao73 t198.length co73), H', ⟨by have := HJ15.out; first | omega | exact Nat.le_refl _⟩, ⟨by (with_reducible repeat (first | apply Kd.R_alloc | apply Kd.R_drewN | apply Kd.R_drew)); exact Kd.R_mono (Kd.R_far (p := ⟨gb185, 9, none⟩) (Kd.R_far (p := ⟨gb185, 6, none⟩) (Kd.R_far (p := ⟨gb185, 5, none⟩) (Kd.R_types HO200.out BK185.out (by decide)) (fun _ hk => by first | exact hk.2 | exact hk | grind) (.int .i64 t194)) (fun _ hk => by first | exact hk.2 | exact hk | grind) (.int .i64 t196)) (fun _ hk => by first | exact hk.2 | exact hk | grind) (.slice Ao73 t198.length co73)) (fun _ hk => by first | exact trivial | exact hk | grind)⟩, ⟨by (with_reducible repeat (first | refine blk_drewN ?_ _ | refine blk_drew ?_ | refine blk_alloc ?_ _)); refine blk_far ?_ NB177_185.out _; (with_reducible repeat (first | refine blk_drewN ?_ _ | refine blk_drew ?_ | refine blk_alloc ?_ _)); refine blk_far ?_ NB177_185.out _; (with_reducible repeat (first | refine blk_drewN ?_ _ | refine blk_drew ?_ | refine blk_alloc ?_ _)); refine blk_far ?_ NB177_185.out _; (with_reducible repeat (first | refine blk_drewN ?_ _ | refine blk_drew ?_ | refine blk_alloc ?_ _)); exact BK177.out⟩, ⟨by (with_reducible repeat (first | refine blk_drewN ?_ _ | refine blk_drew ?_ | refine blk_alloc ?_ _)); refine blk_put (cs := #[.int .i64 t180, .int .i64 t182, .int .i64 t188, .int .i64 t190, .int .i64 t192, .int .i64 t194, .int .i64 t196, .bool ((rd l0 0) == 1), .int .i64 t184, .slice none 0 0]) ?_ 9 _ rfl; (with_reducible repeat (first | refine blk_drewN ?_ _ | refine blk_drew ?_ | refine blk_alloc ?_ _)); refine blk_put (cs := #[.int .i64 t180, .int .i64 t182, .int .i64 t188, .int .i64 t190, .int .i64 t192, .int .i64 t194, .int .i64 0, .bool ((rd l0 0) == 1), .int .i64 t184, .slice none 0 0]) ?_ 6 _ rfl; (with_reducible repeat (first | refine blk_drewN ?_ _ | refine blk_drew ?_ | refine blk_alloc ?_ _)); refine blk_put (cs := #[.int .i64 t180, .int .i64 t182, .int .i64 t188, .int .i64 t190, .int .i64 t192, .int .i64 0, .int .i64 0, .bool ((rd l0 0) == 1), .int .i64 t184, .slice none 0 0]) ?_ 5 _ rfl; (with_reducible repeat (first | refine blk_drewN ?_ _ | refine blk_drew ?_ | refine blk_alloc ?_ _)); exact BK185.out⟩, ⟨bel⟩⟩
                     ·rw [if_neg c54] at H
                      exact absurd H (by simp)
                    ·rw [if_neg c53] at H
                     exact absurd H (by simp)
                   ·rw [if_neg c51] at H
                    exact absurd H (by simp)
                  ·rw [if_neg c50] at H
                   exact absurd H (by simp)
                 ·rw [if_neg c48] at H
                  exact absurd H (by simp)
                ·rw [if_neg c47] at H
                 exact absurd H (by simp)
               ·rw [if_neg c45] at H
                exact absurd H (by simp)
              ·rw [if_neg c44] at H
               exact absurd H (by simp)
             ·rw [if_neg c42] at H
              exact absurd H (by simp)
            ·replace c41 := Bool.eq_false_iff.mpr c41
             subst c41
             have H1 : (record_Read.j1 kj15 l0 t180 t182 0 0 0 0 0 ((rd l0 0) == 1) t184 ([] : List Int)) = some (r1, r2, r3, r4, r5, r6, r7, r8, r9, r10, r11) := by rw [if_neg (show ¬ (false = true) by decide)] at H; exact H
             clear H
             have H := H1
             clear H1
             have H' := zA H
             clear H
             go_wp2
             go_meet
             case rel => exact ⟨_, (0), (0), (0), (0), (0), (([] : List Int)), (.slice none 0 0), H', ⟨by have := HJ15.out; first | omega | exact Nat.le_refl _⟩, ⟨by first | exact Kd.R_nil _ _ _ _ _ | exact Kd.N_nil _ _ _ _ _ | exact Kd.V_nil _ _ _ _ _ | exact Kd.Q_nil _ _ _ _ _ | exact Kd.S_nil _ _ _ _ _⟩, ⟨rdB BK177.out⟩, ⟨rdB BK185.out⟩, ⟨bel⟩⟩
           case rest =>
            clear HC40
            obtain ⟨kq, x186002_39, x186003_39, x186004_39, x186005_39, x186006_39, x186009_39, u186009, HA, HJ39, HO_186009, BK177, BK185, HB⟩ := hcut
            cases kq with
            | zero => exact absurd HA.out (by simp [record_Read.j1])
            | succ kj39 =>
             have H := HA.out
             clear HA
             simp only [record_Read.j1] at H
             replace H := Option.bind_eq_some_iff.mp H
             obtain ⟨t201, A750, H⟩ := H
             replace H : (if t201 = true then ((record_Bytes.f kj39 t180 t182 x186002_39 x186003_39 x186004_39 x186005_39 x186006_39 ((rd l0 0) == 1) t184 x186009_39).bind fun t202 => ((eq_bb.f kj39 t202 l0).bind fun t205 => (if t205 = true then (some (t180, t182, x186002_39, x186003_39, x186004_39, x186005_39, x186006_39, ((rd l0 0) == 1), t184, x186009_39, 0)) else (some (0, 0, 0, 0, 0, 0, 0, false, 0, ([] : List Int), 2))))) else (some (0, 0, 0, 0, 0, 0, 0, false, 0, ([] : List Int), 2))) = some (r1, r2, r3, r4, r5, r6, r7, r8, r9, r10, r11) := H
             have A75 := zA A750
             clear A750
             by_cases c76 : t201 = true
             ·subst c76
              have H1 : ((record_Bytes.f kj39 t180 t182 x186002_39 x186003_39 x186004_39 x186005_39 x186006_39 ((rd l0 0) == 1) t184 x186009_39).bind fun t202 => ((eq_bb.f kj39 t202 l0).bind fun t205 => (if t205 = true then (some (t180, t182, x186002_39, x186003_39, x186004_39, x186005_39, x186006_39, ((rd l0 0) == 1), t184, x186009_39, 0)) else (some (0, 0, 0, 0, 0, 0, 0, false, 0, ([] : List Int), 2))))) = some (r1, r2, r3, r4, r5, r6, r7, r8, r9, r10, r11) := by rw [if_pos rfl] at H; exact H
              clear H
              have H := H1
              clear H1
              replace H := Option.bind_eq_some_iff.mp H
              obtain ⟨t202, A770, H⟩ := H
              replace H : ((eq_bb.f kj39 t202 l0).bind fun t205 => (if t205 = true then (some (t180, t182, x186002_39, x186003_39, x186004_39, x186005_39, x186006_39, ((rd l0 0) == 1), t184, x186009_39, 0)) else (some (0, 0, 0, 0, 0, 0, 0, false, 0, ([] : List Int), 2)))) = some (r1, r2, r3, r4, r5, r6, r7, r8, r9, r10, r11) := H
              have A77 := zA A770
              clear A770
              replace H := Option.bind_eq_some_iff.mp H
              obtain ⟨t205, A780, H⟩ := H
              replace H : (if t205 = true then (some (t180, t182, x186002_39, x186003_39, x186004_39, x186005_39, x186006_39, ((rd l0 0) == 1), t184, x186009_39, 0)) else (some (0, 0, 0, 0, 0, 0, 0, false, 0, ([] : List Int), 2))) = some (r1, r2, r3, r4, r5, r6, r7, r8, r9, r10, r11) := H
              have A78 := zA A780
              clear A780
              by_cases c79 : t205 = true
              ·subst c79
               have H1 : (some (t180, t182, x186002_39, x186003_39, x186004_39, x186005_39, x186006_39, ((rd l0 0) == 1), t184, x186009_39, 0)) = some (r1, r2, r3, r4, r5, r6, r7, r8, r9, r10, r11) := by rw [if_pos rfl] at H; exact H
               clear H
               have H := H1
               clear H1
               simp only [Option.some.injEq, Prod.mk.injEq] at H
               obtain ⟨rfl, rfl, rfl, rfl, rfl, rfl, rfl, rfl, rfl, rfl, rfl⟩ := H
               have hnb80 := NB185_177.out
               have hnc80 := NB177_185.out
               obtain ⟨hcz81_0, hcz81_1, hcz81_2, hcz81_3, hcz81_4, hcz81_5, hcz81_6, hcz81_7, hcz81_8, hcz81_9⟩ := bx10 BK185.out
               obtain ⟨hfz81_0, hfz81_1, hfz81_2, hfz81_3, hfz81_4, hfz81_5, hfz81_6, hfz81_7, hfz81_8, hfz81_9⟩ := fz10 BK185.out
               obtain ⟨Ao82, co82, eo82⟩ := Kd.R_slice HO_186009.out
               subst eo82
               go_wp2_with (first | ((with_reducible refine gate_callee (f := 14) rfl ?_); refine goesL_ (some 59) rfl rfl Try.func14 (by kernel_rfl) rfl #[.agg #[.int .i64 t180, .int .i64 t182, .int .i64 x186002_39, .int .i64 x186003_39, .int .i64 x186004_39, .int .i64 x186005_39, .int .i64 x186006_39, .bool ((rd l0 0) == 1), .int .i64 t184, .slice Ao82 x186009_39.length co82]] rfl (by (try simp only [List.map_toArray, List.map_cons, List.map_nil]); first | done | rfl | (simp only [List.length_drop, List.length_take]; rfl)) ?_; (with_reducible refine (record_Right.calls kj39 t180 t182 x186002_39 x186003_39 x186004_39 x186005_39 x186006_39 ((rd l0 0) == 1) t184 _ _ x186009_39 true _ ?side1 ?side2 A75.out).mono ?_); (case side1 => repeat (first | exact (Kd.R_reads' HO_186009.out).2.2 | (with_reducible refine Kd.C_alloc ?_ _) | (with_reducible refine Kd.C_drewN ?_ _) | (with_reducible refine Kd.C_drew ?_))); (case side2 => exact (Kd.R_reads' HO_186009.out).2.1); rintro e w83 ⟨rfl, hb⟩; refine ⟨_, rfl, ?_⟩; replace HO_186009 := zA (Kd.R_below (by (with_reducible repeat (first | apply Kd.R_alloc | apply Kd.R_drewN | apply Kd.R_drew)); first | exact HO_186009.out | exact Kd.R_mono HO_186009.out (fun _ hk => by grind)) hb); replace BK177 := zA (blk_below (g := gb177) (o := .cells #[.int .i64 0, .int .i64 0, .int .i64 0, .int .i64 0, .int .i64 0, .int .i64 0, .int .i64 0, .bool false, .int .i64 0, .slice none 0 0] 28 (0, 0)) (blk_g BK177.out) hb); replace BK185 := zA (blk_below (g := gb185) (o := .cells #[.int .i64 t180, .int .i64 t182, .int .i64 x186002_39, .int .i64 x186003_39, .int .i64 x186004_39, .int .i64 x186005_39, .int .i64 x186006_39, .bool ((rd l0 0) == 1), .int .i64 t184, .slice Ao82 x186009_39.length co82] 28 (0, 0)) (blk_g BK185.out) hb); replace HB := zA (belt hb); obtain ⟨hcz84_0, hcz84_1, hcz84_2, hcz84_3, hcz84_4, hcz84_5, hcz84_6, hcz84_7, hcz84_8, hcz84_9⟩ := bx10 BK185.out; obtain ⟨hfz84_0, hfz84_1, hfz84_2, hfz84_3, hfz84_4, hfz84_5, hfz84_6, hfz84_7, hfz84_8, hfz84_9⟩ := fz10 BK185.out) | (go_at_call 11; (with_reducible refine (record_Bytes.calls kj39 t180 t182 x186002_39 x186003_39 x186004_39 x186005_39 x186006_39 ((rd l0 0) == 1) t184 (fun k_ => some k_ = (.slice Ao82 x186009_39.length co82 : Value).ownBlock) _ _ x186009_39 t202 _ ?side1 A77.out).mono ?_); (case side1 => exact Kd.R_V (Kd.R_tight rfl (Kd.R_types (Kd.R_types (HO_186009.out) BK177.out (by decide)) BK185.out (by decide)))); rintro e w85 ⟨v203, rfl, ho0, hb⟩; have HO204 := zA (Kd.R_lower (Kd.R_new' (Kd.R_mono (ok' := fun k_ => True) ho0 (fun _ hk_ => trivial)) (Kd.R_lt (by (with_reducible repeat (first | apply Kd.R_alloc | apply Kd.R_drewN | apply Kd.R_drew)); first | exact HO_186009.out | exact Kd.R_mono HO_186009.out (fun _ hk => by grind)))) bels); replace HO_186009 := zA (Kd.R_elder' (by (with_reducible repeat (first | apply Kd.R_alloc | apply Kd.R_drewN | apply Kd.R_drew)); first | exact HO_186009.out | exact Kd.R_mono HO_186009.out (fun _ hk => by grind)) (Kd.R_base ho0) hb); replace BK177 := zA (blk_below (g := gb177) (o := .cells #[.int .i64 0, .int .i64 0, .int .i64 0, .int .i64 0, .int .i64 0, .int .i64 0, .int .i64 0, .bool false, .int .i64 0, .slice none 0 0] 28 (0, 0)) (blk_g BK177.out) hb); replace BK185 := zA (blk_below (g := gb185) (o := .cells #[.int .i64 t180, .int .i64 t182, .int .i64 x186002_39, .int .i64 x186003_39, .int .i64 x186004_39, .int .i64 x186005_39, .int .i64 x186006_39, .bool ((rd l0 0) == 1), .int .i64 t184, .slice Ao82 x186009_39.length co82] 28 (0, 0)) (blk_g BK185.out) hb); replace HB := zA (belt hb); obtain ⟨Ao86, co86, eo86⟩ := Kd.R_slice HO204.out; subst eo86) | (go_at_call 33; (with_reducible refine (eq_bb.calls kj39 _ _ t202 _ _ l0 true _ ?side1 ?side2 ?side3 ?side4 A78.out).mono ?_); (case side1 => repeat (first | exact (Kd.R_reads' HO204.out).2.2 | (with_reducible refine Kd.C_alloc ?_ _) | (with_reducible refine Kd.C_drewN ?_ _) | (with_reducible refine Kd.C_drew ?_))); (case side2 => exact (Kd.R_reads' HO204.out).2.1); (case side3 => repeat (first | exact (Kd.C_below HR0.out HB.out) | (with_reducible refine Kd.C_alloc ?_ _) | (with_reducible refine Kd.C_drewN ?_ _) | (with_reducible refine Kd.C_drew ?_))); (case side4 => exact HC0.out); rintro e w' ⟨rfl, ⟨nd, rfl⟩⟩; (try (rw [drewN_self w85]; generalize hq_ : World.drewN w85 _ = w85; have n0_ : Aside0 (Kd.R (Kd.int .u8) 5 w85 w.heap.size (fun k_ => some k_ ≠ (.slice Ao82 x186009_39.length co82 : Value).ownBlock) (.slice Ao86 t202.length co86) t202) := ⟨by rw [← hq_]; exact (R_g (Kd.R_mono HO204.out (fun _ hk => by first | exact hk.2 | exact hk | grind)))⟩; have n1_ : Aside0 (Kd.R (Kd.int .u8) 5 w85 w.heap.size (fun k_ => some k_ ≠ (.slice Ao86 t202.length co86 : Value).ownBlock) (.slice Ao82 x186009_39.length co82) x186009_39) := ⟨by rw [← hq_]; exact (R_g (Kd.R_mono HO_186009.out (fun _ hk => by first | exact hk.2 | exact hk | grind)))⟩; have n2_ : Aside0 (w85.heap[gb177]? = some (.cells #[.int .i64 0, .int .i64 0, .int .i64 0, .int .i64 0, .int .i64 0, .int .i64 0, .int .i64 0, .bool false, .int .i64 0, .slice none 0 0] 28 (0, 0))) := ⟨by rw [← hq_]; exact (blk_g BK177.out)⟩; have n3_ : Aside0 (w85.heap[gb185]? = some (.cells #[.int .i64 t180, .int .i64 t182, .int .i64 x186002_39, .int .i64 x186003_39, .int .i64 x186004_39, .int .i64 x186005_39, .int .i64 x186006_39, .bool ((rd l0 0) == 1), .int .i64 t184, .slice Ao82 x186009_39.length co82] 28 (0, 0))) := ⟨by rw [← hq_]; exact (blk_g BK185.out)⟩; have n4_ : Aside0 (Below w.heap.size w w85) := ⟨by rw [← hq_]; exact bel⟩; clear HO204 HO_186009 BK177 BK185 HB hq_; have HO204 := n0_; have HO_186009 := n1_; have BK177 := n2_; have BK185 := n3_; have HB := n4_; clear n0_ n1_ n2_ n3_ n4_)); obtain ⟨hcz87_0, hcz87_1, hcz87_2, hcz87_3, hcz87_4, hcz87_5, hcz87_6, hcz87_7, hcz87_8, hcz87_9⟩ := bx10 BK185.out; obtain ⟨hfz87_0, hfz87_1, hfz87_2, hfz87_3, hfz87_4, hfz87_5, hfz87_6, hfz87_7, hfz87_8, hfz87_9⟩ := fz10 BK185.out; obtain ⟨hcz88_0, hcz88_1, hcz88_2, hcz88_3, hcz88_4, hcz88_5, hcz88_6, hcz88_7, hcz88_8, hcz88_9⟩ := bx10 BK177.out; obtain ⟨hfz88_0, hfz88_1, hfz88_2, hfz88_3, hfz88_4, hfz88_5, hfz88_6, hfz88_7, hfz88_8, hfz88_9⟩ := fz10 BK177.out))
               refine bodyPost_ret (results_ct rfl _ _ gb177 28 #[.int .i64 t180, .int .i64 t182, .int .i64 x186002_39, .int .i64 x186003_39, .int .i64 x186004_39, .int .i64 x186005_39, .int .i64 x186006_39, .bool ((rd l0 0) == 1), .int .i64 t184, .slice Ao82 x186009_39.length co82] (0, 0) _ rfl (by (with_reducible repeat (first | refine blk_drewN ?_ _ | refine blk_drew ?_ | refine blk_alloc ?_ _)); refine blk_put (cs := #[.int .i64 t180, .int .i64 t182, .int .i64 x186002_39, .int .i64 x186003_39, .int .i64 x186004_39, .int .i64 x186005_39, .int .i64 x186006_39, .bool ((rd l0 0) == 1), .int .i64 t184, .slice none 0 0]) ?_ 9 _ rfl; (with_reducible repeat (first | refine blk_drewN ?_ _ | refine blk_drew ?_ | refine blk_alloc ?_ _)); refine blk_put (cs := #[.int .i64 t180, .int .i64 t182, .int .i64 x186002_39, .int .i64 x186003_39, .int .i64 x186004_39, .int .i64 x186005_39, .int .i64 x186006_39, .bool ((rd l0 0) == 1), .int .i64 0, .slice none 0 0]) ?_ 8 _ rfl; (with_reducible repeat (first | refine blk_drewN ?_ _ | refine blk_drew ?_ | refine blk_alloc ?_ _)); refine blk_put (cs := #[.int .i64 t180, .int .i64 t182, .int .i64 x186002_39, .int .i64 x186003_39, .int .i64 x186004_39, .int .i64 x186005_39, .int .i64 x186006_39, .bool false, .int .i64 0, .slice none 0 0]) ?_ 7 _ (by first | rfl | (simp only [*]; rfl) | (simp [*]; done)); (with_reducible repeat (first | refine blk_drewN ?_ _ | refine blk_drew ?_ | refine blk_alloc ?_ _)); refine blk_put (cs := #[.int .i64 t180, .int .i64 t182, .int .i64 x186002_39, .int .i64 x186003_39, .int .i64 x186004_39, .int .i64 x186005_39, .int .i64 0, .bool false, .int .i64 0, .slice none 0 0]) ?_ 6 _ rfl; (with_reducible repeat (first | refine blk_drewN ?_ _ | refine blk_drew ?_ | refine blk_alloc ?_ _)); refine blk_put (cs := #[.int .i64 t180, .int .i64 t182, .int .i64 x186002_39, .int .i64 x186003_39, .int .i64 x186004_39, .int .i64 0, .int .i64 0, .bool false, .int .i64 0, .slice none 0 0]) ?_ 5 _ rfl; (with_reducible repeat (first | refine blk_drewN ?_ _ | refine blk_drew ?_ | refine blk_alloc ?_ _)); refine blk_put (cs := #[.int .i64 t180, .int .i64 t182, .int .i64 x186002_39, .int .i64 x186003_39, .int .i64 0, .int .i64 0, .int .i64 0, .bool false, .int .i64 0, .slice none 0 0]) ?_ 4 _ rfl; (with_reducible repeat (first | refine blk_drewN ?_ _ | refine blk_drew ?_ | refine blk_alloc ?_ _)); refine blk_put (cs := #[.int .i64 t180, .int .i64 t182, .int .i64 x186002_39, .int .i64 0, .int .i64 0, .int .i64 0, .int .i64 0, .bool false, .int .i64 0, .slice none 0 0]) ?_ 3 _ rfl; (with_reducible repeat (first | refine blk_drewN ?_ _ | refine blk_drew ?_ | refine blk_alloc ?_ _)); refine blk_put (cs := #[.int .i64 t180, .int .i64 t182, .int .i64 0, .int .i64 0, .int .i64 0, .int .i64 0, .int .i64 0, .bool false, .int .i64 0, .slice none 0 0]) ?_ 2 _ rfl; (with_reducible repeat (first | refine blk_drewN ?_ _ | refine blk_drew ?_ | refine blk_alloc ?_ _)); refine blk_put (cs := #[.int .i64 t180, .int .i64 0, .int .i64 0, .int .i64 0, .int .i64 0, .int .i64 0, .int .i64 0, .bool false, .int .i64 0, .slice none 0 0]) ?_ 1 _ rfl; (with_reducible repeat (first | refine blk_drewN ?_ _ | refine blk_drew ?_ | refine blk_alloc ?_ _)); refine blk_put (cs := #[.int .i64 0, .int .i64 0, .int .i64 0, .int .i64 0, .int .i64 0, .int .i64 0, .int .i64 0, .bool false, .int .i64 0, .slice none 0 0]) ?_ 0 _ rfl; (with_reducible repeat (first | refine blk_drewN ?_ _ | refine blk_drew ?_ | refine blk_alloc ?_ _)); exact BK177.out) Try.underlying28 rfl (by kernel_rfl)) rfl ?_
               exact ⟨_, by first | rfl | (simp [errW_none, errW_some] <;> rfl) | (simp [*, errW_none, errW_some] <;> rfl), by (with_reducible repeat (first | apply Kd.R_alloc | apply Kd.R_drewN | apply Kd.R_drew)); exact Kd.R_mono (Kd.R_far (p := ⟨gb177, 9, none⟩) (Kd.R_far (p := ⟨gb177, 8, none⟩) (Kd.R_far (p := ⟨gb177, 7, none⟩) (Kd.R_far (p := ⟨gb177, 6, none⟩) (Kd.R_far (p := ⟨gb177, 5, none⟩) (Kd.R_far (p := ⟨gb177, 4, none⟩) (Kd.R_far (p := ⟨gb177, 3, none⟩) (Kd.R_far (p := ⟨gb177, 2, none⟩) (Kd.R_far (p := ⟨gb177, 1, none⟩) (Kd.R_far (p := ⟨gb177, 0, none⟩) (Kd.R_types HO_186009.out BK177.out (by decide)) (fun _ hk => by first | exact hk.2 | exact hk | grind) (.int .i64 t180)) (fun _ hk => by first | exact hk.2 | exact hk | grind) (.int .i64 t182)) (fun _ hk => by first | exact hk.2 | exact hk | grind) (.int .i64 x186002_39)) (fun _ hk => by first | exact hk.2 | exact hk | grind) (.int .i64 x186003_39)) (fun _ hk => by first | exact hk.2 | exact hk | grind) (.int .i64 x186004_39)) (fun _ hk => by first | exact hk.2 | exact hk | grind) (.int .i64 x186005_39)) (fun _ hk => by first | exact hk.2 | exact hk | grind) (.int .i64 x186006_39)) (fun _ hk => by first | exact hk.2 | exact hk | grind) (.bool ((rd l0 0) == 1))) (fun _ hk => by first | exact hk.2 | exact hk | grind) (.int .i64 t184)) (fun _ hk => by first | exact hk.2 | exact hk | grind) (.slice Ao82 x186009_39.length co82)) (fun _ hk => by first | exact trivial | exact hk | grind), bel⟩
              ·replace c79 := Bool.eq_false_iff.mpr c79
               subst c79
               have H1 : (some (0, 0, 0, 0, 0, 0, 0, false, 0, ([] : List Int), 2)) = some (r1, r2, r3, r4, r5, r6, r7, r8, r9, r10, r11) := by rw [if_neg (show ¬ (false = true) by decide)] at H; exact H
               clear H
               have H := H1
               clear H1
               simp only [Option.some.injEq, Prod.mk.injEq] at H
               obtain ⟨rfl, rfl, rfl, rfl, rfl, rfl, rfl, rfl, rfl, rfl, rfl⟩ := H
               have hnb89 := NB185_177.out
               have hnc89 := NB177_185.out
               obtain ⟨hcz90_0, hcz90_1, hcz90_2, hcz90_3, hcz90_4, hcz90_5, hcz90_6, hcz90_7, hcz90_8, hcz90_9⟩ := bx10 BK185.out
               obtain ⟨hfz90_0, hfz90_1, hfz90_2, hfz90_3, hfz90_4, hfz90_5, hfz90_6, hfz90_7, hfz90_8, hfz90_9⟩ := fz10 BK185.out
               obtain ⟨Ao91, co91, eo91⟩ := Kd.R_slice HO_186009.out
               subst eo91
               go_wp2_with (first | ((with_reducible refine gate_callee (f := 14) rfl ?_); refine goesL_ (some 59) rfl rfl Try.func14 (by kernel_rfl) rfl #[.agg #[.int .i64 t180, .int .i64 t182, .int .i64 x186002_39, .int .i64 x186003_39, .int .i64 x186004_39, .int .i64 x186005_39, .int .i64 x186006_39, .bool ((rd l0 0) == 1), .int .i64 t184, .slice Ao91 x186009_39.length co91]] rfl (by (try simp only [List.map_toArray, List.map_cons, List.map_nil]); first | done | rfl | (simp only [List.length_drop, List.length_take]; rfl)) ?_; (with_reducible refine (record_Right.calls kj39 t180 t182 x186002_39 x186003_39 x186004_39 x186005_39 x186006_39 ((rd l0 0) == 1) t184 _ _ x186009_39 true _ ?side1 ?side2 A75.out).mono ?_); (case side1 => repeat (first | exact (Kd.R_reads' HO_186009.out).2.2 | (with_reducible refine Kd.C_alloc ?_ _) | (with_reducible refine Kd.C_drewN ?_ _) | (with_reducible refine Kd.C_drew ?_))); (case side2 => exact (Kd.R_reads' HO_186009.out).2.1); rintro e w92 ⟨rfl, hb⟩; refine ⟨_, rfl, ?_⟩; replace HO_186009 := zA (Kd.R_below (by (with_reducible repeat (first | apply Kd.R_alloc | apply Kd.R_drewN | apply Kd.R_drew)); first | exact HO_186009.out | exact Kd.R_mono HO_186009.out (fun _ hk => by grind)) hb); replace BK177 := zA (blk_below (g := gb177) (o := .cells #[.int .i64 0, .int .i64 0, .int .i64 0, .int .i64 0, .int .i64 0, .int .i64 0, .int .i64 0, .bool false, .int .i64 0, .slice none 0 0] 28 (0, 0)) (blk_g BK177.out) hb); replace BK185 := zA (blk_below (g := gb185) (o := .cells #[.int .i64 t180, .int .i64 t182, .int .i64 x186002_39, .int .i64 x186003_39, .int .i64 x186004_39, .int .i64 x186005_39, .int .i64 x186006_39, .bool ((rd l0 0) == 1), .int .i64 t184, .slice Ao91 x186009_39.length co91] 28 (0, 0)) (blk_g BK185.out) hb); replace HB := zA (belt hb); obtain ⟨hcz93_0, hcz93_1, hcz93_2, hcz93_3, hcz93_4, hcz93_5, hcz93_6, hcz93_7, hcz93_8, hcz93_9⟩ := bx10 BK185.out; obtain ⟨hfz93_0, hfz93_1, hfz93_2, hfz93_3, hfz93_4, hfz93_5, hfz93_6, hfz93_7, hfz93_8, hfz93_9⟩ := fz10 BK185.out) | (go_at_call 11; (with_reducible refine (record_Bytes.calls kj39 t180 t182 x186002_39 x186003_39 x186004_39 x186005_39 x186006_39 ((rd l0 0) == 1) t184 (fun k_ => some k_ = (.slice Ao91 x186009_39.length co91 : Value).ownBlock) _ _ x186009_39 t202 _ ?side1 A77.out).mono ?_); (case side1 => exact Kd.R_V (Kd.R_tight rfl (Kd.R_types (Kd.R_types (HO_186009.out) BK177.out (by decide)) BK185.out (by decide)))); rintro e w94 ⟨v203, rfl, ho0, hb⟩; have HO204 := zA (Kd.R_lower (Kd.R_new' (Kd.R_mono (ok' := fun k_ => True) ho0 (fun _ hk_ => trivial)) (Kd.R_lt (by (with_reducible repeat (first | apply Kd.R_alloc | apply Kd.R_drewN | apply Kd.R_drew)); first | exact HO_186009.out | exact Kd.R_mono HO_186009.out (fun _ hk => by grind)))) bels); replace HO_186009 := zA (Kd.R_elder' (by (with_reducible repeat (first | apply Kd.R_alloc | apply Kd.R_drewN | apply Kd.R_drew)); first | exact HO_186009.out | exact Kd.R_mono HO_186009.out (fun _ hk => by grind)) (Kd.R_base ho0) hb); replace BK177 := zA (blk_below (g := gb177) (o := .cells #[.int .i64 0, .int .i64 0, .int .i64 0, .int .i64 0, .int .i64 0, .int .i64 0, .int .i64 0, .bool false, .int .i64 0, .slice none 0 0] 28 (0, 0)) (blk_g BK177.out) hb); replace BK185 := zA (blk_below (g := gb185) (o := .cells #[.int .i64 t180, .int .i64 t182, .int .i64 x186002_39, .int .i64 x186003_39, .int .i64 x186004_39, .int .i64 x186005_39, .int .i64 x186006_39, .bool ((rd l0 0) == 1), .int .i64 t184, .slice Ao91 x186009_39.length co91] 28 (0, 0)) (blk_g BK185.out) hb); replace HB := zA (belt hb); obtain ⟨Ao95, co95, eo95⟩ := Kd.R_slice HO204.out; subst eo95) | (go_at_call 33; (with_reducible refine (eq_bb.calls kj39 _ _ t202 _ _ l0 false _ ?side1 ?side2 ?side3 ?side4 A78.out).mono ?_); (case side1 => repeat (first | exact (Kd.R_reads' HO204.out).2.2 | (with_reducible refine Kd.C_alloc ?_ _) | (with_reducible refine Kd.C_drewN ?_ _) | (with_reducible refine Kd.C_drew ?_))); (case side2 => exact (Kd.R_reads' HO204.out).2.1); (case side3 => repeat (first | exact (Kd.C_below HR0.out HB.out) | (with_reducible refine Kd.C_alloc ?_ _) | (with_reducible refine Kd.C_drewN ?_ _) | (with_reducible refine Kd.C_drew ?_))); (case side4 => exact HC0.out); rintro e w' ⟨rfl, ⟨nd, rfl⟩⟩; (try (rw [drewN_self w94]; generalize hq_ : World.drewN w94 _ = w94; have n0_ : Aside0 (Kd.R (Kd.int .u8) 5 w94 w.heap.size (fun k_ => some k_ ≠ (.slice Ao91 x186009_39.length co91 : Value).ownBlock) (.slice Ao95 t202.length co95) t202) := ⟨by rw [← hq_]; exact (R_g (Kd.R_mono HO204.out (fun _ hk => by first | exact hk.2 | exact hk | grind)))⟩; have n1_ : Aside0 (Kd.R (Kd.int .u8) 5 w94 w.heap.size (fun k_ => some k_ ≠ (.slice Ao95 t202.length co95 : Value).ownBlock) (.slice Ao91 x186009_39.length co91) x186009_39) := ⟨by rw [← hq_]; exact (R_g (Kd.R_mono HO_186009.out (fun _ hk => by first | exact hk.2 | exact hk | grind)))⟩; have n2_ : Aside0 (w94.heap[gb177]? = some (.cells #[.int .i64 0, .int .i64 0, .int .i64 0, .int .i64 0, .int .i64 0, .int .i64 0, .int .i64 0, .bool false, .int .i64 0, .slice none 0 0] 28 (0, 0))) := ⟨by rw [← hq_]; exact (blk_g BK177.out)⟩; have n3_ : Aside0 (w94.heap[gb185]? = some (.cells #[.int .i64 t180, .int .i64 t182, .int .i64 x186002_39, .int .i64 x186003_39, .int .i64 x186004_39, .int .i64 x186005_39, .int .i64 x186006_39, .bool ((rd l0 0) == 1), .int .i64 t184, .slice Ao91 x186009_39.length co91] 28 (0, 0))) := ⟨by rw [← hq_]; exact (blk_g BK185.out)⟩; have n4_ : Aside0 (Below w.heap.size w w94) := ⟨by rw [← hq_]; exact bel⟩; clear HO204 HO_186009 BK177 BK185 HB hq_; have HO204 := n0_; have HO_186009 := n1_; have BK177 := n2_; have BK185 := n3_; have HB := n4_; clear n0_ n1_ n2_ n3_ n4_)); obtain ⟨hcz96_0, hcz96_1, hcz96_2, hcz96_3, hcz96_4, hcz96_5, hcz96_6, hcz96_7, hcz96_8, hcz96_9⟩ := bx10 BK177.out; obtain ⟨hfz96_0, hfz96_1, hfz96_2, hfz96_3, hfz96_4, hfz96_5, hfz96_6, hfz96_7, hfz96_8, hfz96_9⟩ := fz10 BK177.out))
               refine bodyPost_ret (results_ct rfl _ _ gb177 28 #[.int .i64 0, .int .i64 0, .int .i64 0, .int .i64 0, .int .i64 0, .int .i64 0, .int .i64 0, .bool false, .int .i64 0, .slice none 0 0] (0, 0) _ rfl (by (with_reducible repeat (first | refine blk_drewN ?_ _ | refine blk_drew ?_ | refine blk_alloc ?_ _)); refine blk_put (cs := #[.int .i64 0, .int .i64 0, .int .i64 0, .int .i64 0, .int .i64 0, .int .i64 0, .int .i64 0, .bool false, .int .i64 0, .slice none 0 0]) ?_ 9 _ rfl; (with_reducible repeat (first | refine blk_drewN ?_ _ | refine blk_drew ?_ | refine blk_alloc ?_ _)); refine blk_put (cs := #[.int .i64 0, .int .i64 0, .int .i64 0, .int .i64 0, .int .i64 0, .int .i64 0, .int .i64 0, .bool false, .int .i64 0, .slice none 0 0]) ?_ 8 _ rfl; (with_reducible repeat (first | refine blk_drewN ?_ _ | refine blk_drew ?_ | refine blk_alloc ?_ _)); refine blk_put (cs := #[.int .i64 0, .int .i64 0, .int .i64 0, .int .i64 0, .int .i64 0, .int .i64 0, .int .i64 0, .bool false, .int .i64 0, .slice none 0 0]) ?_ 7 _ (by first | rfl | (simp only [*]; rfl) | (simp [*]; done)); (with_reducible repeat (first | refine blk_drewN ?_ _ | refine blk_drew ?_ | refine blk_alloc ?_ _)); refine blk_put (cs := #[.int .i64 0, .int .i64 0, .int .i64 0, .int .i64 0, .int .i64 0, .int .i64 0, .int .i64 0, .bool false, .int .i64 0, .slice none 0 0]) ?_ 6 _ rfl; (with_reducible repeat (first | refine blk_drewN ?_ _ | refine blk_drew ?_ | refine blk_alloc ?_ _)); refine blk_put (cs := #[.int .i64 0, .int .i64 0, .int .i64 0, .int .i64 0, .int .i64 0, .int .i64 0, .int .i64 0, .bool false, .int .i64 0, .slice none 0 0]) ?_ 5 _ rfl; (with_reducible repeat (first | refine blk_drewN ?_ _ | refine blk_drew ?_ | refine blk_alloc ?_ _)); refine blk_put (cs := #[.int .i64 0, .int .i64 0, .int .i64 0, .int .i64 0, .int .i64 0, .int .i64 0, .int .i64 0, .bool false, .int .i64 0, .slice none 0 0]) ?_ 4 _ rfl; (with_reducible repeat (first | refine blk_drewN ?_ _ | refine blk_drew ?_ | refine blk_alloc ?_ _)); refine blk_put (cs := #[.int .i64 0, .int .i64 0, .int .i64 0, .int .i64 0, .int .i64 0, .int .i64 0, .int .i64 0, .bool false, .int .i64 0, .slice none 0 0]) ?_ 3 _ rfl; (with_reducible repeat (first | refine blk_drewN ?_ _ | refine blk_drew ?_ | refine blk_alloc ?_ _)); refine blk_put (cs := #[.int .i64 0, .int .i64 0, .int .i64 0, .int .i64 0, .int .i64 0, .int .i64 0, .int .i64 0, .bool false, .int .i64 0, .slice none 0 0]) ?_ 2 _ rfl; (with_reducible repeat (first | refine blk_drewN ?_ _ | refine blk_drew ?_ | refine blk_alloc ?_ _)); refine blk_put (cs := #[.int .i64 0, .int .i64 0, .int .i64 0, .int .i64 0, .int .i64 0, .int .i64 0, .int .i64 0, .bool false, .int .i64 0, .slice none 0 0]) ?_ 1 _ rfl; (with_reducible repeat (first | refine blk_drewN ?_ _ | refine blk_drew ?_ | refine blk_alloc ?_ _)); refine blk_put (cs := #[.int .i64 0, .int .i64 0, .int .i64 0, .int .i64 0, .int .i64 0, .int .i64 0, .int .i64 0, .bool false, .int .i64 0, .slice none 0 0]) ?_ 0 _ rfl; (with_reducible repeat (first | refine blk_drewN ?_ _ | refine blk_drew ?_ | refine blk_alloc ?_ _)); exact BK177.out) Try.underlying28 rfl (by kernel_rfl)) rfl ?_
               exact ⟨_, by first | rfl | (simp [errW_none, errW_some] <;> rfl) | (simp [*, errW_none, errW_some] <;> rfl), by first | exact Kd.R_nil _ _ _ _ _ | exact Kd.N_nil _ _ _ _ _ | exact Kd.V_nil _ _ _ _ _ | exact Kd.Q_nil _ _ _ _ _ | exact Kd.S_nil _ _ _ _ _, bel⟩
             ·replace c76 := Bool.eq_false_iff.mpr c76
              subst c76
              have H1 : (some (0, 0, 0, 0, 0, 0, 0, false, 0, ([] : List Int), 2)) = some (r1, r2, r3, r4, r5, r6, r7, r8, r9, r10, r11) := by rw [if_neg (show ¬ (false = true) by decide)] at H; exact H
              clear H
              have H := H1
              clear H1
              simp only [Option.some.injEq, Prod.mk.injEq] at H
              obtain ⟨rfl, rfl, rfl, rfl, rfl, rfl, rfl, rfl, rfl, rfl, rfl⟩ := H
              have hnb97 := NB185_177.out
              have hnc97 := NB177_185.out
              obtain ⟨hcz98_0, hcz98_1, hcz98_2, hcz98_3, hcz98_4, hcz98_5, hcz98_6, hcz98_7, hcz98_8, hcz98_9⟩ := bx10 BK185.out
              obtain ⟨hfz98_0, hfz98_1, hfz98_2, hfz98_3, hfz98_4, hfz98_5, hfz98_6, hfz98_7, hfz98_8, hfz98_9⟩ := fz10 BK185.out
              obtain ⟨Ao99, co99, eo99⟩ := Kd.R_slice HO_186009.out
              subst eo99
              go_wp2_with (first | ((with_reducible refine gate_callee (f := 14) rfl ?_); refine goesL_ (some 59) rfl rfl Try.func14 (by kernel_rfl) rfl #[.agg #[.int .i64 t180, .int .i64 t182, .int .i64 x186002_39, .int .i64 x186003_39, .int .i64 x186004_39, .int .i64 x186005_39, .int .i64 x186006_39, .bool ((rd l0 0) == 1), .int .i64 t184, .slice Ao99 x186009_39.length co99]] rfl (by (try simp only [List.map_toArray, List.map_cons, List.map_nil]); first | done | rfl | (simp only [List.length_drop, List.length_take]; rfl)) ?_; (with_reducible refine (record_Right.calls kj39 t180 t182 x186002_39 x186003_39 x186004_39 x186005_39 x186006_39 ((rd l0 0) == 1) t184 _ _ x186009_39 false _ ?side1 ?side2 A75.out).mono ?_); (case side1 => repeat (first | exact (Kd.R_reads' HO_186009.out).2.2 | (with_reducible refine Kd.C_alloc ?_ _) | (with_reducible refine Kd.C_drewN ?_ _) | (with_reducible refine Kd.C_drew ?_))); (case side2 => exact (Kd.R_reads' HO_186009.out).2.1); rintro e w100 ⟨rfl, hb⟩; refine ⟨_, rfl, ?_⟩; replace HO_186009 := zA (Kd.R_below (by (with_reducible repeat (first | apply Kd.R_alloc | apply Kd.R_drewN | apply Kd.R_drew)); first | exact HO_186009.out | exact Kd.R_mono HO_186009.out (fun _ hk => by grind)) hb); replace BK177 := zA (blk_below (g := gb177) (o := .cells #[.int .i64 0, .int .i64 0, .int .i64 0, .int .i64 0, .int .i64 0, .int .i64 0, .int .i64 0, .bool false, .int .i64 0, .slice none 0 0] 28 (0, 0)) (blk_g BK177.out) hb); replace BK185 := zA (blk_below (g := gb185) (o := .cells #[.int .i64 t180, .int .i64 t182, .int .i64 x186002_39, .int .i64 x186003_39, .int .i64 x186004_39, .int .i64 x186005_39, .int .i64 x186006_39, .bool ((rd l0 0) == 1), .int .i64 t184, .slice Ao99 x186009_39.length co99] 28 (0, 0)) (blk_g BK185.out) hb); replace HB := zA (belt hb); obtain ⟨hcz101_0, hcz101_1, hcz101_2, hcz101_3, hcz101_4, hcz101_5, hcz101_6, hcz101_7, hcz101_8, hcz101_9⟩ := bx10 BK177.out; obtain ⟨hfz101_0, hfz101_1, hfz101_2, hfz101_3, hfz101_4, hfz101_5, hfz101_6, hfz101_7, hfz101_8, hfz101_9⟩ := fz10 BK177.out))
              refine bodyPost_ret (results_ct rfl _ _ gb177 28 #[.int .i64 0, .int .i64 0, .int .i64 0, .int .i64 0, .int .i64 0, .int .i64 0, .int .i64 0, .bool false, .int .i64 0, .slice none 0 0] (0, 0) _ rfl (by (with_reducible repeat (first | refine blk_drewN ?_ _ | refine blk_drew ?_ | refine blk_alloc ?_ _)); refine blk_put (cs := #[.int .i64 0, .int .i64 0, .int .i64 0, .int .i64 0, .int .i64 0, .int .i64 0, .int .i64 0, .bool false, .int .i64 0, .slice none 0 0]) ?_ 9 _ rfl; (with_reducible repeat (first | refine blk_drewN ?_ _ | refine blk_drew ?_ | refine blk_alloc ?_ _)); refine blk_put (cs := #[.int .i64 0, .int .i64 0, .int .i64 0, .int .i64 0, .int .i64 0, .int .i64 0, .int .i64 0, .bool false, .int .i64 0, .slice none 0 0]) ?_ 8 _ rfl; (with_reducible repeat (first | refine blk_drewN ?_ _ | refine blk_drew ?_ | refine blk_alloc ?_ _)); refine blk_put (cs := #[.int .i64 0, .int .i64 0, .int .i64 0, .int .i64 0, .int .i64 0, .int .i64 0, .int .i64 0, .bool false, .int .i64 0, .slice none 0 0]) ?_ 7 _ (by first | rfl | (simp only [*]; rfl) | (simp [*]; done)); (with_reducible repeat (first | refine blk_drewN ?_ _ | refine blk_drew ?_ | refine blk_alloc ?_ _)); refine blk_put (cs := #[.int .i64 0, .int .i64 0, .int .i64 0, .int .i64 0, .int .i64 0, .int .i64 0, .int .i64 0, .bool false, .int .i64 0, .slice none 0 0]) ?_ 6 _ rfl; (with_reducible repeat (first | refine blk_drewN ?_ _ | refine blk_drew ?_ | refine blk_alloc ?_ _)); refine blk_put (cs := #[.int .i64 0, .int .i64 0, .int .i64 0, .int .i64 0, .int .i64 0, .int .i64 0, .int .i64 0, .bool false, .int .i64 0, .slice none 0 0]) ?_ 5 _ rfl; (with_reducible repeat (first | refine blk_drewN ?_ _ | refine blk_drew ?_ | refine blk_alloc ?_ _)); refine blk_put (cs := #[.int .i64 0, .int .i64 0, .int .i64 0, .int .i64 0, .int .i64 0, .int .i64 0, .int .i64 0, .bool false, .int .i64 0, .slice none 0 0]) ?_ 4 _ rfl; (with_reducible repeat (first | refine blk_drewN ?_ _ | refine blk_drew ?_ | refine blk_alloc ?_ _)); refine blk_put (cs := #[.int .i64 0, .int .i64 0, .int .i64 0, .int .i64 0, .int .i64 0, .int .i64 0, .int .i64 0, .bool false, .int .i64 0, .slice none 0 0]) ?_ 3 _ rfl; (with_reducible repeat (first | refine blk_drewN ?_ _ | refine blk_drew ?_ | refine blk_alloc ?_ _)); refine blk_put (cs := #[.int .i64 0, .int .i64 0, .int .i64 0, .int .i64 0, .int .i64 0, .int .i64 0, .int .i64 0, .bool false, .int .i64 0, .slice none 0 0]) ?_ 2 _ rfl; (with_reducible repeat (first | refine blk_drewN ?_ _ | refine blk_drew ?_ | refine blk_alloc ?_ _)); refine blk_put (cs := #[.int .i64 0, .int .i64 0, .int .i64 0, .int .i64 0, .int .i64 0, .int .i64 0, .int .i64 0, .bool false, .int .i64 0, .slice none 0 0]) ?_ 1 _ rfl; (with_reducible repeat (first | refine blk_drewN ?_ _ | refine blk_drew ?_ | refine blk_alloc ?_ _)); refine blk_put (cs := #[.int .i64 0, .int .i64 0, .int .i64 0, .int .i64 0, .int .i64 0, .int .i64 0, .int .i64 0, .bool false, .int .i64 0, .slice none 0 0]) ?_ 0 _ rfl; (with_reducible repeat (first | refine blk_drewN ?_ _ | refine blk_drew ?_ | refine blk_alloc ?_ _)); exact BK177.out) Try.underlying28 rfl (by kernel_rfl)) rfl ?_
              exact ⟨_, by first | rfl | (simp [errW_none, errW_some] <;> rfl) | (simp [*, errW_none, errW_some] <;> rfl), by first | exact Kd.R_nil _ _ _ _ _ | exact Kd.N_nil _ _ _ _ _ | exact Kd.V_nil _ _ _ _ _ | exact Kd.Q_nil _ _ _ _ _ | exact Kd.S_nil _ _ _ _ _, bel⟩
        ·rw [if_neg c13] at H
         exact absurd H (by simp)
       ·rw [if_neg c12] at H
        exact absurd H (by simp)
      ·rw [if_neg c10] at H
       exact absurd H (by simp)
     ·rw [if_neg c9] at H
      exact absurd H (by simp)
    ·rw [if_neg c7] at H
     exact absurd H (by simp)
   ·rw [if_neg c6] at H
    exact absurd H (by simp)
  ·rw [if_neg c5] at H
   exact absurd H (by simp)
end Go.Proofs.Ytjcfmfdkligmoaa.PRecordTells
