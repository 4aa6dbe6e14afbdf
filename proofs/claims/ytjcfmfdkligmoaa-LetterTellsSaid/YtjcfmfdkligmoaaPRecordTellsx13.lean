/- Written by a program (this session's own): functions that the law reaches, as plain Lean functions, each with the proof that the code comes to it. No conditions but those that stand in the theorems. -/
import Derived.Test.YtjcfmfdkligmoaaPq
import Derived.Test.YtjcfmfdkligmoaaPRecordTellsx0
import Derived.Test.YtjcfmfdkligmoaaPRecordTellsx1
import Derived.Test.YtjcfmfdkligmoaaPRecordTellsx2
set_option maxHeartbeats 8000000
set_option maxRecDepth 100000
namespace Go.Proofs.Ytjcfmfdkligmoaa.PRecordTells
open Go.RowKit Go.Proofs.YtjcfmfdkligmoaaW.PrintWords Go.Proofs.YtjcfmfdkligmoaaW.PrintLast Go.Proofs.YtjcfmfdkligmoaaW.PrintMore
attribute [local go_sem] max2_int min2_int max_two min_two max_three min_three max_four min_four
set_option linter.unusedVariables false
set_option linter.unusedSimpArgs false
attribute [local go_sem high] eqA23 eqA25
def zq_SameRecord.f (a0_0 : Int) (a0_1 : Int) (a0_2 : Int) (a0_3 : Int) (a0_4 : Int) (a0_5 : Int) (a0_6 : Int) (a0_7 : Bool) (a0_8 : Int) (l0_9 : List Int) (a1_0 : Int) (a1_1 : Int) (a1_2 : Int) (a1_3 : Int) (a1_4 : Int) (a1_5 : Int) (a1_6 : Int) (a1_7 : Bool) (a1_8 : Int) (l1_9 : List Int) : Option (Bool) := if (a0_0 == a1_0 && (a0_1 == a1_1)) = true then (if (a0_2 == a1_2 && (a0_3 == a1_3 && (a0_4 == a1_4))) = true then (if a0_5 = a1_5 then (if a0_6 = a1_6 then (if (a0_7 == a1_7) = true then (if a0_8 = a1_8 then (some ((strOfNums l0_9).toList == (strOfNums l1_9).toList)) else (some false)) else (some false)) else (some false)) else (some false)) else (some false)) else (some false)
theorem zq_SameRecord.calls (a0_0 : Int) (a0_1 : Int) (a0_2 : Int) (a0_3 : Int) (a0_4 : Int) (a0_5 : Int) (a0_6 : Int) (a0_7 : Bool) (a0_8 : Int) (A0_9 : Option Addr) (c0_9 : Nat) (l0_9 : List Int) (a1_0 : Int) (a1_1 : Int) (a1_2 : Int) (a1_3 : Int) (a1_4 : Int) (a1_5 : Int) (a1_6 : Int) (a1_7 : Bool) (a1_8 : Int) (A1_9 : Option Addr) (c1_9 : Nat) (l1_9 : List Int) (r : Bool) (w : World) (hr0_9 : Kd.C (Kd.int .u8) w A0_9 l0_9.length l0_9) (hc0_9 : l0_9.length ≤ c0_9) (hr1_9 : Kd.C (Kd.int .u8) w A1_9 l1_9.length l1_9) (hc1_9 : l1_9.length ≤ c1_9) (h : zq_SameRecord.f a0_0 a0_1 a0_2 a0_3 a0_4 a0_5 a0_6 a0_7 a0_8 l0_9 a1_0 a1_1 a1_2 a1_3 a1_4 a1_5 a1_6 a1_7 a1_8 l1_9 = some r) :
 Calls Try.prog 16 #[.agg #[.int .i64 a0_0, .int .i64 a0_1, .int .i64 a0_2, .int .i64 a0_3, .int .i64 a0_4, .int .i64 a0_5, .int .i64 a0_6, .bool a0_7, .int .i64 a0_8, .slice A0_9 l0_9.length c0_9], .agg #[.int .i64 a1_0, .int .i64 a1_1, .int .i64 a1_2, .int .i64 a1_3, .int .i64 a1_4, .int .i64 a1_5, .int .i64 a1_6, .bool a1_7, .int .i64 a1_8, .slice A1_9 l1_9.length c1_9]] w fun e w' => e = .returned (.bool r) ∧ Below w.heap.size w w' := by
 have hu28 := Try.underlying28
 have hu23 := Try.underlying23
 have hu25 := Try.underlying25
 have HR0_9 := zA hr0_9
 have HC0_9 := zA hc0_9
 clear hr0_9 hc0_9
 have HR1_9 := zA hr1_9
 have HC1_9 := zA hc1_9
 clear hr1_9 hc1_9
 have HB := zA (Below.refl w.heap.size w)
 have H : (if (a0_0 == a1_0 && (a0_1 == a1_1)) = true then (if (a0_2 == a1_2 && (a0_3 == a1_3 && (a0_4 == a1_4))) = true then (if a0_5 = a1_5 then (if a0_6 = a1_6 then (if (a0_7 == a1_7) = true then (if a0_8 = a1_8 then (some ((strOfNums l0_9).toList == (strOfNums l1_9).toList)) else (some false)) else (some false)) else (some false)) else (some false)) else (some false)) else (some false)) = some r := h
 clear h
 by_cases c3 : (a0_0 == a1_0 && (a0_1 == a1_1)) = true
 focus
  rw [if_pos c3] at H
  have c3b0 : (a0_0 == a1_0 && (a0_1 == a1_1)) = true := c3
  (try (have c3b1 : decide (a0_0 = a1_0 && (a0_1 == a1_1)) = true := by simpa using c3))
  (try (have c3b2 : (a0_0 == a1_0 && (a0_1 == a1_1)) = true := by simpa using c3))
  clear c3
  by_cases c4 : (a0_2 == a1_2 && (a0_3 == a1_3 && (a0_4 == a1_4))) = true
  focus
   rw [if_pos c4] at H
   have c4b0 : (a0_2 == a1_2 && (a0_3 == a1_3 && (a0_4 == a1_4))) = true := c4
   (try (have c4b1 : decide (a0_2 = a1_2 && (a0_3 == a1_3 && (a0_4 == a1_4))) = true := by simpa using c4))
   (try (have c4b2 : (a0_2 == a1_2 && (a0_3 == a1_3 && (a0_4 == a1_4))) = true := by simpa using c4))
   clear c4
   by_cases c5 : a0_5 = a1_5
   focus
    rw [if_pos c5] at H
    have c5b0 : (a0_5 == a1_5) = true := beq_iff_eq.mpr c5
    have c5b1 : (a0_5 != a1_5) = false := bne_eq_false_iff_eq.mpr c5
    clear c5
    by_cases c6 : a0_6 = a1_6
    focus
     rw [if_pos c6] at H
     have c6b0 : (a0_6 == a1_6) = true := beq_iff_eq.mpr c6
     have c6b1 : (a0_6 != a1_6) = false := bne_eq_false_iff_eq.mpr c6
     clear c6
     by_cases c7 : (a0_7 == a1_7) = true
     focus
      rw [if_pos c7] at H
      have c7b0 : (a0_7 == a1_7) = true := c7
      (try (have c7b1 : decide (a0_7 = a1_7) = true := by simpa using c7))
      (try (have c7b2 : (a0_7 == a1_7) = true := by simpa using c7))
      clear c7
      by_cases c8 : a0_8 = a1_8
      focus
       rw [if_pos c8] at H
       have c8b0 : (a0_8 == a1_8) = true := beq_iff_eq.mpr c8
       have c8b1 : (a0_8 != a1_8) = false := bne_eq_false_iff_eq.mpr c8
       clear c8
       obtain rfl := Option.some.inj H
      rotate_left
      focus
       rw [if_neg c8] at H
       have c8b0 : (a0_8 == a1_8) = false := beq_eq_false_iff_ne.mpr c8
       have c8b1 : (a0_8 != a1_8) = true := bne_iff_ne.mpr c8
       obtain rfl := Option.some.inj H
     rotate_left 2
     focus
      rw [if_neg c7] at H
      have c7b0 : (a0_7 == a1_7) = false := by simpa using c7
      (try (have c7b1 : decide (a0_7 = a1_7) = false := by simpa using c7))
      (try (have c7b2 : (a0_7 == a1_7) = false := by simpa using c7))
      (try (have c7b3 : ¬ (a0_7 = a1_7) := by simpa using c7))
      clear c7
      obtain rfl := Option.some.inj H
    rotate_left 3
    focus
     rw [if_neg c6] at H
     have c6b0 : (a0_6 == a1_6) = false := beq_eq_false_iff_ne.mpr c6
     have c6b1 : (a0_6 != a1_6) = true := bne_iff_ne.mpr c6
     obtain rfl := Option.some.inj H
   rotate_left 4
   focus
    rw [if_neg c5] at H
    have c5b0 : (a0_5 == a1_5) = false := beq_eq_false_iff_ne.mpr c5
    have c5b1 : (a0_5 != a1_5) = true := bne_iff_ne.mpr c5
    obtain rfl := Option.some.inj H
  rotate_left 5
  focus
   rw [if_neg c4] at H
   have c4b0 : (a0_2 == a1_2 && (a0_3 == a1_3 && (a0_4 == a1_4))) = false := by simpa using c4
   (try (have c4b1 : decide (a0_2 = a1_2 && (a0_3 == a1_3 && (a0_4 == a1_4))) = false := by simpa using c4))
   (try (have c4b2 : (a0_2 == a1_2 && (a0_3 == a1_3 && (a0_4 == a1_4))) = false := by simpa using c4))
   (try (have c4b3 : ¬ (a0_2 = a1_2 && (a0_3 == a1_3 && (a0_4 == a1_4))) := by simpa using c4))
   clear c4
   obtain rfl := Option.some.inj H
 rotate_left 6
 focus
  rw [if_neg c3] at H
  have c3b0 : (a0_0 == a1_0 && (a0_1 == a1_1)) = false := by simpa using c3
  (try (have c3b1 : decide (a0_0 = a1_0 && (a0_1 == a1_1)) = false := by simpa using c3))
  (try (have c3b2 : (a0_0 == a1_0 && (a0_1 == a1_1)) = false := by simpa using c3))
  (try (have c3b3 : ¬ (a0_0 = a1_0 && (a0_1 == a1_1)) := by simpa using c3))
  clear c3
  obtain rfl := Option.some.inj H
 all_goals
  go_enter Try.func16, Try.ntmps16
  go_wp2_with (first | ((with_reducible refine gate_dst (N := 2) rfl ?_); refine box_event ?hg (N := 2) ?hd (cs := #[.int .i64 a0_0, .int .i64 a0_1, .int .i64 a0_2, .int .i64 a0_3, .int .i64 a0_4, .int .i64 a0_5, .int .i64 a0_6, .bool a0_7, .int .i64 a0_8, .slice A0_9 l0_9.length c0_9]) (t := 28) ?hr ?_; (case hd => rfl); (case hg => rfl); (case hr => first | (go_simp; done) | (go_simp; rfl)); intro gb291 hg w9 hbox hb; have BK291 := zA (hbox); have GW291 := zA ((by rw [hg]; exact bels : w.heap.size ≤ gb291)); have GE291 := zA ((by rw [hg]; exact bels : w.heap.size ≤ gb291)); replace HB := zA (belt hb); clear hb hbox hg) | ((with_reducible refine gate_dst (N := 3) rfl ?_); refine box_event ?hg (N := 3) ?hd (cs := #[.int .i64 a1_0, .int .i64 a1_1, .int .i64 a1_2, .int .i64 a1_3, .int .i64 a1_4, .int .i64 a1_5, .int .i64 a1_6, .bool a1_7, .int .i64 a1_8, .slice A1_9 l1_9.length c1_9]) (t := 28) ?hr ?_; (case hd => rfl); (case hg => rfl); (case hr => first | (go_simp; done) | (go_simp; rfl)); intro gb292 hg w10 hbox hb; have BK292 := zA (hbox); have GW292 := zA ((by rw [hg]; exact bels : w.heap.size ≤ gb292)); have GE292 := zA ((by rw [hg]; exact bels : w.heap.size ≤ gb292)); have NB291_292 := zA ((by rw [hg]; exact Nat.ne_of_lt (blk_lt (g := gb291) (o := .cells #[.int .i64 a0_0, .int .i64 a0_1, .int .i64 a0_2, .int .i64 a0_3, .int .i64 a0_4, .int .i64 a0_5, .int .i64 a0_6, .bool a0_7, .int .i64 a0_8, .slice A0_9 l0_9.length c0_9] 28 (0, 0)) (blk_g BK291.out)) : gb291 ≠ gb292)); have NB292_291 := zA ((by rw [hg]; exact Nat.ne_of_gt (blk_lt (g := gb291) (o := .cells #[.int .i64 a0_0, .int .i64 a0_1, .int .i64 a0_2, .int .i64 a0_3, .int .i64 a0_4, .int .i64 a0_5, .int .i64 a0_6, .bool a0_7, .int .i64 a0_8, .slice A0_9 l0_9.length c0_9] 28 (0, 0)) (blk_g BK291.out)) : gb292 ≠ gb291)); replace BK291 := zA (blk_below (g := gb291) (o := .cells #[.int .i64 a0_0, .int .i64 a0_1, .int .i64 a0_2, .int .i64 a0_3, .int .i64 a0_4, .int .i64 a0_5, .int .i64 a0_6, .bool a0_7, .int .i64 a0_8, .slice A0_9 l0_9.length c0_9] 28 (0, 0)) (blk_g BK291.out) hb); replace HB := zA (belt hb); clear hb hbox hg; have hnb11 := NB291_292.out; have hnc11 := NB292_291.out; obtain ⟨hcz12_0, hcz12_1, hcz12_2, hcz12_3, hcz12_4, hcz12_5, hcz12_6, hcz12_7, hcz12_8, hcz12_9⟩ := bx10 BK291.out; obtain ⟨hfz12_0, hfz12_1, hfz12_2, hfz12_3, hfz12_4, hfz12_5, hfz12_6, hfz12_7, hfz12_8, hfz12_9⟩ := fz10 BK291.out; obtain ⟨hcz13_0, hcz13_1, hcz13_2, hcz13_3, hcz13_4, hcz13_5, hcz13_6, hcz13_7, hcz13_8, hcz13_9⟩ := bx10 BK292.out; obtain ⟨hfz13_0, hfz13_1, hfz13_2, hfz13_3, hfz13_4, hfz13_5, hfz13_6, hfz13_7, hfz13_8, hfz13_9⟩ := fz10 BK292.out; have hcv14 := Kd.C_string (P := Try.prog) (A := A0_9) (c := c0_9) Try.underlying26 Try.underlying5 Try.underlying9 (Kd.C_below HR0_9.out HB.out); have hcv15 := Kd.C_string (P := Try.prog) (A := A1_9) (c := c1_9) Try.underlying26 Try.underlying5 Try.underlying9 (Kd.C_below HR1_9.out HB.out)) | ((with_reducible refine gate_dst (N := 3) rfl ?_); refine box_event ?hg (N := 3) ?hd (cs := #[.int .i64 a1_0, .int .i64 a1_1, .int .i64 a1_2, .int .i64 a1_3, .int .i64 a1_4, .int .i64 a1_5, .int .i64 a1_6, .bool a1_7, .int .i64 a1_8, .slice A1_9 l1_9.length c1_9]) (t := 28) ?hr ?_; (case hd => rfl); (case hg => rfl); (case hr => first | (go_simp; done) | (go_simp; rfl)); intro gb292 hg w10 hbox hb; have BK292 := zA (hbox); have GW292 := zA ((by rw [hg]; exact bels : w.heap.size ≤ gb292)); have GE292 := zA ((by rw [hg]; exact bels : w.heap.size ≤ gb292)); have NB291_292 := zA ((by rw [hg]; exact Nat.ne_of_lt (blk_lt (g := gb291) (o := .cells #[.int .i64 a0_0, .int .i64 a0_1, .int .i64 a0_2, .int .i64 a0_3, .int .i64 a0_4, .int .i64 a0_5, .int .i64 a0_6, .bool a0_7, .int .i64 a0_8, .slice A0_9 l0_9.length c0_9] 28 (0, 0)) (blk_g BK291.out)) : gb291 ≠ gb292)); have NB292_291 := zA ((by rw [hg]; exact Nat.ne_of_gt (blk_lt (g := gb291) (o := .cells #[.int .i64 a0_0, .int .i64 a0_1, .int .i64 a0_2, .int .i64 a0_3, .int .i64 a0_4, .int .i64 a0_5, .int .i64 a0_6, .bool a0_7, .int .i64 a0_8, .slice A0_9 l0_9.length c0_9] 28 (0, 0)) (blk_g BK291.out)) : gb292 ≠ gb291)); replace BK291 := zA (blk_below (g := gb291) (o := .cells #[.int .i64 a0_0, .int .i64 a0_1, .int .i64 a0_2, .int .i64 a0_3, .int .i64 a0_4, .int .i64 a0_5, .int .i64 a0_6, .bool a0_7, .int .i64 a0_8, .slice A0_9 l0_9.length c0_9] 28 (0, 0)) (blk_g BK291.out) hb); replace HB := zA (belt hb); clear hb hbox hg; have hnb11 := NB291_292.out; have hnc11 := NB292_291.out; obtain ⟨hcz12_0, hcz12_1, hcz12_2, hcz12_3, hcz12_4, hcz12_5, hcz12_6, hcz12_7, hcz12_8, hcz12_9⟩ := bx10 BK291.out; obtain ⟨hfz12_0, hfz12_1, hfz12_2, hfz12_3, hfz12_4, hfz12_5, hfz12_6, hfz12_7, hfz12_8, hfz12_9⟩ := fz10 BK291.out; obtain ⟨hcz13_0, hcz13_1, hcz13_2, hcz13_3, hcz13_4, hcz13_5, hcz13_6, hcz13_7, hcz13_8, hcz13_9⟩ := bx10 BK292.out; obtain ⟨hfz13_0, hfz13_1, hfz13_2, hfz13_3, hfz13_4, hfz13_5, hfz13_6, hfz13_7, hfz13_8, hfz13_9⟩ := fz10 BK292.out))
  go_ret
  exact ⟨by first | rfl | (simp [errW_none, errW_some] <;> rfl) | (simp [*, errW_none, errW_some] <;> rfl), bel⟩
end Go.Proofs.Ytjcfmfdkligmoaa.PRecordTells
