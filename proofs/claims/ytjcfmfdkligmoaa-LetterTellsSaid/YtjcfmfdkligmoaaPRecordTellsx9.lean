/- Written by a program (this session's own): functions that the law reaches, as plain Lean functions, each with the proof that the code comes to it. No conditions but those that stand in the theorems. -/
import Derived.Test.YtjcfmfdkligmoaaPq
import Derived.Test.YtjcfmfdkligmoaaPs
import Derived.Test.YtjcfmfdkligmoaaPRecordTellsx0
import Derived.Test.YtjcfmfdkligmoaaPRecordTellsx4
import Derived.Test.YtjcfmfdkligmoaaPRecordTellsx6
import Derived.Test.YtjcfmfdkligmoaaPRecordTellsx8
set_option maxHeartbeats 8000000
set_option maxRecDepth 100000
namespace Go.Proofs.Ytjcfmfdkligmoaa.PRecordTells
open Go.RowKit Go.Proofs.YtjcfmfdkligmoaaW.PrintWords Go.Proofs.YtjcfmfdkligmoaaW.PrintLast Go.Proofs.YtjcfmfdkligmoaaW.PrintMore
attribute [local go_sem] max2_int min2_int max_two min_two max_three min_three max_four min_four
set_option linter.unusedVariables false
set_option linter.unusedSimpArgs false
def zq_num.f (a0 : Int) : Option (Bool) := if a0 ≥ 0 then (some (decide (a0 ≤ 2147483647))) else (some false)
theorem zq_num.calls (a0 : Int) (r : Bool) (w : World) (h : zq_num.f a0 = some r) :
 Calls Try.prog 26 #[.int .i64 a0] w fun e w' => e = .returned (.bool r) ∧ Drawn0 w w' := by
 have H : (if a0 ≥ 0 then (some (decide (a0 ≤ 2147483647))) else (some false)) = some r := h
 clear h
 by_cases c2 : a0 ≥ 0
 ·rw [if_pos c2] at H
  have c2b0 : decide (0 ≤ a0) = true := decide_eq_true c2
  clear c2
  obtain rfl := Option.some.inj H
  go_enter Try.func26, Try.ntmps26
  go_wp2
  go_ret
  exact ⟨by first | rfl | (simp; done) | (simp [*]; done), by repeat (first | exact Drawn0.refl _ | apply Drawn0.step)⟩
 ·rw [if_neg c2] at H
  have c2b0 : decide (0 ≤ a0) = false := decide_eq_false c2
  clear c2
  obtain rfl := Option.some.inj H
  go_enter Try.func26, Try.ntmps26
  go_wp2
  go_ret
  exact ⟨by first | rfl | (simp; done) | (simp [*]; done), by repeat (first | exact Drawn0.refl _ | apply Drawn0.step)⟩
def zp_RightShape.f (a0_0 : Int) (a0_1 : Int) (a0_2 : Int) : Option (Bool) := if a0_0 ≥ 1 then (if a0_0 ≤ 4000 then (if a0_1 ≥ 1 then (if a0_1 ≤ 64 then (if a0_2 ≥ 1 then (some (decide (a0_2 ≤ 40))) else (some false)) else (some false)) else (some false)) else (some false)) else (some false)
theorem zp_RightShape.calls (a0_0 : Int) (a0_1 : Int) (a0_2 : Int) (r : Bool) (w : World) (h : zp_RightShape.f a0_0 a0_1 a0_2 = some r) :
 Calls Try.prog 27 #[.agg #[.int .i64 a0_0, .int .i64 a0_1, .int .i64 a0_2]] w fun e w' => e = .returned (.bool r) ∧ Below w.heap.size w w' := by
 have hu25 := Try.underlying25
 have HB := zA (Below.refl w.heap.size w)
 have H : (if a0_0 ≥ 1 then (if a0_0 ≤ 4000 then (if a0_1 ≥ 1 then (if a0_1 ≤ 64 then (if a0_2 ≥ 1 then (some (decide (a0_2 ≤ 40))) else (some false)) else (some false)) else (some false)) else (some false)) else (some false)) = some r := h
 clear h
 by_cases c2 : a0_0 ≥ 1
 focus
  rw [if_pos c2] at H
  have c2b0 : decide (1 ≤ a0_0) = true := decide_eq_true c2
  clear c2
  by_cases c3 : a0_0 ≤ 4000
  focus
   rw [if_pos c3] at H
   have c3b0 : decide (a0_0 ≤ 4000) = true := decide_eq_true c3
   clear c3
   by_cases c4 : a0_1 ≥ 1
   focus
    rw [if_pos c4] at H
    have c4b0 : decide (1 ≤ a0_1) = true := decide_eq_true c4
    clear c4
    by_cases c5 : a0_1 ≤ 64
    focus
     rw [if_pos c5] at H
     have c5b0 : decide (a0_1 ≤ 64) = true := decide_eq_true c5
     clear c5
     by_cases c6 : a0_2 ≥ 1
     focus
      rw [if_pos c6] at H
      have c6b0 : decide (1 ≤ a0_2) = true := decide_eq_true c6
      clear c6
      obtain rfl := Option.some.inj H
     rotate_left
     focus
      rw [if_neg c6] at H
      have c6b0 : decide (1 ≤ a0_2) = false := decide_eq_false c6
      clear c6
      obtain rfl := Option.some.inj H
    rotate_left 2
    focus
     rw [if_neg c5] at H
     have c5b0 : decide (a0_1 ≤ 64) = false := decide_eq_false c5
     clear c5
     obtain rfl := Option.some.inj H
   rotate_left 3
   focus
    rw [if_neg c4] at H
    have c4b0 : decide (1 ≤ a0_1) = false := decide_eq_false c4
    clear c4
    obtain rfl := Option.some.inj H
  rotate_left 4
  focus
   rw [if_neg c3] at H
   have c3b0 : decide (a0_0 ≤ 4000) = false := decide_eq_false c3
   clear c3
   obtain rfl := Option.some.inj H
 rotate_left 5
 focus
  rw [if_neg c2] at H
  have c2b0 : decide (1 ≤ a0_0) = false := decide_eq_false c2
  clear c2
  obtain rfl := Option.some.inj H
 all_goals
  go_enter Try.func27, Try.ntmps27
  go_wp2_with (first | ((with_reducible refine gate_dst (N := 1) rfl ?_); refine box_event ?hg (N := 1) ?hd (cs := #[.int .i64 a0_0, .int .i64 a0_1, .int .i64 a0_2]) (t := 25) ?hr ?_; (case hd => rfl); (case hg => rfl); (case hr => first | (go_simp; done) | (go_simp; rfl)); intro gb240 hg w11 hbox hb; have BK240 := zA (hbox); have GW240 := zA ((by rw [hg]; exact bels : w.heap.size ≤ gb240)); have GE240 := zA ((by rw [hg]; exact bels : w.heap.size ≤ gb240)); replace HB := zA (belt hb); clear hb hbox hg; obtain ⟨hcz12_0, hcz12_1, hcz12_2, hfz12_0, hfz12_1, hfz12_2⟩ := box3 BK240.out))
  go_ret
  exact ⟨by first | rfl | (simp [errW_none, errW_some] <;> rfl) | (simp [*, errW_none, errW_some] <;> rfl), bel⟩
def zp_Symbols.f (a0_0 : Int) (a0_1 : Int) (a0_2 : Int) : Option (Int) := (zp_RightShape.f a0_0 a0_1 a0_2).bind fun t242 => (if t242 = true then (if a0_1 = 0 then (none) else (some (wrap64 ((wrap64 (Int.tdiv (wrap64 (a0_0 - 1)) a0_1)) + 1)))) else (some 0))
theorem zp_Symbols.calls (a0_0 : Int) (a0_1 : Int) (a0_2 : Int) (r : Int) (w : World) (h : zp_Symbols.f a0_0 a0_1 a0_2 = some r) :
 Calls Try.prog 45 #[.agg #[.int .i64 a0_0, .int .i64 a0_1, .int .i64 a0_2]] w fun e w' => e = .returned (.int .i64 r) ∧ Below w.heap.size w w' := by
 have hu25 := Try.underlying25
 have HB := zA (Below.refl w.heap.size w)
 have H : ((zp_RightShape.f a0_0 a0_1 a0_2).bind fun t242 => (if t242 = true then (if a0_1 = 0 then (none) else (some (wrap64 ((wrap64 (Int.tdiv (wrap64 (a0_0 - 1)) a0_1)) + 1)))) else (some 0))) = some r := h
 clear h
 replace H := Option.bind_eq_some_iff.mp H
 obtain ⟨t242, A20, H⟩ := H
 replace H : (if t242 = true then (if a0_1 = 0 then (none) else (some (wrap64 ((wrap64 (Int.tdiv (wrap64 (a0_0 - 1)) a0_1)) + 1)))) else (some 0)) = some r := H
 have A2 := zA A20
 clear A20
 by_cases c3 : t242 = true
 focus
  subst c3
  have H1 : (if a0_1 = 0 then (none) else (some (wrap64 ((wrap64 (Int.tdiv (wrap64 (a0_0 - 1)) a0_1)) + 1)))) = some r := by rw [if_pos rfl] at H; exact H
  clear H
  have H := H1
  clear H1
  by_cases c4 : a0_1 = 0
  ·rw [if_pos c4] at H
   exact absurd H (by simp)
  focus
   rw [if_neg c4] at H
   have c4b0 : (a0_1 == 0) = false := beq_eq_false_iff_ne.mpr c4
   have c4b1 : (a0_1 != 0) = true := bne_iff_ne.mpr c4
   obtain rfl := Option.some.inj H
 rotate_left
 focus
  replace c3 := Bool.eq_false_iff.mpr c3
  subst c3
  have H1 : (some 0) = some r := by rw [if_neg (show ¬ (false = true) by decide)] at H; exact H
  clear H
  have H := H1
  clear H1
  obtain rfl := Option.some.inj H
 all_goals
  go_enter Try.func45, Try.ntmps45
  go_wp2_with (first | ((with_reducible refine gate_dst (N := 1) rfl ?_); refine box_event ?hg (N := 1) ?hd (cs := #[.int .i64 a0_0, .int .i64 a0_1, .int .i64 a0_2]) (t := 25) ?hr ?_; (case hd => rfl); (case hg => rfl); (case hr => first | (go_simp; done) | (go_simp; rfl)); intro gb241 hg w5 hbox hb; have BK241 := zA (hbox); have GW241 := zA ((by rw [hg]; exact bels : w.heap.size ≤ gb241)); have GE241 := zA ((by rw [hg]; exact bels : w.heap.size ≤ gb241)); replace HB := zA (belt hb); clear hb hbox hg; obtain ⟨hcz6_0, hcz6_1, hcz6_2, hfz6_0, hfz6_1, hfz6_2⟩ := box3 BK241.out) | ((with_reducible refine gate_callee (f := 27) rfl ?_); refine goesL_ (some 4) rfl rfl Try.func27 (by kernel_rfl) rfl #[.agg #[.int .i64 a0_0, .int .i64 a0_1, .int .i64 a0_2]] rfl (by (try simp only [List.map_toArray, List.map_cons, List.map_nil]); first | done | rfl | (simp only [List.length_drop, List.length_take]; rfl)) ?_; (with_reducible refine (zp_RightShape.calls a0_0 a0_1 a0_2 true _ A2.out).mono ?_); rintro e w7 ⟨rfl, hb⟩; refine ⟨_, rfl, ?_⟩; replace BK241 := zA (blk_below (g := gb241) (o := .cells #[.int .i64 a0_0, .int .i64 a0_1, .int .i64 a0_2] 25 (0, 0)) (blk_g BK241.out) hb); replace HB := zA (belt hb); obtain ⟨hcz8_0, hcz8_1, hcz8_2, hfz8_0, hfz8_1, hfz8_2⟩ := box3 BK241.out) | ((with_reducible refine gate_callee (f := 27) rfl ?_); refine goesL_ (some 4) rfl rfl Try.func27 (by kernel_rfl) rfl #[.agg #[.int .i64 a0_0, .int .i64 a0_1, .int .i64 a0_2]] rfl (by (try simp only [List.map_toArray, List.map_cons, List.map_nil]); first | done | rfl | (simp only [List.length_drop, List.length_take]; rfl)) ?_; (with_reducible refine (zp_RightShape.calls a0_0 a0_1 a0_2 false _ A2.out).mono ?_); rintro e w7 ⟨rfl, hb⟩; refine ⟨_, rfl, ?_⟩; replace BK241 := zA (blk_below (g := gb241) (o := .cells #[.int .i64 a0_0, .int .i64 a0_1, .int .i64 a0_2] 25 (0, 0)) (blk_g BK241.out) hb); replace HB := zA (belt hb)))
  go_ret
  exact ⟨by first | rfl | (simp [errW_none, errW_some] <;> rfl) | (simp [*, errW_none, errW_some] <;> rfl), bel⟩
def zp_Blocks.f (a0_0 : Int) (a0_1 : Int) (a0_2 : Int) : Option (Int) := (zp_RightShape.f a0_0 a0_1 a0_2).bind fun t244 => (if t244 = true then ((zp_Symbols.f a0_0 a0_1 a0_2).bind fun t245 => (if a0_2 = 0 then (none) else (some (wrap64 ((wrap64 (Int.tdiv (wrap64 (t245 - 1)) a0_2)) + 1))))) else (some 0))
def zp_Blocks.T3 : Bool × List (List Nat × List Nat) := (true, [([], []), ([0], [0]), ([1], [1]), ([], []), ([3], [3]), ([2, 4], [2, 4]), ([5], [5]), ([6, 1, 0, 1, 2, 3, 4, 5, 6], [6])])
def zp_Blocks.B3 : List Nat := [0, 1, 3, 0, 8, 31, 63, 127]
theorem zp_Blocks.tab3 : rtab .any (opsOf Try.f28 3) = zp_Blocks.T3 := by kernel_rfl
theorem zp_Blocks.bits3 : waitsOk zp_Blocks.T3.2 zp_Blocks.B3 = true := by kernel_rfl
theorem zp_Blocks.calls (a0_0 : Int) (a0_1 : Int) (a0_2 : Int) (r : Int) (w : World) (h : zp_Blocks.f a0_0 a0_1 a0_2 = some r) :
 Calls Try.prog 28 #[.agg #[.int .i64 a0_0, .int .i64 a0_1, .int .i64 a0_2]] w fun e w' => e = .returned (.int .i64 r) ∧ Below w.heap.size w w' := by
 have hu25 := Try.underlying25
 have HB := zA (Below.refl w.heap.size w)
 have H : ((zp_RightShape.f a0_0 a0_1 a0_2).bind fun t244 => (if t244 = true then ((zp_Symbols.f a0_0 a0_1 a0_2).bind fun t245 => (if a0_2 = 0 then (none) else (some (wrap64 ((wrap64 (Int.tdiv (wrap64 (t245 - 1)) a0_2)) + 1))))) else (some 0))) = some r := h
 clear h
 replace H := Option.bind_eq_some_iff.mp H
 obtain ⟨t244, A20, H⟩ := H
 replace H : (if t244 = true then ((zp_Symbols.f a0_0 a0_1 a0_2).bind fun t245 => (if a0_2 = 0 then (none) else (some (wrap64 ((wrap64 (Int.tdiv (wrap64 (t245 - 1)) a0_2)) + 1))))) else (some 0)) = some r := H
 have A2 := zA A20
 clear A20
 by_cases c3 : t244 = true
 ·subst c3
  have H1 : ((zp_Symbols.f a0_0 a0_1 a0_2).bind fun t245 => (if a0_2 = 0 then (none) else (some (wrap64 ((wrap64 (Int.tdiv (wrap64 (t245 - 1)) a0_2)) + 1))))) = some r := by rw [if_pos rfl] at H; exact H
  clear H
  have H := H1
  clear H1
  replace H := Option.bind_eq_some_iff.mp H
  obtain ⟨t245, A40, H⟩ := H
  replace H : (if a0_2 = 0 then (none) else (some (wrap64 ((wrap64 (Int.tdiv (wrap64 (t245 - 1)) a0_2)) + 1)))) = some r := H
  have A4 := zA A40
  clear A40
  by_cases c5 : a0_2 = 0
  ·rw [if_pos c5] at H
   exact absurd H (by simp)
  ·rw [if_neg c5] at H
   have c5b0 : (a0_2 == 0) = false := beq_eq_false_iff_ne.mpr c5
   have c5b1 : (a0_2 != 0) = true := bne_iff_ne.mpr c5
   obtain rfl := Option.some.inj H
   go_enter Try.func28, Try.ntmps28
   try go_wp2_with (first | ((with_reducible refine gate_dst (N := 1) rfl ?_); refine box_event ?hg (N := 1) ?hd (cs := #[.int .i64 a0_0, .int .i64 a0_1, .int .i64 a0_2]) (t := 25) ?hr ?_; (case hd => rfl); (case hg => rfl); (case hr => first | (go_simp; done) | (go_simp; rfl)); intro gb243 hg w6 hbox hb; have BK243 := zA (hbox); have GW243 := zA ((by rw [hg]; exact bels : w.heap.size ≤ gb243)); have GE243 := zA ((by rw [hg]; exact bels : w.heap.size ≤ gb243)); replace HB := zA (belt hb); clear hb hbox hg; obtain ⟨hcz7_0, hcz7_1, hcz7_2, hfz7_0, hfz7_1, hfz7_2⟩ := box3 BK243.out) | ((with_reducible refine gate_callee (f := 27) rfl ?_); refine goesL_ (some 4) rfl rfl Try.func27 (by kernel_rfl) rfl #[.agg #[.int .i64 a0_0, .int .i64 a0_1, .int .i64 a0_2]] rfl (by (try simp only [List.map_toArray, List.map_cons, List.map_nil]); first | done | rfl | (simp only [List.length_drop, List.length_take]; rfl)) ?_; (with_reducible refine (zp_RightShape.calls a0_0 a0_1 a0_2 true _ A2.out).mono ?_); rintro e w8 ⟨rfl, hb⟩; refine ⟨_, rfl, ?_⟩; replace BK243 := zA (blk_below (g := gb243) (o := .cells #[.int .i64 a0_0, .int .i64 a0_1, .int .i64 a0_2] 25 (0, 0)) (blk_g BK243.out) hb); replace HB := zA (belt hb)))
   replace BK243 := zA (blk_drew BK243.out)
   replace HB := zA (below_drew1 HB.out)
   refine start_ (n := 8) (S := fun w' => w'.cell? ⟨gb243, 0, none⟩ = some (.int .i64 a0_0) ∧ w'.cell? ⟨gb243, 1, none⟩ = some (.int .i64 a0_1) ∧ w'.cell? ⟨gb243, 2, none⟩ = some (.int .i64 a0_2)) (ds := []) (ms 8 0) (by kernel_rfl) rfl rfl (bx3 BK243.out) (fun hHeld => ?_); refine with_tabW zp_Blocks.tab3 zp_Blocks.bits3 (fun HT_ HW_ => ?_)
   generalize w8.drew = w9 at BK243 HB hHeld ⊢
   refine run_ [(3, false, some 9), (0, true, some 6), (4, true, some 10)] (n := 3) (ms 8 25) rfl HT_.out HW_.out (by kernel_rfl) (fun _ _ _ _ h => h) hHeld ?_
   repeat (first | (refine Run.p (v := ?_) (a' := ?_) rfl rfl (Or.inl ⟨by rfl, ?_⟩) ?_ ?_; rotate_left; (focus intro w'; go_simp; with_reducible rfl); rotate_left; (focus simp only [Act.put, sx]; rfl)) | (refine Run.t (v := ?_) (a' := ?_) rfl rfl (Or.inl ⟨by rfl, ?_⟩) ?_ ?_; rotate_left; (focus rintro w' ⟨s0, s1, s2⟩; go_simp; with_reducible rfl); rotate_left; (focus simp only [Act.put, sx]; rfl)))
   refine Run.nil ?_
   refine one_ (i := 1) (N := some 7) (ms 8 27) rfl rfl (one_of HT_.out (by kernel_rfl)) (by decide) (fun K hK => ?_)
   refine goes_ Try.func45 (by kernel_rfl) rfl #[.agg #[.int .i64 a0_0, .int .i64 a0_1, .int .i64 a0_2]] (by rfl) rfl rfl (by (try simp only [List.map_toArray, List.map_cons, List.map_nil]); first | done | rfl | (simp only [List.length_drop, List.length_take]; rfl)) ?_
   with_reducible refine (zp_Symbols.calls a0_0 a0_1 a0_2 t245 _ A4.out).mono ?_
   rintro e w10 ⟨rfl, hb⟩
   refine ⟨_, rfl, ?_⟩
   replace BK243 := zA (blk_below (g := gb243) (o := .cells #[.int .i64 a0_0, .int .i64 a0_1, .int .i64 a0_2] 25 (0, 0)) (blk_g BK243.out) hb)
   replace HB := zA (belt hb)
   (try clear hb)
   (try clear hb2)
   (try clear hk)
   (try clear hi)
   refine hK.out _ _ (bx3 BK243.out) (fun hHeld => ?_)
   clear hK K
   refine norm_ (a' := ?_) ?_ ?_
   rotate_left
   ·show Act.put _ (some 7) _ = _
    simp only [Act.put, sx]
    rfl
   refine run_ [(2, false, some 8), (5, false, some 11), (6, false, some 12), (7, false, some 2)] (n := 4) (ms 8 255) rfl HT_.out HW_.out (by kernel_rfl) (fun _ _ _ _ h => h) hHeld ?_
   repeat (refine Run.p (v := ?_) (a' := ?_) rfl rfl (Or.inl ⟨by rfl, ?_⟩) ?_ ?_; rotate_left; (focus intro w'; go_simp; with_reducible rfl); rotate_left; (focus simp only [Act.put, sx]; rfl))
   refine Run.nil ?_
   refine done_ (done_of HT_.out (by kernel_rfl)) ?_
   try go_wp2
   go_ret
   exact ⟨by first | rfl | (simp [errW_none, errW_some] <;> rfl) | (simp [*, errW_none, errW_some] <;> rfl), bel⟩
 ·replace c3 := Bool.eq_false_iff.mpr c3
  subst c3
  have H1 : (some 0) = some r := by rw [if_neg (show ¬ (false = true) by decide)] at H; exact H
  clear H
  have H := H1
  clear H1
  obtain rfl := Option.some.inj H
  go_enter Try.func28, Try.ntmps28
  go_wp2_with (first | ((with_reducible refine gate_dst (N := 1) rfl ?_); refine box_event ?hg (N := 1) ?hd (cs := #[.int .i64 a0_0, .int .i64 a0_1, .int .i64 a0_2]) (t := 25) ?hr ?_; (case hd => rfl); (case hg => rfl); (case hr => first | (go_simp; done) | (go_simp; rfl)); intro gb243 hg w11 hbox hb; have BK243 := zA (hbox); have GW243 := zA ((by rw [hg]; exact bels : w.heap.size ≤ gb243)); have GE243 := zA ((by rw [hg]; exact bels : w.heap.size ≤ gb243)); replace HB := zA (belt hb); clear hb hbox hg; obtain ⟨hcz12_0, hcz12_1, hcz12_2, hfz12_0, hfz12_1, hfz12_2⟩ := box3 BK243.out) | ((with_reducible refine gate_callee (f := 27) rfl ?_); refine goesL_ (some 4) rfl rfl Try.func27 (by kernel_rfl) rfl #[.agg #[.int .i64 a0_0, .int .i64 a0_1, .int .i64 a0_2]] rfl (by (try simp only [List.map_toArray, List.map_cons, List.map_nil]); first | done | rfl | (simp only [List.length_drop, List.length_take]; rfl)) ?_; (with_reducible refine (zp_RightShape.calls a0_0 a0_1 a0_2 false _ A2.out).mono ?_); rintro e w13 ⟨rfl, hb⟩; refine ⟨_, rfl, ?_⟩; replace BK243 := zA (blk_below (g := gb243) (o := .cells #[.int .i64 a0_0, .int .i64 a0_1, .int .i64 a0_2] 25 (0, 0)) (blk_g BK243.out) hb); replace HB := zA (belt hb)))
  go_ret
  exact ⟨by first | rfl | (simp [errW_none, errW_some] <;> rfl) | (simp [*, errW_none, errW_some] <;> rfl), bel⟩
end Go.Proofs.Ytjcfmfdkligmoaa.PRecordTells
