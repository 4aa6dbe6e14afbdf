/- Written by a program (this session's own): functions that the law reaches, as plain Lean functions, each with the proof that the code comes to it. No conditions but those that stand in the theorems. -/
import Derived.Test.YtjcfmfdkligmoaaPq
import Derived.Test.YtjcfmfdkligmoaaPs
import Derived.Test.YtjcfmfdkligmoaaPLetterLimitsx0
import Derived.Test.YtjcfmfdkligmoaaPRecordTellsx8
import Derived.Test.YtjcfmfdkligmoaaPRecordTellsx11
import Derived.Test.YtjcfmfdkligmoaaPRecordTellsx12
import Derived.Test.YtjcfmfdkligmoaaPLetterTornx0
import Derived.Test.YtjcfmfdkligmoaaPLetterTornx9
set_option maxHeartbeats 8000000
set_option maxRecDepth 100000
namespace Go.Proofs.Ytjcfmfdkligmoaa.PLetterTorn
open Go.RowKit Go.Proofs.YtjcfmfdkligmoaaW.PrintWords Go.Proofs.YtjcfmfdkligmoaaW.PrintLast Go.Proofs.YtjcfmfdkligmoaaW.PrintMore Go.Proofs.Ytjcfmfdkligmoaa.PRecordTells Go.Proofs.Ytjcfmfdkligmoaa.PLetterLimits
attribute [local go_sem] max2_int min2_int max_two min_two max_three min_three max_four min_four
set_option linter.unusedVariables false
set_option linter.unusedSimpArgs false
mutual
def zq_LetterBytes.j0 : Nat → Bool → Int → Int → Int → Int → Int → Int → List Int → List (S28) → Option (List Int)
 | 0, _, _, _, _, _, _, _, _, _ => none
 | k + 1, x58, x308000, x308001, x308002, x308003, x308004, x308005, x308006, x308007 => if x58 = true then (some ([] : List Int)) else ((zq_put.f k (([(x308000) % 256] : List Int)) x308001 4).bind fun t316 => ((zq_put.f k t316 x308002 4).bind fun t319 => ((zq_put.f k t319 x308003 4).bind fun t322 => ((zq_put.f k t322 x308004 4).bind fun t325 => ((zq_put.f k t325 x308005 4).bind fun t328 => ((zq_put.f k t328 (x308006.length : Int) 1).bind fun t331 => (zq_LetterBytes.l0 k t331 0 x308000 x308001 x308002 x308003 x308004 x308005 x308006 x308007)))))))
def zq_LetterBytes.l0 : Nat → List Int → Int → Int → Int → Int → Int → Int → Int → List Int → List (S28) → Option (List Int)
 | 0, _, _, _, _, _, _, _, _, _, _ => none
 | k + 1, x3, x4, x308000, x308001, x308002, x308003, x308004, x308005, x308006, x308007 => if x4 < (x308006.length : Int) then (if 0 ≤ x4 then ((zq_num.f (rd x308006 x4)).bind fun t335 => (if t335 = true then ((zq_put.f k x3 (rd x308006 x4) 4).bind fun t337 => (zq_LetterBytes.l0 k t337 (wrap64 (x4 + 1)) x308000 x308001 x308002 x308003 x308004 x308005 x308006 x308007)) else (some ([] : List Int)))) else (none)) else ((zq_put.f k x3 (x308007.length : Int) 1).bind fun t340 => (zq_LetterBytes.l1 k t340 0 x308000 x308001 x308002 x308003 x308004 x308005 x308006 x308007))
def zq_LetterBytes.l1 : Nat → List Int → Int → Int → Int → Int → Int → Int → Int → List Int → List (S28) → Option (List Int)
 | 0, _, _, _, _, _, _, _, _, _, _ => none
 | k + 1, x3, x5, x308000, x308001, x308002, x308003, x308004, x308005, x308006, x308007 => if x5 < (x308007.length : Int) then (if 0 ≤ x5 then ((zq_RecordBytes.f k ((rd_T28 x308007 x5).f0.f0) ((rd_T28 x308007 x5).f0.f1) ((rd_T28 x308007 x5).f1.f0) ((rd_T28 x308007 x5).f1.f1) ((rd_T28 x308007 x5).f1.f2) ((rd_T28 x308007 x5).f2) ((rd_T28 x308007 x5).f3) ((rd_T28 x308007 x5).f4) ((rd_T28 x308007 x5).f5) ((rd_T28 x308007 x5).f6)).bind fun t344 => (if (t344.length : Int) = 0 then (some ([] : List Int)) else ((zq_put.f k x3 (t344.length : Int) 2).bind fun t347 => (if t347.length + t344.length < 140737488355328 then (zq_LetterBytes.l1 k (t347 ++ t344) (wrap64 (x5 + 1)) x308000 x308001 x308002 x308003 x308004 x308005 x308006 x308007) else (none))))) else (none)) else (some x3)
end
def zq_LetterBytes.f (k : Nat) (a0_0 : Int) (a0_1 : Int) (a0_2 : Int) (a0_3 : Int) (a0_4 : Int) (a0_5 : Int) (l0_6 : List Int) (l0_7 : List (S28)) : Option (List Int) := if a0_0 < 1 then (zq_LetterBytes.j0 k true a0_0 a0_1 a0_2 a0_3 a0_4 a0_5 l0_6 l0_7) else (if a0_0 > 3 then (zq_LetterBytes.j0 k true a0_0 a0_1 a0_2 a0_3 a0_4 a0_5 l0_6 l0_7) else ((zq_num.f a0_1).bind fun t308 => (if t308 = true then ((zq_num.f a0_2).bind fun t309 => (if t309 = true then ((zq_num.f a0_3).bind fun t310 => (if t310 = true then ((zq_num.f a0_4).bind fun t311 => (if t311 = true then ((zq_num.f a0_5).bind fun t312 => (if t312 = true then (if (l0_6.length : Int) > 255 then (zq_LetterBytes.j0 k true a0_0 a0_1 a0_2 a0_3 a0_4 a0_5 l0_6 l0_7) else (zq_LetterBytes.j0 k (decide ((l0_7.length : Int) > 255)) a0_0 a0_1 a0_2 a0_3 a0_4 a0_5 l0_6 l0_7)) else (zq_LetterBytes.j0 k true a0_0 a0_1 a0_2 a0_3 a0_4 a0_5 l0_6 l0_7))) else (zq_LetterBytes.j0 k true a0_0 a0_1 a0_2 a0_3 a0_4 a0_5 l0_6 l0_7))) else (zq_LetterBytes.j0 k true a0_0 a0_1 a0_2 a0_3 a0_4 a0_5 l0_6 l0_7))) else (zq_LetterBytes.j0 k true a0_0 a0_1 a0_2 a0_3 a0_4 a0_5 l0_6 l0_7))) else (zq_LetterBytes.j0 k true a0_0 a0_1 a0_2 a0_3 a0_4 a0_5 l0_6 l0_7))))
def zq_LetterBytes.T3 : Bool × List (List Nat × List Nat) := (true, [([], []), ([0], [0]), ([1], [1]), ([2], [2]), ([], []), ([4], [4]), ([3, 5], [3, 5]), ([], []), ([7], [7]), ([6, 8, 6], [6, 8]), ([], []), ([10], [10]), ([9, 11, 9], [9, 11]), ([], []), ([13], [13]), ([14], [14]), ([12, 15, 12], [12, 15]), ([], []), ([17], [17]), ([18], [18]), ([16, 19, 16], [16, 19]), ([20, 20, 0, 1, 2, 3, 4, 5, 6, 7, 8, 9, 10, 11, 12, 13, 14, 15, 16, 17, 18, 19, 20], [20])])
def zq_LetterBytes.B3 : List Nat := [0, 1, 3, 7, 0, 16, 63, 0, 128, 511, 0, 1024, 4095, 0, 8192, 24576, 65535, 0, 131072, 393216, 1048575, 2097151]
theorem zq_LetterBytes.tab3 : rtab .any (opsOf Try.f23 3) = zq_LetterBytes.T3 := by kernel_rfl
theorem zq_LetterBytes.bits3 : waitsOk zq_LetterBytes.T3.2 zq_LetterBytes.B3 = true := by kernel_rfl
theorem zq_LetterBytes.calls (k : Nat) (a0_0 : Int) (a0_1 : Int) (a0_2 : Int) (a0_3 : Int) (a0_4 : Int) (a0_5 : Int) (A0_6 : Option Addr) (c0_6 : Nat) (l0_6 : List Int) (A0_7 : Option Addr) (c0_7 : Nat) (l0_7 : List (S28)) (r : List Int) (w : World) (hr0_6 : Kd.C (Kd.int .i64) w A0_6 l0_6.length l0_6) (hc0_6 : l0_6.length ≤ c0_6) (hr0_7 : Kd.C k28 w A0_7 l0_7.length l0_7) (hc0_7 : l0_7.length ≤ c0_7) (h : zq_LetterBytes.f k a0_0 a0_1 a0_2 a0_3 a0_4 a0_5 l0_6 l0_7 = some r) :
 Calls Try.prog 23 #[.agg #[.int .i64 a0_0, .int .i64 a0_1, .int .i64 a0_2, .int .i64 a0_3, .int .i64 a0_4, .int .i64 a0_5, .slice A0_6 l0_6.length c0_6, .slice A0_7 l0_7.length c0_7]] w fun e w' => ∃ v0_ : Value, e = .returned (v0_) ∧ Kd.R (Kd.int .u8) 5 w' w.heap.size (fun _ => True) v0_ r ∧ Below w.heap.size w w' := by
 have hu45 := Try.underlying45
 have hu28 := Try.underlying28
 have HR0_6 := zA hr0_6
 have HC0_6 := zA hc0_6
 clear hr0_6 hc0_6
 have HR0_7 := zA hr0_7
 have HC0_7 := zA hc0_7
 clear hr0_7 hc0_7
 have HB := zA (Below.refl w.heap.size w)
 have H : (if a0_0 < 1 then (zq_LetterBytes.j0 k true a0_0 a0_1 a0_2 a0_3 a0_4 a0_5 l0_6 l0_7) else (if a0_0 > 3 then (zq_LetterBytes.j0 k true a0_0 a0_1 a0_2 a0_3 a0_4 a0_5 l0_6 l0_7) else ((zq_num.f a0_1).bind fun t308 => (if t308 = true then ((zq_num.f a0_2).bind fun t309 => (if t309 = true then ((zq_num.f a0_3).bind fun t310 => (if t310 = true then ((zq_num.f a0_4).bind fun t311 => (if t311 = true then ((zq_num.f a0_5).bind fun t312 => (if t312 = true then (if (l0_6.length : Int) > 255 then (zq_LetterBytes.j0 k true a0_0 a0_1 a0_2 a0_3 a0_4 a0_5 l0_6 l0_7) else (zq_LetterBytes.j0 k (decide ((l0_7.length : Int) > 255)) a0_0 a0_1 a0_2 a0_3 a0_4 a0_5 l0_6 l0_7)) else (zq_LetterBytes.j0 k true a0_0 a0_1 a0_2 a0_3 a0_4 a0_5 l0_6 l0_7))) else (zq_LetterBytes.j0 k true a0_0 a0_1 a0_2 a0_3 a0_4 a0_5 l0_6 l0_7))) else (zq_LetterBytes.j0 k true a0_0 a0_1 a0_2 a0_3 a0_4 a0_5 l0_6 l0_7))) else (zq_LetterBytes.j0 k true a0_0 a0_1 a0_2 a0_3 a0_4 a0_5 l0_6 l0_7))) else (zq_LetterBytes.j0 k true a0_0 a0_1 a0_2 a0_3 a0_4 a0_5 l0_6 l0_7))))) = some r := h
 clear h
 have HC2 := zA H
 clear H
 go_enter Try.func23, Try.ntmps23
 go_upto_region 1 with (first | ((with_reducible refine gate_dst (N := 1) rfl ?_); (try (refine gate_guard (by rfl) ?_; dsimp only)); refine box_event ?hg (N := 1) ?hd (cs := #[.int .i64 a0_0, .int .i64 a0_1, .int .i64 a0_2, .int .i64 a0_3, .int .i64 a0_4, .int .i64 a0_5, .slice A0_6 l0_6.length c0_6, .slice A0_7 l0_7.length c0_7]) (t := 45) ?hr ?_; (case hd => rfl); (case hg => rfl); (case hr => first | (go_simp; done) | (go_simp; rfl)); intro gb307 hg w3 hbox hb; have BK307 := zA (hbox); have GW307 := zA ((by rw [hg]; exact bels : w.heap.size ≤ gb307)); have GE307 := zA ((by rw [hg]; exact bels : w.heap.size ≤ gb307)); replace HB := zA (belt hb); clear hb hbox hg))
 (try simp only [Act.put, List.setIfInBounds_toArray, List.set_cons_zero, List.set_cons_succ])
 go_cut [58] (fun v58 wc => ∃ (kq : Nat) (x58_1 : Bool), v58 = .bool x58_1 ∧ Aside0 (zq_LetterBytes.j0 kq x58_1 a0_0 a0_1 a0_2 a0_3 a0_4 a0_5 l0_6 l0_7 = some r) ∧ Aside0 (kq ≤ k) ∧ Aside0 (wc.heap[gb307]? = some (.cells #[.int .i64 a0_0, .int .i64 a0_1, .int .i64 a0_2, .int .i64 a0_3, .int .i64 a0_4, .int .i64 a0_5, (.slice A0_6 l0_6.length c0_6), (.slice A0_7 l0_7.length c0_7)] 45 (0, 0))) ∧ Aside0 (Below w.heap.size w wc))
 case first =>
  have H := HC2.out
  clear HC2
  by_cases c4 : a0_0 < 1
  ·rw [if_pos c4] at H
   have c4b0 : decide (a0_0 < 1) = true := decide_eq_true c4
   clear c4
   (first | rw [c4b0] | (simp only [i64_w, i32_w]; rw [c4b0]) | skip)
   have H' := zA H
   clear H
   obtain ⟨hcz5_0, hcz5_1, hcz5_2, hcz5_3, hcz5_4, hcz5_5, hcz5_6, hcz5_7⟩ := bx8 BK307.out
   obtain ⟨hfz5_0, hfz5_1, hfz5_2, hfz5_3, hfz5_4, hfz5_5, hfz5_6, hfz5_7⟩ := fz8 BK307.out
   go_wp2
   go_meet
   case rel => exact ⟨_, (true), frs, H', ⟨by first | omega | exact Nat.le_refl _⟩, ⟨rdB BK307.out⟩, ⟨bel⟩⟩
  ·rw [if_neg c4] at H
   have c4b0 : decide (a0_0 < 1) = false := decide_eq_false c4
   clear c4
   (first | rw [c4b0] | (simp only [i64_w, i32_w]; rw [c4b0]) | skip)
   by_cases c6 : a0_0 > 3
   ·rw [if_pos c6] at H
    have c6b0 : decide (3 < a0_0) = true := decide_eq_true c6
    clear c6
    have H' := zA H
    clear H
    obtain ⟨hcz7_0, hcz7_1, hcz7_2, hcz7_3, hcz7_4, hcz7_5, hcz7_6, hcz7_7⟩ := bx8 BK307.out
    obtain ⟨hfz7_0, hfz7_1, hfz7_2, hfz7_3, hfz7_4, hfz7_5, hfz7_6, hfz7_7⟩ := fz8 BK307.out
    go_wp2
    go_meet
    case rel => exact ⟨_, (true), frs, H', ⟨by first | omega | exact Nat.le_refl _⟩, ⟨rdB BK307.out⟩, ⟨bel⟩⟩
   ·rw [if_neg c6] at H
    have c6b0 : decide (3 < a0_0) = false := decide_eq_false c6
    clear c6
    replace H := Option.bind_eq_some_iff.mp H
    obtain ⟨t308, A80, H⟩ := H
    try dsimp only at H
    have A8 := zA A80
    clear A80
    by_cases c9 : t308 = true
    ·subst c9
     have H1 : ((zq_num.f a0_2).bind fun t309 => (if t309 = true then ((zq_num.f a0_3).bind fun t310 => (if t310 = true then ((zq_num.f a0_4).bind fun t311 => (if t311 = true then ((zq_num.f a0_5).bind fun t312 => (if t312 = true then (if (l0_6.length : Int) > 255 then (zq_LetterBytes.j0 k true a0_0 a0_1 a0_2 a0_3 a0_4 a0_5 l0_6 l0_7) else (zq_LetterBytes.j0 k (decide ((l0_7.length : Int) > 255)) a0_0 a0_1 a0_2 a0_3 a0_4 a0_5 l0_6 l0_7)) else (zq_LetterBytes.j0 k true a0_0 a0_1 a0_2 a0_3 a0_4 a0_5 l0_6 l0_7))) else (zq_LetterBytes.j0 k true a0_0 a0_1 a0_2 a0_3 a0_4 a0_5 l0_6 l0_7))) else (zq_LetterBytes.j0 k true a0_0 a0_1 a0_2 a0_3 a0_4 a0_5 l0_6 l0_7))) else (zq_LetterBytes.j0 k true a0_0 a0_1 a0_2 a0_3 a0_4 a0_5 l0_6 l0_7))) = some r := by rw [if_pos rfl] at H; exact H
     clear H
     have H := H1
     clear H1
     replace H := Option.bind_eq_some_iff.mp H
     obtain ⟨t309, A100, H⟩ := H
     try dsimp only at H
     have A10 := zA A100
     clear A100
     by_cases c11 : t309 = true
     ·subst c11
      have H1 : ((zq_num.f a0_3).bind fun t310 => (if t310 = true then ((zq_num.f a0_4).bind fun t311 => (if t311 = true then ((zq_num.f a0_5).bind fun t312 => (if t312 = true then (if (l0_6.length : Int) > 255 then (zq_LetterBytes.j0 k true a0_0 a0_1 a0_2 a0_3 a0_4 a0_5 l0_6 l0_7) else (zq_LetterBytes.j0 k (decide ((l0_7.length : Int) > 255)) a0_0 a0_1 a0_2 a0_3 a0_4 a0_5 l0_6 l0_7)) else (zq_LetterBytes.j0 k true a0_0 a0_1 a0_2 a0_3 a0_4 a0_5 l0_6 l0_7))) else (zq_LetterBytes.j0 k true a0_0 a0_1 a0_2 a0_3 a0_4 a0_5 l0_6 l0_7))) else (zq_LetterBytes.j0 k true a0_0 a0_1 a0_2 a0_3 a0_4 a0_5 l0_6 l0_7))) = some r := by rw [if_pos rfl] at H; exact H
      clear H
      have H := H1
      clear H1
      replace H := Option.bind_eq_some_iff.mp H
      obtain ⟨t310, A120, H⟩ := H
      try dsimp only at H
      have A12 := zA A120
      clear A120
      by_cases c13 : t310 = true
      ·subst c13
       have H1 : ((zq_num.f a0_4).bind fun t311 => (if t311 = true then ((zq_num.f a0_5).bind fun t312 => (if t312 = true then (if (l0_6.length : Int) > 255 then (zq_LetterBytes.j0 k true a0_0 a0_1 a0_2 a0_3 a0_4 a0_5 l0_6 l0_7) else (zq_LetterBytes.j0 k (decide ((l0_7.length : Int) > 255)) a0_0 a0_1 a0_2 a0_3 a0_4 a0_5 l0_6 l0_7)) else (zq_LetterBytes.j0 k true a0_0 a0_1 a0_2 a0_3 a0_4 a0_5 l0_6 l0_7))) else (zq_LetterBytes.j0 k true a0_0 a0_1 a0_2 a0_3 a0_4 a0_5 l0_6 l0_7))) = some r := by rw [if_pos rfl] at H; exact H
       clear H
       have H := H1
       clear H1
       replace H := Option.bind_eq_some_iff.mp H
       obtain ⟨t311, A140, H⟩ := H
       try dsimp only at H
       have A14 := zA A140
       clear A140
       by_cases c15 : t311 = true
       ·subst c15
        have H1 : ((zq_num.f a0_5).bind fun t312 => (if t312 = true then (if (l0_6.length : Int) > 255 then (zq_LetterBytes.j0 k true a0_0 a0_1 a0_2 a0_3 a0_4 a0_5 l0_6 l0_7) else (zq_LetterBytes.j0 k (decide ((l0_7.length : Int) > 255)) a0_0 a0_1 a0_2 a0_3 a0_4 a0_5 l0_6 l0_7)) else (zq_LetterBytes.j0 k true a0_0 a0_1 a0_2 a0_3 a0_4 a0_5 l0_6 l0_7))) = some r := by rw [if_pos rfl] at H; exact H
        clear H
        have H := H1
        clear H1
        replace H := Option.bind_eq_some_iff.mp H
        obtain ⟨t312, A160, H⟩ := H
        try dsimp only at H
        have A16 := zA A160
        clear A160
        by_cases c17 : t312 = true
        ·subst c17
         have H1 : (if (l0_6.length : Int) > 255 then (zq_LetterBytes.j0 k true a0_0 a0_1 a0_2 a0_3 a0_4 a0_5 l0_6 l0_7) else (zq_LetterBytes.j0 k (decide ((l0_7.length : Int) > 255)) a0_0 a0_1 a0_2 a0_3 a0_4 a0_5 l0_6 l0_7)) = some r := by rw [if_pos rfl] at H; exact H
         clear H
         have H := H1
         clear H1
         by_cases c18 : (l0_6.length : Int) > 255
         ·rw [if_pos c18] at H
          have c18b0 : decide (255 < (l0_6.length : Int)) = true := decide_eq_true c18
          have c18b1 : decide (255 < l0_6.length) = true := decide_eq_true (by omega)
          clear c18
          have H' := zA H
          clear H
          obtain ⟨hcz19_0, hcz19_1, hcz19_2, hcz19_3, hcz19_4, hcz19_5, hcz19_6, hcz19_7⟩ := bx8 BK307.out
          obtain ⟨hfz19_0, hfz19_1, hfz19_2, hfz19_3, hfz19_4, hfz19_5, hfz19_6, hfz19_7⟩ := fz8 BK307.out
          go_wp2_with (first | (go_at_call 26; (with_reducible refine (zq_num.calls a0_1 true _ A8.out).mono ?_); rintro e w' ⟨rfl, ⟨nd, rfl⟩⟩) | (go_at_call 26; (with_reducible refine (zq_num.calls a0_2 true _ A10.out).mono ?_); rintro e w' ⟨rfl, ⟨nd, rfl⟩⟩) | (go_at_call 26; (with_reducible refine (zq_num.calls a0_3 true _ A12.out).mono ?_); rintro e w' ⟨rfl, ⟨nd, rfl⟩⟩) | (go_at_call 26; (with_reducible refine (zq_num.calls a0_4 true _ A14.out).mono ?_); rintro e w' ⟨rfl, ⟨nd, rfl⟩⟩) | (go_at_call 26; (with_reducible refine (zq_num.calls a0_5 true _ A16.out).mono ?_); rintro e w' ⟨rfl, ⟨nd, rfl⟩⟩))
          go_meet
          case rel => exact ⟨_, (true), frs, H', ⟨by first | omega | exact Nat.le_refl _⟩, ⟨rdB BK307.out⟩, ⟨bel⟩⟩
         ·rw [if_neg c18] at H
          have c18b0 : decide (255 < (l0_6.length : Int)) = false := decide_eq_false c18
          have c18b1 : decide (255 < l0_6.length) = false := decide_eq_false (by omega)
          clear c18
          have H' := zA H
          clear H
          obtain ⟨hcz20_0, hcz20_1, hcz20_2, hcz20_3, hcz20_4, hcz20_5, hcz20_6, hcz20_7⟩ := bx8 BK307.out
          obtain ⟨hfz20_0, hfz20_1, hfz20_2, hfz20_3, hfz20_4, hfz20_5, hfz20_6, hfz20_7⟩ := fz8 BK307.out
          go_wp2_with (first | (go_at_call 26; (with_reducible refine (zq_num.calls a0_1 true _ A8.out).mono ?_); rintro e w' ⟨rfl, ⟨nd, rfl⟩⟩) | (go_at_call 26; (with_reducible refine (zq_num.calls a0_2 true _ A10.out).mono ?_); rintro e w' ⟨rfl, ⟨nd, rfl⟩⟩) | (go_at_call 26; (with_reducible refine (zq_num.calls a0_3 true _ A12.out).mono ?_); rintro e w' ⟨rfl, ⟨nd, rfl⟩⟩) | (go_at_call 26; (with_reducible refine (zq_num.calls a0_4 true _ A14.out).mono ?_); rintro e w' ⟨rfl, ⟨nd, rfl⟩⟩) | (go_at_call 26; (with_reducible refine (zq_num.calls a0_5 true _ A16.out).mono ?_); rintro e w' ⟨rfl, ⟨nd, rfl⟩⟩))
          go_meet
          case rel => exact ⟨_, (decide ((l0_7.length : Int) > 255)), frs, H', ⟨by first | omega | exact Nat.le_refl _⟩, ⟨rdB BK307.out⟩, ⟨bel⟩⟩
        ·replace c17 := Bool.eq_false_iff.mpr c17
         subst c17
         have H1 : (zq_LetterBytes.j0 k true a0_0 a0_1 a0_2 a0_3 a0_4 a0_5 l0_6 l0_7) = some r := by rw [if_neg (show ¬ (false = true) by decide)] at H; exact H
         clear H
         have H := H1
         clear H1
         have H' := zA H
         clear H
         obtain ⟨hcz21_0, hcz21_1, hcz21_2, hcz21_3, hcz21_4, hcz21_5, hcz21_6, hcz21_7⟩ := bx8 BK307.out
         obtain ⟨hfz21_0, hfz21_1, hfz21_2, hfz21_3, hfz21_4, hfz21_5, hfz21_6, hfz21_7⟩ := fz8 BK307.out
         go_wp2_with (first | (go_at_call 26; (with_reducible refine (zq_num.calls a0_1 true _ A8.out).mono ?_); rintro e w' ⟨rfl, ⟨nd, rfl⟩⟩) | (go_at_call 26; (with_reducible refine (zq_num.calls a0_2 true _ A10.out).mono ?_); rintro e w' ⟨rfl, ⟨nd, rfl⟩⟩) | (go_at_call 26; (with_reducible refine (zq_num.calls a0_3 true _ A12.out).mono ?_); rintro e w' ⟨rfl, ⟨nd, rfl⟩⟩) | (go_at_call 26; (with_reducible refine (zq_num.calls a0_4 true _ A14.out).mono ?_); rintro e w' ⟨rfl, ⟨nd, rfl⟩⟩) | (go_at_call 26; (with_reducible refine (zq_num.calls a0_5 false _ A16.out).mono ?_); rintro e w' ⟨rfl, ⟨nd, rfl⟩⟩))
         go_meet
         case rel => exact ⟨_, (true), frs, H', ⟨by first | omega | exact Nat.le_refl _⟩, ⟨rdB BK307.out⟩, ⟨bel⟩⟩
       ·replace c15 := Bool.eq_false_iff.mpr c15
        subst c15
        have H1 : (zq_LetterBytes.j0 k true a0_0 a0_1 a0_2 a0_3 a0_4 a0_5 l0_6 l0_7) = some r := by rw [if_neg (show ¬ (false = true) by decide)] at H; exact H
        clear H
        have H := H1
        clear H1
        have H' := zA H
        clear H
        obtain ⟨hcz22_0, hcz22_1, hcz22_2, hcz22_3, hcz22_4, hcz22_5, hcz22_6, hcz22_7⟩ := bx8 BK307.out
        obtain ⟨hfz22_0, hfz22_1, hfz22_2, hfz22_3, hfz22_4, hfz22_5, hfz22_6, hfz22_7⟩ := fz8 BK307.out
        go_wp2_with (first | (go_at_call 26; (with_reducible refine (zq_num.calls a0_1 true _ A8.out).mono ?_); rintro e w' ⟨rfl, ⟨nd, rfl⟩⟩) | (go_at_call 26; (with_reducible refine (zq_num.calls a0_2 true _ A10.out).mono ?_); rintro e w' ⟨rfl, ⟨nd, rfl⟩⟩) | (go_at_call 26; (with_reducible refine (zq_num.calls a0_3 true _ A12.out).mono ?_); rintro e w' ⟨rfl, ⟨nd, rfl⟩⟩) | (go_at_call 26; (with_reducible refine (zq_num.calls a0_4 false _ A14.out).mono ?_); rintro e w' ⟨rfl, ⟨nd, rfl⟩⟩))
        go_meet
        case rel => exact ⟨_, (true), frs, H', ⟨by first | omega | exact Nat.le_refl _⟩, ⟨rdB BK307.out⟩, ⟨bel⟩⟩
      ·replace c13 := Bool.eq_false_iff.mpr c13
       subst c13
       have H1 : (zq_LetterBytes.j0 k true a0_0 a0_1 a0_2 a0_3 a0_4 a0_5 l0_6 l0_7) = some r := by rw [if_neg (show ¬ (false = true) by decide)] at H; exact H
       clear H
       have H := H1
       clear H1
       have H' := zA H
       clear H
       obtain ⟨hcz23_0, hcz23_1, hcz23_2, hcz23_3, hcz23_4, hcz23_5, hcz23_6, hcz23_7⟩ := bx8 BK307.out
       obtain ⟨hfz23_0, hfz23_1, hfz23_2, hfz23_3, hfz23_4, hfz23_5, hfz23_6, hfz23_7⟩ := fz8 BK307.out
       go_wp2_with (first | (go_at_call 26; (with_reducible refine (zq_num.calls a0_1 true _ A8.out).mono ?_); rintro e w' ⟨rfl, ⟨nd, rfl⟩⟩) | (go_at_call 26; (with_reducible refine (zq_num.calls a0_2 true _ A10.out).mono ?_); rintro e w' ⟨rfl, ⟨nd, rfl⟩⟩) | (go_at_call 26; (with_reducible refine (zq_num.calls a0_3 false _ A12.out).mono ?_); rintro e w' ⟨rfl, ⟨nd, rfl⟩⟩))
       go_meet
       case rel => exact ⟨_, (true), frs, H', ⟨by first | omega | exact Nat.le_refl _⟩, ⟨rdB BK307.out⟩, ⟨bel⟩⟩
     ·replace c11 := Bool.eq_false_iff.mpr c11
      subst c11
      have H1 : (zq_LetterBytes.j0 k true a0_0 a0_1 a0_2 a0_3 a0_4 a0_5 l0_6 l0_7) = some r := by rw [if_neg (show ¬ (false = true) by decide)] at H; exact H
      clear H
      have H := H1
      clear H1
      have H' := zA H
      clear H
      obtain ⟨hcz24_0, hcz24_1, hcz24_2, hcz24_3, hcz24_4, hcz24_5, hcz24_6, hcz24_7⟩ := bx8 BK307.out
      obtain ⟨hfz24_0, hfz24_1, hfz24_2, hfz24_3, hfz24_4, hfz24_5, hfz24_6, hfz24_7⟩ := fz8 BK307.out
      go_wp2_with (first | (go_at_call 26; (with_reducible refine (zq_num.calls a0_1 true _ A8.out).mono ?_); rintro e w' ⟨rfl, ⟨nd, rfl⟩⟩) | (go_at_call 26; (with_reducible refine (zq_num.calls a0_2 false _ A10.out).mono ?_); rintro e w' ⟨rfl, ⟨nd, rfl⟩⟩))
      go_meet
      case rel => exact ⟨_, (true), frs, H', ⟨by first | omega | exact Nat.le_refl _⟩, ⟨rdB BK307.out⟩, ⟨bel⟩⟩
    ·replace c9 := Bool.eq_false_iff.mpr c9
     subst c9
     have H1 : (zq_LetterBytes.j0 k true a0_0 a0_1 a0_2 a0_3 a0_4 a0_5 l0_6 l0_7) = some r := by rw [if_neg (show ¬ (false = true) by decide)] at H; exact H
     clear H
     have H := H1
     clear H1
     have H' := zA H
     clear H
     obtain ⟨hcz25_0, hcz25_1, hcz25_2, hcz25_3, hcz25_4, hcz25_5, hcz25_6, hcz25_7⟩ := bx8 BK307.out
     obtain ⟨hfz25_0, hfz25_1, hfz25_2, hfz25_3, hfz25_4, hfz25_5, hfz25_6, hfz25_7⟩ := fz8 BK307.out
     go_wp2_with (first | (go_at_call 26; (with_reducible refine (zq_num.calls a0_1 false _ A8.out).mono ?_); rintro e w' ⟨rfl, ⟨nd, rfl⟩⟩))
     go_meet
     case rel => exact ⟨_, (true), frs, H', ⟨by first | omega | exact Nat.le_refl _⟩, ⟨rdB BK307.out⟩, ⟨bel⟩⟩
 case rest =>
  clear HC2
  obtain ⟨kq, x58_1, rfl, HA, HJ1, BK307, HB⟩ := hcut
  cases kq with
  | zero => exact absurd HA.out (by simp [zq_LetterBytes.j0])
  | succ kj1 =>
   have H := HA.out
   clear HA
   simp only [zq_LetterBytes.j0] at H
   by_cases c26 : x58_1 = true
   ·subst c26
    have H1 : (some ([] : List Int)) = some r := by rw [if_pos rfl] at H; exact H
    clear H
    have H := H1
    clear H1
    obtain rfl := Option.some.inj H
    go_wp2
    go_ret
    exact ⟨_, by first | rfl | (simp [errW_none, errW_some] <;> rfl) | (simp [*, errW_none, errW_some] <;> rfl), by first | exact Kd.R_nil _ _ _ _ _ | exact Kd.N_nil _ _ _ _ _ | exact Kd.V_nil _ _ _ _ _ | exact Kd.Q_nil _ _ _ _ _ | exact Kd.S_nil _ _ _ _ _, bel⟩
   ·replace c26 := Bool.eq_false_iff.mpr c26
    subst c26
    have H1 : ((zq_put.f kj1 (([(a0_0) % 256] : List Int)) a0_1 4).bind fun t316 => ((zq_put.f kj1 t316 a0_2 4).bind fun t319 => ((zq_put.f kj1 t319 a0_3 4).bind fun t322 => ((zq_put.f kj1 t322 a0_4 4).bind fun t325 => ((zq_put.f kj1 t325 a0_5 4).bind fun t328 => ((zq_put.f kj1 t328 (l0_6.length : Int) 1).bind fun t331 => (zq_LetterBytes.l0 kj1 t331 0 a0_0 a0_1 a0_2 a0_3 a0_4 a0_5 l0_6 l0_7))))))) = some r := by rw [if_neg (show ¬ (false = true) by decide)] at H; exact H
    clear H
    have H := H1
    clear H1
    obtain ⟨y313, hy313⟩ : ∃ y_ : List Int, y_ = (([(a0_0) % 256] : List Int)) := ⟨_, rfl⟩
    replace H : ((zq_put.f kj1 y313 a0_1 4).bind fun t316 => ((zq_put.f kj1 t316 a0_2 4).bind fun t319 => ((zq_put.f kj1 t319 a0_3 4).bind fun t322 => ((zq_put.f kj1 t322 a0_4 4).bind fun t325 => ((zq_put.f kj1 t325 a0_5 4).bind fun t328 => ((zq_put.f kj1 t328 (l0_6.length : Int) 1).bind fun t331 => (zq_LetterBytes.l0 kj1 t331 0 a0_0 a0_1 a0_2 a0_3 a0_4 a0_5 l0_6 l0_7))))))) = some r := zC H hy313
    have Ny313 := zA hy313
    clear hy313
    replace H := Option.bind_eq_some_iff.mp H
    obtain ⟨t316, A270, H⟩ := H
    try dsimp only at H
    have A27 := zA A270
    clear A270
    replace H := Option.bind_eq_some_iff.mp H
    obtain ⟨t319, A280, H⟩ := H
    try dsimp only at H
    have A28 := zA A280
    clear A280
    replace H := Option.bind_eq_some_iff.mp H
    obtain ⟨t322, A290, H⟩ := H
    try dsimp only at H
    have A29 := zA A290
    clear A290
    replace H := Option.bind_eq_some_iff.mp H
    obtain ⟨t325, A300, H⟩ := H
    try dsimp only at H
    have A30 := zA A300
    clear A300
    replace H := Option.bind_eq_some_iff.mp H
    obtain ⟨t328, A310, H⟩ := H
    try dsimp only at H
    have A31 := zA A310
    clear A310
    replace H := Option.bind_eq_some_iff.mp H
    obtain ⟨t331, A320, H⟩ := H
    try dsimp only at H
    have A32 := zA A320
    clear A320
    have H' := zA H
    clear H
    try go_wp2
    replace BK307 := zA (blk_drew BK307.out)
    replace HB := zA (below_drew1 HB.out)
    refine start_ (n := 22) (S := fun w' => E8 w' gb307 (.int .i64 a0_0) (.int .i64 a0_1) (.int .i64 a0_2) (.int .i64 a0_3) (.int .i64 a0_4) (.int .i64 a0_5) (.slice A0_6 l0_6.length c0_6) (.slice A0_7 l0_7.length c0_7)) (ds := []) (ms 22 0) (by kernel_rfl) rfl rfl (bx8 BK307.out) (fun hHeld => ?_); refine with_tabW zq_LetterBytes.tab3 zq_LetterBytes.bits3 (fun HT_ HW_ => ?_)
    generalize wc.drew = w33 at BK307 HB hHeld ⊢
    refine run_ [(0, false, some 59), (4, false, some 63), (7, false, some 66), (10, false, some 69), (13, false, some 72), (14, false, some 73), (17, false, some 76), (18, false, some 77), (1, true, some 60), (2, false, some 61), (5, true, some 64), (8, true, some 67), (11, true, some 70), (15, true, some 74), (19, true, some 78)] (n := 15) (ms 22 978359) rfl HT_.out HW_.out (by kernel_rfl) (fun _ _ _ _ h => h) hHeld ?_
    repeat (first | (refine Run.p (v := ?_) (a' := ?_) rfl rfl (Or.inl ⟨by rfl, ?_⟩) ?_ ?_; rotate_left; (focus intro w'; go_simp; with_reducible rfl); rotate_left; (focus simp only [Act.put, sx]; rfl)) | (refine Run.t (v := ?_) (a' := ?_) rfl rfl (Or.inl ⟨by rfl, ?_⟩) ?_ ?_; rotate_left; (focus rintro w' ⟨s0, s1, s2, s3, s4, s5, s6, s7⟩; go_simp; with_reducible rfl); rotate_left; (focus simp only [Act.put, sx]; rfl)))
    refine Run.nil ?_
    refine one_ (i := 3) (N := some 62) (ms 22 978367) rfl rfl (one_of HT_.out (by kernel_rfl)) (by decide) (fun K hK => ?_)
    refine Kd.R_lit_step (Kd.int .u8) _ 5 ?hg (N := 62) ?hd (xs := ([(a0_0) % 256] : List Int)) (inner := [.int .u8 ((a0_0) % 256)]) (ok := fun _ => True) (okp := fun _ => True) ?hr ?hp (fun _ hk => hk) trivial (Below.refl _ _) (Nat.le_refl _) (by simp) ?_; (case hd => rfl); (case hg => rfl); (case hr => first | (go_simp; done) | (go_simp; rfl)); (case hp => exact (Reps.one (show Kd.M (Kd.int .u8) _ _ _ ((a0_0) % 256) [.int .u8 ((a0_0) % 256)] from rfl) (Reps.none _ _)))
    intro v314 w34 ho35 hb hg_ hnew_
    clear hg_ hnew_
    (first | rw [← Ny313.out] at ho35 | (simp only [Int.reduceToNat] at ho35; rw [← Ny313.out] at ho35))
    have HO315 := zA (Kd.R_lower ho35 bels)
    replace BK307 := zA (blk_below (g := gb307) (o := .cells #[.int .i64 a0_0, .int .i64 a0_1, .int .i64 a0_2, .int .i64 a0_3, .int .i64 a0_4, .int .i64 a0_5, .slice A0_6 l0_6.length c0_6, .slice A0_7 l0_7.length c0_7] 45 (0, 0)) (blk_g BK307.out) hb)
    replace HB := zA (belt hb)
    clear hb ho35
    obtain ⟨Ao36, co36, eo36⟩ := Kd.R_slice HO315.out
    (first | subst eo36 | (injection eo36 with f1_ f2_ f3_; have f4_ := f1_.symm; have f5_ := f3_.symm; clear f1_ f2_ f3_; subst f4_; subst f5_))
    refine hK.out _ _ (bx8 BK307.out) (fun hHeld => ?_)
    clear hK K
    refine norm_ (a' := ?_) ?_ ?_
    rotate_left
    ·show Act.put _ (some 62) _ = _
     simp only [Act.put, sx]
     rfl
    refine one_ (i := 6) (N := some 65) (ms 22 978431) rfl rfl (one_of HT_.out (by kernel_rfl)) (by decide) (fun K hK => ?_)
    refine goes_ Try.func38 (by kernel_rfl) rfl #[.slice Ao36 y313.length co36, .int .i64 a0_1, .int .i64 4] (by rfl) rfl rfl agl ?_
    with_reducible refine (zq_put.calls kj1 (fun k_ => some k_ = (.slice Ao36 y313.length co36 : Value).ownBlock) (.slice Ao36 y313.length co36) y313 a0_1 4 t316 w _ ?side1 ?side2 A27.out).mono ?_
    (case side1 => repeat (first | (with_reducible first | exact HB.out | apply below_alloc | apply pw_below_drewN | apply below_drew1 | refine below_set ?_ GE307.out) | exact HB.out))
    (case side2 => exact Kd.R_tight rfl HO315.out)
    rintro e w37 ⟨v317, rfl, ho0, hb, hkp⟩
    refine ⟨_, rfl, ?_⟩
    replace BK307 := zA (blk_kept (blk_g BK307.out) hkp (fun hs_ => (fun e_ => (Kd.R_ne HO315.out BK307.out (by decide)) e_) hs_))
    have HO318 := zA (Kd.R_mono (ok' := fun k_ => True) ho0 (fun k_ hk_ => trivial))
    replace HB := zA (hb)
    clear HO315
    (try clear hb)
    (try clear hkp)
    (try clear ho0)
    obtain ⟨Ao38, co38, eo38⟩ := Kd.R_slice HO318.out
    (first | subst eo38 | (injection eo38 with f1_ f2_ f3_; have f4_ := f1_.symm; have f5_ := f3_.symm; clear f1_ f2_ f3_; subst f4_; subst f5_))
    refine hK.out _ _ (bx8 BK307.out) (fun hHeld => ?_)
    clear hK K
    refine norm_ (a' := ?_) ?_ ?_
    rotate_left
    ·show Act.put _ (some 65) _ = _
     simp only [Act.put, sx]
     rfl
    refine one_ (i := 9) (N := some 68) (ms 22 978943) rfl rfl (one_of HT_.out (by kernel_rfl)) (by decide) (fun K hK => ?_)
    refine goes_ Try.func38 (by kernel_rfl) rfl #[.slice Ao38 t316.length co38, .int .i64 a0_2, .int .i64 4] (by rfl) rfl rfl agl ?_
    with_reducible refine (zq_put.calls kj1 (fun k_ => some k_ = (.slice Ao38 t316.length co38 : Value).ownBlock) (.slice Ao38 t316.length co38) t316 a0_2 4 t319 w _ ?side1 ?side2 A28.out).mono ?_
    (case side1 => repeat (first | (with_reducible first | exact HB.out | apply below_alloc | apply pw_below_drewN | apply below_drew1 | refine below_set ?_ GE307.out) | exact HB.out))
    (case side2 => exact Kd.R_tight rfl HO318.out)
    rintro e w39 ⟨v320, rfl, ho0, hb, hkp⟩
    refine ⟨_, rfl, ?_⟩
    replace BK307 := zA (blk_kept (blk_g BK307.out) hkp (fun hs_ => (fun e_ => (Kd.R_ne HO318.out BK307.out (by decide)) e_) hs_))
    have HO321 := zA (Kd.R_mono (ok' := fun k_ => True) ho0 (fun k_ hk_ => trivial))
    replace HB := zA (hb)
    clear HO318
    (try clear hb)
    (try clear hkp)
    (try clear ho0)
    obtain ⟨Ao40, co40, eo40⟩ := Kd.R_slice HO321.out
    (first | subst eo40 | (injection eo40 with f1_ f2_ f3_; have f4_ := f1_.symm; have f5_ := f3_.symm; clear f1_ f2_ f3_; subst f4_; subst f5_))
    refine hK.out _ _ (bx8 BK307.out) (fun hHeld => ?_)
    clear hK K
    refine norm_ (a' := ?_) ?_ ?_
    rotate_left
    ·show Act.put _ (some 68) _ = _
     simp only [Act.put, sx]
     rfl
    refine one_ (i := 12) (N := some 71) (ms 22 983039) rfl rfl (one_of HT_.out (by kernel_rfl)) (by decide) (fun K hK => ?_)
    refine goes_ Try.func38 (by kernel_rfl) rfl #[.slice Ao40 t319.length co40, .int .i64 a0_3, .int .i64 4] (by rfl) rfl rfl agl ?_
    with_reducible refine (zq_put.calls kj1 (fun k_ => some k_ = (.slice Ao40 t319.length co40 : Value).ownBlock) (.slice Ao40 t319.length co40) t319 a0_3 4 t322 w _ ?side1 ?side2 A29.out).mono ?_
    (case side1 => repeat (first | (with_reducible first | exact HB.out | apply below_alloc | apply pw_below_drewN | apply below_drew1 | refine below_set ?_ GE307.out) | exact HB.out))
    (case side2 => exact Kd.R_tight rfl HO321.out)
    rintro e w41 ⟨v323, rfl, ho0, hb, hkp⟩
    refine ⟨_, rfl, ?_⟩
    replace BK307 := zA (blk_kept (blk_g BK307.out) hkp (fun hs_ => (fun e_ => (Kd.R_ne HO321.out BK307.out (by decide)) e_) hs_))
    have HO324 := zA (Kd.R_mono (ok' := fun k_ => True) ho0 (fun k_ hk_ => trivial))
    replace HB := zA (hb)
    clear HO321
    (try clear hb)
    (try clear hkp)
    (try clear ho0)
    obtain ⟨Ao42, co42, eo42⟩ := Kd.R_slice HO324.out
    (first | subst eo42 | (injection eo42 with f1_ f2_ f3_; have f4_ := f1_.symm; have f5_ := f3_.symm; clear f1_ f2_ f3_; subst f4_; subst f5_))
    refine hK.out _ _ (bx8 BK307.out) (fun hHeld => ?_)
    clear hK K
    refine norm_ (a' := ?_) ?_ ?_
    rotate_left
    ·show Act.put _ (some 71) _ = _
     simp only [Act.put, sx]
     rfl
    refine one_ (i := 16) (N := some 75) (ms 22 1048575) rfl rfl (one_of HT_.out (by kernel_rfl)) (by decide) (fun K hK => ?_)
    refine goes_ Try.func38 (by kernel_rfl) rfl #[.slice Ao42 t322.length co42, .int .i64 a0_4, .int .i64 4] (by rfl) rfl rfl agl ?_
    with_reducible refine (zq_put.calls kj1 (fun k_ => some k_ = (.slice Ao42 t322.length co42 : Value).ownBlock) (.slice Ao42 t322.length co42) t322 a0_4 4 t325 w _ ?side1 ?side2 A30.out).mono ?_
    (case side1 => repeat (first | (with_reducible first | exact HB.out | apply below_alloc | apply pw_below_drewN | apply below_drew1 | refine below_set ?_ GE307.out) | exact HB.out))
    (case side2 => exact Kd.R_tight rfl HO324.out)
    rintro e w43 ⟨v326, rfl, ho0, hb, hkp⟩
    refine ⟨_, rfl, ?_⟩
    replace BK307 := zA (blk_kept (blk_g BK307.out) hkp (fun hs_ => (fun e_ => (Kd.R_ne HO324.out BK307.out (by decide)) e_) hs_))
    have HO327 := zA (Kd.R_mono (ok' := fun k_ => True) ho0 (fun k_ hk_ => trivial))
    replace HB := zA (hb)
    clear HO324
    (try clear hb)
    (try clear hkp)
    (try clear ho0)
    obtain ⟨Ao44, co44, eo44⟩ := Kd.R_slice HO327.out
    (first | subst eo44 | (injection eo44 with f1_ f2_ f3_; have f4_ := f1_.symm; have f5_ := f3_.symm; clear f1_ f2_ f3_; subst f4_; subst f5_))
    refine hK.out _ _ (bx8 BK307.out) (fun hHeld => ?_)
    clear hK K
    refine norm_ (a' := ?_) ?_ ?_
    rotate_left
    ·show Act.put _ (some 75) _ = _
     simp only [Act.put, sx]
     rfl
    refine one_ (i := 20) (N := some 79) (ms 22 2097151) rfl rfl (one_of HT_.out (by kernel_rfl)) (by decide) (fun K hK => ?_)
    refine goes_ Try.func38 (by kernel_rfl) rfl #[.slice Ao44 t325.length co44, .int .i64 a0_5, .int .i64 4] (by rfl) rfl rfl agl ?_
    with_reducible refine (zq_put.calls kj1 (fun k_ => some k_ = (.slice Ao44 t325.length co44 : Value).ownBlock) (.slice Ao44 t325.length co44) t325 a0_5 4 t328 w _ ?side1 ?side2 A31.out).mono ?_
    (case side1 => repeat (first | (with_reducible first | exact HB.out | apply below_alloc | apply pw_below_drewN | apply below_drew1 | refine below_set ?_ GE307.out) | exact HB.out))
    (case side2 => exact Kd.R_tight rfl HO327.out)
    rintro e w45 ⟨v329, rfl, ho0, hb, hkp⟩
    refine ⟨_, rfl, ?_⟩
    replace BK307 := zA (blk_kept (blk_g BK307.out) hkp (fun hs_ => (fun e_ => (Kd.R_ne HO327.out BK307.out (by decide)) e_) hs_))
    have HO330 := zA (Kd.R_mono (ok' := fun k_ => True) ho0 (fun k_ hk_ => trivial))
    replace HB := zA (hb)
    clear HO327
    (try clear hb)
    (try clear hkp)
    (try clear ho0)
    refine hK.out _ _ (bx8 BK307.out) (fun hHeld => ?_)
    clear hK K
    refine norm_ (a' := ?_) ?_ ?_
    rotate_left
    ·show Act.put _ (some 79) _ = _
     simp only [Act.put, sx]
     rfl
    refine pure_ (i := 21) (N := some 3) (v := ?_) (a' := ?_) (ms 22 4194303) rfl rfl (any_of HT_.out (by kernel_rfl)) (fun _ _ _ h => h) (Or.inl ⟨by rfl, ?_⟩) ?_ ?_
    rotate_left
    ·intro w'
     go_simp
     with_reducible rfl
    rotate_left
    ·simp only [Act.put, sx]
     rfl
    refine done_ (done_of HT_.out (by kernel_rfl)) ?_
    obtain ⟨hcz46_0, hcz46_1, hcz46_2, hcz46_3, hcz46_4, hcz46_5, hcz46_6, hcz46_7⟩ := bx8 BK307.out
    obtain ⟨hfz46_0, hfz46_1, hfz46_2, hfz46_3, hfz46_4, hfz46_5, hfz46_6, hfz46_7⟩ := fz8 BK307.out
    obtain ⟨Ao47, co47, eo47⟩ := Kd.R_slice HO330.out
    subst eo47
    try go_wp2_with (first | ((with_reducible refine gate_callee (f := 38) rfl ?_); refine goesL_ (some 84) rfl rfl Try.func38 (by kernel_rfl) rfl #[.slice Ao47 t328.length co47, .int .i64 (l0_6.length : Int), .int .i64 1] rfl agl ?_; (with_reducible refine (zq_put.calls kj1 (fun k_ => some k_ = (.slice Ao47 t328.length co47 : Value).ownBlock) (.slice Ao47 t328.length co47) t328 (l0_6.length : Int) 1 t331 w _ ?side1 ?side2 A32.out).mono ?_); (case side1 => repeat (first | (with_reducible first | exact HB.out | apply below_alloc | apply pw_below_drewN | apply below_drew1 | refine below_set ?_ GE307.out) | exact HB.out)); (case side2 => exact Kd.R_tight rfl HO330.out); rintro e w48 ⟨v332, rfl, ho0, hb, hkp⟩; refine ⟨_, rfl, ?_⟩; replace BK307 := zA (blk_kept (blk_g BK307.out) hkp (fun hs_ => (fun e_ => (Kd.R_ne HO330.out BK307.out (by decide)) e_) hs_)); have HO333 := zA (Kd.R_mono (ok' := fun k_ => True) ho0 (fun k_ hk_ => trivial)); replace HB := zA (hb); clear HO330))
    go_loopg [3, 4] kj1 (fun kq v3 v4 w' => ∃ (x3_2 : List Int) (x4_2 : Int), v4 = .int .i64 x4_2 ∧ Aside0 (zq_LetterBytes.l0 kq x3_2 x4_2 a0_0 a0_1 a0_2 a0_3 a0_4 a0_5 l0_6 l0_7 = some r) ∧ Aside0 (kq ≤ kj1) ∧ Aside0 (Kd.R (Kd.int .u8) 5 w' w.heap.size (fun _ => True) v3 x3_2) ∧ Aside0 (w'.heap[gb307]? = some (.cells #[.int .i64 a0_0, .int .i64 a0_1, .int .i64 a0_2, .int .i64 a0_3, .int .i64 a0_4, .int .i64 a0_5, (.slice A0_6 l0_6.length c0_6), (.slice A0_7 l0_7.length c0_7)] 45 (0, 0))) ∧ Aside0 (Below w.heap.size w w'))
    case atStart => exact ⟨(t331), (0), frs, H', ⟨Nat.le_refl _⟩, ⟨rdR HO333.out⟩, ⟨rdB BK307.out⟩, ⟨bel⟩⟩
    case round =>
     clear H'
     obtain ⟨x3_2, x4_2, rfl, HA, HK2, HO_3, BK307, HB⟩ := hrel
     cases gk with
     | zero => exact absurd HA.out (by simp [zq_LetterBytes.l0])
     | succ k2 =>
      have H := HA.out
      clear HA
      simp only [zq_LetterBytes.l0] at H
      by_cases c49 : x4_2 < (l0_6.length : Int)
      ·rw [if_pos c49] at H
       have c49b0 : decide (x4_2 < (l0_6.length : Int)) = true := decide_eq_true c49
       clear c49
       by_cases c50 : 0 ≤ x4_2
       ·rw [if_pos c50] at H
        have c50b0 : decide (0 ≤ x4_2) = true := decide_eq_true c50
        clear c50
        replace H := Option.bind_eq_some_iff.mp H
        obtain ⟨t335, A510, H⟩ := H
        try dsimp only at H
        have A51 := zA A510
        clear A510
        by_cases c52 : t335 = true
        ·subst c52
         have H1 : ((zq_put.f k2 x3_2 (rd l0_6 x4_2) 4).bind fun t337 => (zq_LetterBytes.l0 k2 t337 (wrap64 (x4_2 + 1)) a0_0 a0_1 a0_2 a0_3 a0_4 a0_5 l0_6 l0_7)) = some r := by rw [if_pos rfl] at H; exact H
         clear H
         have H := H1
         clear H1
         replace H := Option.bind_eq_some_iff.mp H
         obtain ⟨t337, A530, H⟩ := H
         try dsimp only at H
         have A53 := zA A530
         clear A530
         have H' := zA H
         clear H
         obtain ⟨hcz54_0, hcz54_1, hcz54_2, hcz54_3, hcz54_4, hcz54_5, hcz54_6, hcz54_7⟩ := bx8 BK307.out
         obtain ⟨hfz54_0, hfz54_1, hfz54_2, hfz54_3, hfz54_4, hfz54_5, hfz54_6, hfz54_7⟩ := fz8 BK307.out
         have p334 : 0 ≤ (x4_2 : Int) := of_decide_eq_true asu
         have q334 : x4_2 < (l0_6.length : Int) := of_decide_eq_true asu
         obtain ⟨ad334, e334, hx334_0⟩ := Kd.at_int HR0_6.out x4_2 p334 q334
         cases e334
         replace hx334_0 := (HB.out.cell (World.block_lt_of_cell? w _ hx334_0)).trans hx334_0
         replace p334 := eq_true p334
         replace q334 := eq_true q334
         go_wp2_with (first | ((with_reducible refine gate_callee (f := 26) rfl ?_); refine goesL_ (some 97) rfl rfl Try.func26 (by kernel_rfl) rfl #[.int .i64 (rd l0_6 x4_2)] rfl agl ?_; (with_reducible refine (zq_num.calls (rd l0_6 x4_2) true _ A51.out).mono ?_); rintro e w' ⟨rfl, ⟨nd, rfl⟩⟩; refine ⟨_, rfl, ?_⟩; have p336 : 0 ≤ (x4_2 : Int) := of_decide_eq_true asu; have q336 : x4_2 < (l0_6.length : Int) := of_decide_eq_true asu; obtain ⟨ad336, e336, hx336_0⟩ := Kd.at_int HR0_6.out x4_2 p336 q336; obtain rfl : ad334 = ad336 := (by injection e336); replace hx336_0 := (HB.out.cell (World.block_lt_of_cell? w _ hx336_0)).trans hx336_0; replace p336 := eq_true p336; replace q336 := eq_true q336; obtain ⟨Ao55, co55, eo55⟩ := Kd.R_slice HO_3.out; subst eo55) | ((with_reducible refine gate_callee (f := 38) rfl ?_); refine goesL_ (some 105) rfl rfl Try.func38 (by kernel_rfl) rfl #[.slice Ao55 x3_2.length co55, .int .i64 (rd l0_6 x4_2), .int .i64 4] rfl agl ?_; (with_reducible refine (zq_put.calls k2 (fun k_ => some k_ = (.slice Ao55 x3_2.length co55 : Value).ownBlock) (.slice Ao55 x3_2.length co55) x3_2 (rd l0_6 x4_2) 4 t337 w _ ?side1 ?side2 A53.out).mono ?_); (case side1 => repeat (first | (with_reducible first | exact HB.out | apply below_alloc | apply pw_below_drewN | apply below_drew1 | refine below_set ?_ GE307.out) | exact HB.out)); (case side2 => exact Kd.R_tight rfl HO_3.out); rintro e w56 ⟨v338, rfl, ho0, hb, hkp⟩; refine ⟨_, rfl, ?_⟩; replace BK307 := zA (blk_kept (blk_g BK307.out) hkp (fun hs_ => (fun e_ => (Kd.R_ne HO_3.out BK307.out (by decide)) e_) hs_)); have HO339 := zA (Kd.R_mono (ok' := fun k_ => True) ho0 (fun k_ hk_ => trivial)); replace HB := zA (hb); clear HO_3))
         go_roundg k2
         case measure => have := HJ1.out; have := HK2.out; omega
         case rel => exact ⟨(t337), (wrap64 (x4_2 + 1)), frs, H', ⟨by have := HJ1.out; have := HK2.out; omega⟩, ⟨rdR HO339.out⟩, ⟨rdB BK307.out⟩, ⟨bel⟩⟩
        ·replace c52 := Bool.eq_false_iff.mpr c52
         subst c52
         have H1 : (some ([] : List Int)) = some r := by rw [if_neg (show ¬ (false = true) by decide)] at H; exact H
         clear H
         have H := H1
         clear H1
         obtain rfl := Option.some.inj H
         obtain ⟨hcz57_0, hcz57_1, hcz57_2, hcz57_3, hcz57_4, hcz57_5, hcz57_6, hcz57_7⟩ := bx8 BK307.out
         obtain ⟨hfz57_0, hfz57_1, hfz57_2, hfz57_3, hfz57_4, hfz57_5, hfz57_6, hfz57_7⟩ := fz8 BK307.out
         have p334 : 0 ≤ (x4_2 : Int) := of_decide_eq_true asu
         have q334 : x4_2 < (l0_6.length : Int) := of_decide_eq_true asu
         obtain ⟨ad334, e334, hx334_0⟩ := Kd.at_int HR0_6.out x4_2 p334 q334
         cases e334
         replace hx334_0 := (HB.out.cell (World.block_lt_of_cell? w _ hx334_0)).trans hx334_0
         replace p334 := eq_true p334
         replace q334 := eq_true q334
         go_wp2_with (first | ((with_reducible refine gate_callee (f := 26) rfl ?_); refine goesL_ (some 97) rfl rfl Try.func26 (by kernel_rfl) rfl #[.int .i64 (rd l0_6 x4_2)] rfl agl ?_; (with_reducible refine (zq_num.calls (rd l0_6 x4_2) false _ A51.out).mono ?_); rintro e w' ⟨rfl, ⟨nd, rfl⟩⟩; refine ⟨_, rfl, ?_⟩))
         go_ret
         exact ⟨_, by first | rfl | (simp [errW_none, errW_some] <;> rfl) | (simp [*, errW_none, errW_some] <;> rfl), by first | exact Kd.R_nil _ _ _ _ _ | exact Kd.N_nil _ _ _ _ _ | exact Kd.V_nil _ _ _ _ _ | exact Kd.Q_nil _ _ _ _ _ | exact Kd.S_nil _ _ _ _ _, bel⟩
       ·rw [if_neg c50] at H
        exact absurd H (by simp)
      ·rw [if_neg c49] at H
       have c49b0 : decide (x4_2 < (l0_6.length : Int)) = false := decide_eq_false c49
       clear c49
       replace H := Option.bind_eq_some_iff.mp H
       obtain ⟨t340, A580, H⟩ := H
       try dsimp only at H
       have A58 := zA A580
       clear A580
       have H' := zA H
       clear H
       obtain ⟨hcz59_0, hcz59_1, hcz59_2, hcz59_3, hcz59_4, hcz59_5, hcz59_6, hcz59_7⟩ := bx8 BK307.out
       obtain ⟨hfz59_0, hfz59_1, hfz59_2, hfz59_3, hfz59_4, hfz59_5, hfz59_6, hfz59_7⟩ := fz8 BK307.out
       obtain ⟨Ao60, co60, eo60⟩ := Kd.R_slice HO_3.out
       subst eo60
       go_wp2_with (first | ((with_reducible refine gate_callee (f := 38) rfl ?_); refine goesL_ (some 110) rfl rfl Try.func38 (by kernel_rfl) rfl #[.slice Ao60 x3_2.length co60, .int .i64 (l0_7.length : Int), .int .i64 1] rfl agl ?_; (with_reducible refine (zq_put.calls k2 (fun k_ => some k_ = (.slice Ao60 x3_2.length co60 : Value).ownBlock) (.slice Ao60 x3_2.length co60) x3_2 (l0_7.length : Int) 1 t340 w _ ?side1 ?side2 A58.out).mono ?_); (case side1 => repeat (first | (with_reducible first | exact HB.out | apply below_alloc | apply pw_below_drewN | apply below_drew1 | refine below_set ?_ GE307.out) | exact HB.out)); (case side2 => exact Kd.R_tight rfl HO_3.out); rintro e w61 ⟨v341, rfl, ho0, hb, hkp⟩; refine ⟨_, rfl, ?_⟩; replace BK307 := zA (blk_kept (blk_g BK307.out) hkp (fun hs_ => (fun e_ => (Kd.R_ne HO_3.out BK307.out (by decide)) e_) hs_)); have HO342 := zA (Kd.R_mono (ok' := fun k_ => True) ho0 (fun k_ hk_ => trivial)); replace HB := zA (hb); clear HO_3))
       go_loopg [3, 5] k2 (fun kq v3 v5 w' => ∃ (x3_3 : List Int) (x5_3 : Int), v5 = .int .i64 x5_3 ∧ Aside0 (zq_LetterBytes.l1 kq x3_3 x5_3 a0_0 a0_1 a0_2 a0_3 a0_4 a0_5 l0_6 l0_7 = some r) ∧ Aside0 (kq ≤ k2) ∧ Aside0 (Kd.R (Kd.int .u8) 5 w' w.heap.size (fun _ => True) v3 x3_3) ∧ Aside0 (w'.heap[gb307]? = some (.cells #[.int .i64 a0_0, .int .i64 a0_1, .int .i64 a0_2, .int .i64 a0_3, .int .i64 a0_4, .int .i64 a0_5, (.slice A0_6 l0_6.length c0_6), (.slice A0_7 l0_7.length c0_7)] 45 (0, 0))) ∧ Aside0 (Below w.heap.size w w'))
       case atStart => exact ⟨(t340), (0), frs, H', ⟨Nat.le_refl _⟩, ⟨rdR HO342.out⟩, ⟨rdB BK307.out⟩, ⟨bel⟩⟩
       case round =>
        clear H'
        obtain ⟨x3_3, x5_3, rfl, HA, HK3, HO_3, BK307, HB⟩ := hrel
        cases gk with
        | zero => exact absurd HA.out (by simp [zq_LetterBytes.l1])
        | succ k3 =>
         have H := HA.out
         clear HA
         simp only [zq_LetterBytes.l1] at H
         by_cases c62 : x5_3 < (l0_7.length : Int)
         ·rw [if_pos c62] at H
          have c62b0 : decide (x5_3 < (l0_7.length : Int)) = true := decide_eq_true c62
          clear c62
          by_cases c63 : 0 ≤ x5_3
          ·rw [if_pos c63] at H
           have c63b0 : decide (0 ≤ x5_3) = true := decide_eq_true c63
           clear c63
           replace H := Option.bind_eq_some_iff.mp H
           obtain ⟨t344, A640, H⟩ := H
           try dsimp only at H
           have A64 := zA A640
           clear A640
           by_cases c65 : (t344.length : Int) = 0
           ·rw [if_pos c65] at H
            have c65b0 : ((t344.length : Int) == 0) = true := beq_iff_eq.mpr c65
            have c65b1 : ((t344.length : Int) != 0) = false := bne_eq_false_iff_eq.mpr c65
            clear c65
            obtain rfl := Option.some.inj H
            obtain ⟨hcz66_0, hcz66_1, hcz66_2, hcz66_3, hcz66_4, hcz66_5, hcz66_6, hcz66_7⟩ := bx8 BK307.out
            obtain ⟨hfz66_0, hfz66_1, hfz66_2, hfz66_3, hfz66_4, hfz66_5, hfz66_6, hfz66_7⟩ := fz8 BK307.out
            have p343 : 0 ≤ (x5_3 : Int) := of_decide_eq_true asu
            have q343 : x5_3 < (l0_7.length : Int) := of_decide_eq_true asu
            obtain ⟨ad343, A343_9, c343_9, e343, hx343_0, hx343_1, hx343_2, hx343_3, hx343_4, hx343_5, hx343_6, hx343_7, hx343_8, hx343_9, hl343_9, hi343_9⟩ := at_T28 HR0_7.out x5_3 p343 q343
            cases e343
            replace hx343_0 := (HB.out.cell (World.block_lt_of_cell? w _ hx343_0)).trans hx343_0
            replace hx343_1 := (HB.out.cell (World.block_lt_of_cell? w _ hx343_1)).trans hx343_1
            replace hx343_2 := (HB.out.cell (World.block_lt_of_cell? w _ hx343_2)).trans hx343_2
            replace hx343_3 := (HB.out.cell (World.block_lt_of_cell? w _ hx343_3)).trans hx343_3
            replace hx343_4 := (HB.out.cell (World.block_lt_of_cell? w _ hx343_4)).trans hx343_4
            replace hx343_5 := (HB.out.cell (World.block_lt_of_cell? w _ hx343_5)).trans hx343_5
            replace hx343_6 := (HB.out.cell (World.block_lt_of_cell? w _ hx343_6)).trans hx343_6
            replace hx343_7 := (HB.out.cell (World.block_lt_of_cell? w _ hx343_7)).trans hx343_7
            replace hx343_8 := (HB.out.cell (World.block_lt_of_cell? w _ hx343_8)).trans hx343_8
            replace hx343_9 := (HB.out.cell (World.block_lt_of_cell? w _ hx343_9)).trans hx343_9
            have HR343_9 := zA hi343_9
            have HC343_9 := zA hl343_9
            clear hi343_9 hl343_9
            replace p343 := eq_true p343
            replace q343 := eq_true q343
            go_wp2_with (first | ((with_reducible refine gate_callee (f := 15) rfl ?_); refine goesL_ (some 123) rfl rfl Try.func15 (by kernel_rfl) rfl #[.agg #[.int .i64 ((rd_T28 l0_7 x5_3).f0.f0), .int .i64 ((rd_T28 l0_7 x5_3).f0.f1), .int .i64 ((rd_T28 l0_7 x5_3).f1.f0), .int .i64 ((rd_T28 l0_7 x5_3).f1.f1), .int .i64 ((rd_T28 l0_7 x5_3).f1.f2), .int .i64 ((rd_T28 l0_7 x5_3).f2), .int .i64 ((rd_T28 l0_7 x5_3).f3), .bool ((rd_T28 l0_7 x5_3).f4), .int .i64 ((rd_T28 l0_7 x5_3).f5), .slice A343_9 ((rd_T28 l0_7 x5_3).f6).length c343_9]] rfl agl ?_; (with_reducible refine (zq_RecordBytes.calls k3 ((rd_T28 l0_7 x5_3).f0.f0) ((rd_T28 l0_7 x5_3).f0.f1) ((rd_T28 l0_7 x5_3).f1.f0) ((rd_T28 l0_7 x5_3).f1.f1) ((rd_T28 l0_7 x5_3).f1.f2) ((rd_T28 l0_7 x5_3).f2) ((rd_T28 l0_7 x5_3).f3) ((rd_T28 l0_7 x5_3).f4) ((rd_T28 l0_7 x5_3).f5) _ _ ((rd_T28 l0_7 x5_3).f6) t344 _ ?side1 ?side2 A64.out).mono ?_); (case side1 => repeat (first | exact (Kd.C_below HR343_9.out HB.out) | (with_reducible refine Kd.C_alloc ?_ _) | (with_reducible refine Kd.C_drewN ?_ _) | (with_reducible refine Kd.C_drew ?_))); (case side2 => exact HC343_9.out); rintro e w67 ⟨v345, rfl, ho0, hb⟩; refine ⟨_, rfl, ?_⟩; have HO346 := zA (Kd.R_lower (Kd.R_new' ho0 (Kd.R_lt (R_g HO_3.out))) bels); replace HO_3 := zA (Kd.R_elder' (R_g HO_3.out) (Kd.R_base ho0) hb); replace BK307 := zA (blk_below (g := gb307) (o := .cells #[.int .i64 a0_0, .int .i64 a0_1, .int .i64 a0_2, .int .i64 a0_3, .int .i64 a0_4, .int .i64 a0_5, .slice A0_6 l0_6.length c0_6, .slice (some ad343) l0_7.length c0_7] 45 (0, 0)) (blk_g BK307.out) hb); replace HB := zA (belt hb); obtain ⟨Ao68, co68, eo68⟩ := Kd.R_slice HO346.out; subst eo68))
            go_ret
            exact ⟨_, by first | rfl | (simp [errW_none, errW_some] <;> rfl) | (simp [*, errW_none, errW_some] <;> rfl), by first | exact Kd.R_nil _ _ _ _ _ | exact Kd.N_nil _ _ _ _ _ | exact Kd.V_nil _ _ _ _ _ | exact Kd.Q_nil _ _ _ _ _ | exact Kd.S_nil _ _ _ _ _, bel⟩
           ·rw [if_neg c65] at H
            have c65b0 : ((t344.length : Int) == 0) = false := beq_eq_false_iff_ne.mpr c65
            have c65b1 : ((t344.length : Int) != 0) = true := bne_iff_ne.mpr c65
            have c65b2 : ¬ (t344 = []) := fun h_ => c65 (by rw [h_]; rfl)
            replace H := Option.bind_eq_some_iff.mp H
            obtain ⟨t347, A690, H⟩ := H
            try dsimp only at H
            have A69 := zA A690
            clear A690
            by_cases c70 : t347.length + t344.length < 140737488355328
            ·rw [if_pos c70] at H
             have LMc70 := zA c70
             clear c70
             obtain ⟨y350, hy350⟩ : ∃ y_ : List Int, y_ = (t347 ++ t344) := ⟨_, rfl⟩
             replace H : (zq_LetterBytes.l1 k3 y350 (wrap64 (x5_3 + 1)) a0_0 a0_1 a0_2 a0_3 a0_4 a0_5 l0_6 l0_7) = some r := zC H hy350
             have Ny350 := zA hy350
             clear hy350
             have H' := zA H
             clear H
             obtain ⟨hcz71_0, hcz71_1, hcz71_2, hcz71_3, hcz71_4, hcz71_5, hcz71_6, hcz71_7⟩ := bx8 BK307.out
             obtain ⟨hfz71_0, hfz71_1, hfz71_2, hfz71_3, hfz71_4, hfz71_5, hfz71_6, hfz71_7⟩ := fz8 BK307.out
             have p343 : 0 ≤ (x5_3 : Int) := of_decide_eq_true asu
             have q343 : x5_3 < (l0_7.length : Int) := of_decide_eq_true asu
             obtain ⟨ad343, A343_9, c343_9, e343, hx343_0, hx343_1, hx343_2, hx343_3, hx343_4, hx343_5, hx343_6, hx343_7, hx343_8, hx343_9, hl343_9, hi343_9⟩ := at_T28 HR0_7.out x5_3 p343 q343
             cases e343
             replace hx343_0 := (HB.out.cell (World.block_lt_of_cell? w _ hx343_0)).trans hx343_0
             replace hx343_1 := (HB.out.cell (World.block_lt_of_cell? w _ hx343_1)).trans hx343_1
             replace hx343_2 := (HB.out.cell (World.block_lt_of_cell? w _ hx343_2)).trans hx343_2
             replace hx343_3 := (HB.out.cell (World.block_lt_of_cell? w _ hx343_3)).trans hx343_3
             replace hx343_4 := (HB.out.cell (World.block_lt_of_cell? w _ hx343_4)).trans hx343_4
             replace hx343_5 := (HB.out.cell (World.block_lt_of_cell? w _ hx343_5)).trans hx343_5
             replace hx343_6 := (HB.out.cell (World.block_lt_of_cell? w _ hx343_6)).trans hx343_6
             replace hx343_7 := (HB.out.cell (World.block_lt_of_cell? w _ hx343_7)).trans hx343_7
             replace hx343_8 := (HB.out.cell (World.block_lt_of_cell? w _ hx343_8)).trans hx343_8
             replace hx343_9 := (HB.out.cell (World.block_lt_of_cell? w _ hx343_9)).trans hx343_9
             have HR343_9 := zA hi343_9
             have HC343_9 := zA hl343_9
             clear hi343_9 hl343_9
             replace p343 := eq_true p343
             replace q343 := eq_true q343
             go_wp2_with (first | ((with_reducible refine gate_callee (f := 15) rfl ?_); refine goesL_ (some 123) rfl rfl Try.func15 (by kernel_rfl) rfl #[.agg #[.int .i64 ((rd_T28 l0_7 x5_3).f0.f0), .int .i64 ((rd_T28 l0_7 x5_3).f0.f1), .int .i64 ((rd_T28 l0_7 x5_3).f1.f0), .int .i64 ((rd_T28 l0_7 x5_3).f1.f1), .int .i64 ((rd_T28 l0_7 x5_3).f1.f2), .int .i64 ((rd_T28 l0_7 x5_3).f2), .int .i64 ((rd_T28 l0_7 x5_3).f3), .bool ((rd_T28 l0_7 x5_3).f4), .int .i64 ((rd_T28 l0_7 x5_3).f5), .slice A343_9 ((rd_T28 l0_7 x5_3).f6).length c343_9]] rfl agl ?_; (with_reducible refine (zq_RecordBytes.calls k3 ((rd_T28 l0_7 x5_3).f0.f0) ((rd_T28 l0_7 x5_3).f0.f1) ((rd_T28 l0_7 x5_3).f1.f0) ((rd_T28 l0_7 x5_3).f1.f1) ((rd_T28 l0_7 x5_3).f1.f2) ((rd_T28 l0_7 x5_3).f2) ((rd_T28 l0_7 x5_3).f3) ((rd_T28 l0_7 x5_3).f4) ((rd_T28 l0_7 x5_3).f5) _ _ ((rd_T28 l0_7 x5_3).f6) t344 _ ?side1 ?side2 A64.out).mono ?_); (case side1 => repeat (first | exact (Kd.C_below HR343_9.out HB.out) | (with_reducible refine Kd.C_alloc ?_ _) | (with_reducible refine Kd.C_drewN ?_ _) | (with_reducible refine Kd.C_drew ?_))); (case side2 => exact HC343_9.out); rintro e w72 ⟨v345, rfl, ho0, hb⟩; refine ⟨_, rfl, ?_⟩; have HO346 := zA (Kd.R_lower (Kd.R_new' ho0 (Kd.R_lt (R_g HO_3.out))) bels); replace HO_3 := zA (Kd.R_elder' (R_g HO_3.out) (Kd.R_base ho0) hb); replace BK307 := zA (blk_below (g := gb307) (o := .cells #[.int .i64 a0_0, .int .i64 a0_1, .int .i64 a0_2, .int .i64 a0_3, .int .i64 a0_4, .int .i64 a0_5, .slice A0_6 l0_6.length c0_6, .slice (some ad343) l0_7.length c0_7] 45 (0, 0)) (blk_g BK307.out) hb); replace HB := zA (belt hb); obtain ⟨Ao73, co73, eo73⟩ := Kd.R_slice HO346.out; subst eo73; obtain ⟨Ao74, co74, eo74⟩ := Kd.R_slice HO_3.out; subst eo74) | ((with_reducible refine gate_callee (f := 38) rfl ?_); refine goesL_ (some 130) rfl rfl Try.func38 (by kernel_rfl) rfl #[.slice Ao74 x3_3.length co74, .int .i64 (t344.length : Int), .int .i64 2] rfl agl ?_; (with_reducible refine (zq_put.calls k3 (fun k_ => some k_ = (.slice Ao74 x3_3.length co74 : Value).ownBlock) (.slice Ao74 x3_3.length co74) x3_3 (t344.length : Int) 2 t347 w _ ?side1 ?side2 A69.out).mono ?_); (case side1 => repeat (first | (with_reducible first | exact HB.out | apply below_alloc | apply pw_below_drewN | apply below_drew1 | refine below_set ?_ GE307.out) | exact HB.out)); (case side2 => exact Kd.R_tight rfl HO_3.out); rintro e w75 ⟨v348, rfl, ho0, hb, hkp⟩; refine ⟨_, rfl, ?_⟩; replace BK307 := zA (blk_kept (blk_g BK307.out) hkp (fun hs_ => (fun e_ => (Kd.R_ne HO_3.out BK307.out (by decide)) e_) hs_)); have HO349 := zA (Kd.R_mono (ok' := fun k_ => some k_ ≠ (.slice Ao73 t344.length co73 : Value).ownBlock) ho0 (fun k_ hk_ => Or.elim hk_ (fun hs_ => fun e_ => (((HO346.out).1 k_ e_.symm).2) hs_) (fun hn_ => (Kd.fresh' (Kd.R_lt (R_g HO346.out)) k_ hn_)))); replace HO346 := zA (Kd.R_mono (ok' := fun k_ => some k_ ≠ (v348 : Value).ownBlock) (Kd.R_keptB (HO346.out) hkp (fun k_ hk_ hs_ => (hk_.2) hs_)) (fun k_ hk_ => fun e_ => Or.elim (ho0.1 k_ e_.symm) (fun hs_ => hk_.2.1 hs_) (fun hn_ => Nat.not_le.2 hk_.2.2 hn_))); replace HB := zA (hb); clear HO_3) | ((with_reducible refine gate_builtin (b := .append) (xs := #[.tmp 130, .tmp 131]) rfl ?_); (try (refine gate_guard (by rfl) ?_; dsimp only)); at_builtin; refine Kd.R_append_rows (Kd.int .u8) (w0 := w) w.heap.size rfl (.tmp 130) (.tmp 131) 26 5 (.int .u8 0) 1 rfl Try.underlying26 info5 rfl (by decide) (by omega) v348 t347 t344 _ _ _ (fun k_ => some k_ ≠ (.slice Ao73 t344.length co73 : Value).ownBlock) (fun _ => False) rfl rfl ?aO ?aR (fun _ _ h => h) (fun _ h => h.elim) ?aF ?aB ?aS ?aL ?_; (case aR => repeat (first | exact (Kd.R_reads' HO346.out).2.2 | (with_reducible refine Kd.C_alloc ?_ _) | (with_reducible refine Kd.C_drewN ?_ _) | (with_reducible refine Kd.C_drew ?_))); (case aB => exact bel); (case aF => exact (fun k_ hk => Kd.fresh' (Kd.R_lt (R_g HO346.out)) k_ hk)); (case aO => exact (R_g HO349.out)); (case aS => exact bels); (case aL => have := LMc70.out; omega); intro v351 w76 ho hb hg hat; rw [← Ny350.out] at ho; replace BK307 := zA (blk_grown (g := gb307) (o := .cells #[.int .i64 a0_0, .int .i64 a0_1, .int .i64 a0_2, .int .i64 a0_3, .int .i64 a0_4, .int .i64 a0_5, .slice A0_6 l0_6.length c0_6, .slice (some ad343) l0_7.length c0_7] 45 (0, 0)) (blk_g BK307.out) hg (Kd.R_ne HO349.out BK307.out (by decide))); replace HO346 := zA (Kd.R_after (ok := (fun _ => True)) (R_g (Kd.R_mono HO346.out (fun _ hk => ⟨trivial, hk⟩))) hg hat); replace HB := zA (hb); have HO352 := zA (ho); clear HO349; clear ho hb hg hat))
             go_roundg k3
             case measure => have := HJ1.out; have := HK2.out; have := HK3.out; omega
             case rel => exact ⟨(y350), (wrap64 (x5_3 + 1)), frs, H', ⟨by have := HJ1.out; have := HK2.out; have := HK3.out; omega⟩, ⟨by (with_reducible repeat (first | apply Kd.R_alloc | apply Kd.R_drewN | apply Kd.R_drew)); exact Kd.R_mono HO352.out (fun _ hk => trivial)⟩, ⟨rdB BK307.out⟩, ⟨bel⟩⟩
            ·rw [if_neg c70] at H
             exact absurd H (by simp)
          ·rw [if_neg c63] at H
           exact absurd H (by simp)
         ·rw [if_neg c62] at H
          have c62b0 : decide (x5_3 < (l0_7.length : Int)) = false := decide_eq_false c62
          clear c62
          obtain rfl := Option.some.inj H
          obtain ⟨hcz77_0, hcz77_1, hcz77_2, hcz77_3, hcz77_4, hcz77_5, hcz77_6, hcz77_7⟩ := bx8 BK307.out
          obtain ⟨hfz77_0, hfz77_1, hfz77_2, hfz77_3, hfz77_4, hfz77_5, hfz77_6, hfz77_7⟩ := fz8 BK307.out
          go_wp2
          go_ret
          exact ⟨_, by first | rfl | (simp [errW_none, errW_some] <;> rfl) | (simp [*, errW_none, errW_some] <;> rfl), rdR HO_3.out, bel⟩
end Go.Proofs.Ytjcfmfdkligmoaa.PLetterTorn
