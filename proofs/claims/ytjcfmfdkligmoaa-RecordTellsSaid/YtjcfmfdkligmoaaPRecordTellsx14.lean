/- Written by a program (this session's own): functions that the law reaches, as plain Lean functions, each with the proof that the code comes to it. No conditions but those that stand in the theorems. -/
import Derived.Test.YtjcfmfdkligmoaaPq
import Derived.Test.YtjcfmfdkligmoaaPs
import Derived.Test.YtjcfmfdkligmoaaXr
import Derived.Test.YtjcfmfdkligmoaaRq
import Derived.Test.YtjcfmfdkligmoaaPRecordTellsx0
import Derived.Test.YtjcfmfdkligmoaaPRecordTellsx4
import Derived.Test.YtjcfmfdkligmoaaPRecordTellsx6
import Derived.Test.YtjcfmfdkligmoaaPRecordTellsx8
import Derived.Test.YtjcfmfdkligmoaaPRecordTellsx9
import Derived.Test.YtjcfmfdkligmoaaPRecordTellsx10
import Derived.Test.YtjcfmfdkligmoaaPRecordTellsx12
import Derived.Test.YtjcfmfdkligmoaaPRecordTellsx13
namespace Go.Proofs.Ytjcfmfdkligmoaa.PRecordTells
open Go.RowKit Go.Proofs.YtjcfmfdkligmoaaW.PrintWords Go.Proofs.YtjcfmfdkligmoaaW.PrintLast Go.Proofs.YtjcfmfdkligmoaaW.PrintMore
attribute [local go_sem] max2_int min2_int max_two min_two max_three min_three max_four min_four   -- for this text's walks alone
set_option linter.unusedVariables false
set_option linter.unusedSimpArgs false

/-! ### fountainlaw14_RecordTells: function 3 -/
mutual
def fountainlaw14_RecordTells.j0 : Nat → List Int → Bool → Bool → Int → Int → Int → Int → Int → Int → Int → Bool → Int → List Int → Option (Bool)
 | 0, _, _, _, _, _, _, _, _, _, _, _, _, _ => none
 | k + 1, x1, x5, x27, x294000, x294001, x294002, x294003, x294004, x294005, x294006, x294007, x294008, x294009 => if x27 = true then (some x5) else ((fountainref14_RightRecord.f k x294000 x294001 x294002 x294003 x294004 x294005 x294006 x294007 x294008 x294009).bind fun t295 => ((record_Bytes.f k x294000 x294001 x294002 x294003 x294004 x294005 x294006 x294007 x294008 x294009).bind fun t296 => (if ([] : List Int).length + x1.length < 140737488355328 then ((record_Read.f k (([] : List Int) ++ x1)).bind fun bt302 => ((Rq.read.f k x1).bind fun bt316 => ((record_Right.f k x294000 x294001 x294002 x294003 x294004 x294005 x294006 x294007 x294008 x294009).bind fun t330 => (if (t330 != t295) = true then (fountainlaw14_RecordTells.j1 k t295 t296 true x294000 x294001 x294002 x294003 x294004 x294005 x294006 x294007 x294008 x294009) else ((fountainref14_RecordBytes.f k x294000 x294001 x294002 x294003 x294004 x294005 x294006 x294007 x294008 x294009).bind fun t331 => (if (strOfNums t296).toList = (strOfNums t331).toList then ((fountainref14_SameRecord.f bt302.1 bt302.2.1 bt302.2.2.1 bt302.2.2.2.1 bt302.2.2.2.2.1 bt302.2.2.2.2.2.1 bt302.2.2.2.2.2.2.1 bt302.2.2.2.2.2.2.2.1 bt302.2.2.2.2.2.2.2.2.1 bt302.2.2.2.2.2.2.2.2.2.1 bt316.1 bt316.2.1 bt316.2.2.1 bt316.2.2.2.1 bt316.2.2.2.2.1 bt316.2.2.2.2.2.1 bt316.2.2.2.2.2.2.1 bt316.2.2.2.2.2.2.2.1 bt316.2.2.2.2.2.2.2.2.1 bt316.2.2.2.2.2.2.2.2.2.1).bind fun t334 => (if t334 = true then ((fountainlaw14_num.f bt302.2.2.2.2.2.2.2.2.2.2).bind fun t335 => (fountainlaw14_RecordTells.j1 k t295 t296 (t335 != bt316.2.2.2.2.2.2.2.2.2.2) x294000 x294001 x294002 x294003 x294004 x294005 x294006 x294007 x294008 x294009)) else (fountainlaw14_RecordTells.j1 k t295 t296 true x294000 x294001 x294002 x294003 x294004 x294005 x294006 x294007 x294008 x294009))) else (fountainlaw14_RecordTells.j1 k t295 t296 true x294000 x294001 x294002 x294003 x294004 x294005 x294006 x294007 x294008 x294009))))))) else (none))))
def fountainlaw14_RecordTells.j1 : Nat → Bool → List Int → Bool → Int → Int → Int → Int → Int → Int → Int → Bool → Int → List Int → Option (Bool)
 | 0, _, _, _, _, _, _, _, _, _, _, _, _, _ => none
 | k + 1, x6, x7, x67, x294000, x294001, x294002, x294003, x294004, x294005, x294006, x294007, x294008, x294009 => if x67 = true then (some false) else ((record_Read.f k x7).bind fun bt336 => (if x6 = true then ((fountainlaw14_num.f bt336.2.2.2.2.2.2.2.2.2.2).bind fun t350 => (if t350 = 0 then ((fountainref14_SameRecord.f bt336.1 bt336.2.1 bt336.2.2.1 bt336.2.2.2.1 bt336.2.2.2.2.1 bt336.2.2.2.2.2.1 bt336.2.2.2.2.2.2.1 bt336.2.2.2.2.2.2.2.1 bt336.2.2.2.2.2.2.2.2.1 bt336.2.2.2.2.2.2.2.2.2.1 x294000 x294001 x294002 x294003 x294004 x294005 x294006 x294007 x294008 x294009).bind fun t351 => (some t351)) else (some false))) else (if (x7.length : Int) = 0 then (some true) else (some false))))
end
def fountainlaw14_RecordTells.f (k : Nat) (a0_0 : Int) (a0_1 : Int) (a0_2 : Int) (a0_3 : Int) (a0_4 : Int) (a0_5 : Int) (a0_6 : Int) (a0_7 : Bool) (a0_8 : Int) (l0_9 : List Int) (l1 : List Int) : Option (Bool) := (fountainlaw14_alive.f k).bind fun t294 => (if t294 = true then (if (l0_9.length : Int) > 200 then (fountainlaw14_RecordTells.j0 k l1 t294 true a0_0 a0_1 a0_2 a0_3 a0_4 a0_5 a0_6 a0_7 a0_8 l0_9) else (fountainlaw14_RecordTells.j0 k l1 t294 (decide ((l1.length : Int) > 300)) a0_0 a0_1 a0_2 a0_3 a0_4 a0_5 a0_6 a0_7 a0_8 l0_9)) else (fountainlaw14_RecordTells.j0 k l1 t294 true a0_0 a0_1 a0_2 a0_3 a0_4 a0_5 a0_6 a0_7 a0_8 l0_9))
theorem fountainlaw14_RecordTells.mono_l : ∀ k, (∀ y0 y1 y2 y3 y4 y5 y6 y7 y8 y9 y10 y11 y12, LeO (fountainlaw14_RecordTells.j0 k y0 y1 y2 y3 y4 y5 y6 y7 y8 y9 y10 y11 y12) (fountainlaw14_RecordTells.j0 (k + 1) y0 y1 y2 y3 y4 y5 y6 y7 y8 y9 y10 y11 y12)) ∧ (∀ y0 y1 y2 y3 y4 y5 y6 y7 y8 y9 y10 y11 y12, LeO (fountainlaw14_RecordTells.j1 k y0 y1 y2 y3 y4 y5 y6 y7 y8 y9 y10 y11 y12) (fountainlaw14_RecordTells.j1 (k + 1) y0 y1 y2 y3 y4 y5 y6 y7 y8 y9 y10 y11 y12))
 | 0 => ⟨fun _ _ _ _ _ _ _ _ _ _ _ _ _ r h => by simp [fountainlaw14_RecordTells.j0] at h, fun _ _ _ _ _ _ _ _ _ _ _ _ _ r h => by simp [fountainlaw14_RecordTells.j1] at h⟩
 | k + 1 => by
  obtain ⟨ih0, ih1⟩ := fountainlaw14_RecordTells.mono_l k
  refine ⟨?_, ?_⟩
  ·intro y0 y1 y2 y3 y4 y5 y6 y7 y8 y9 y10 y11 y12
   unfold fountainlaw14_RecordTells.j0
   repeat' first
   | (with_reducible exact ih0 _ _ _ _ _ _ _ _ _ _ _ _ _)
   | (with_reducible exact ih1 _ _ _ _ _ _ _ _ _ _ _ _ _)
   | (with_reducible exact Rq.read.mono _ _)
   | (with_reducible exact fountainlaw14_alive.mono _)
   | (with_reducible exact fountainref14_RecordBytes.mono _ _ _ _ _ _ _ _ _ _ _)
   | (with_reducible exact fountainref14_RightRecord.mono _ _ _ _ _ _ _ _ _ _ _)
   | (with_reducible exact record_Bytes.mono _ _ _ _ _ _ _ _ _ _ _)
   | (with_reducible exact record_Read.mono _ _)
   | (with_reducible exact record_Right.mono _ _ _ _ _ _ _ _ _ _ _)
   | (with_reducible exact LeO.refl _)
   | (with_reducible exact LeO.none _)
   | (with_reducible refine LeO.ite ?_ ?_)
   | (with_reducible refine LeO.bind ?_ (fun _ => ?_))
   | exact ih0 _ _ _ _ _ _ _ _ _ _ _ _ _
   | exact ih1 _ _ _ _ _ _ _ _ _ _ _ _ _
   | exact Rq.read.mono _ _
   | exact fountainlaw14_alive.mono _
   | exact fountainref14_RecordBytes.mono _ _ _ _ _ _ _ _ _ _ _
   | exact fountainref14_RightRecord.mono _ _ _ _ _ _ _ _ _ _ _
   | exact record_Bytes.mono _ _ _ _ _ _ _ _ _ _ _
   | exact record_Read.mono _ _
   | exact record_Right.mono _ _ _ _ _ _ _ _ _ _ _
   | exact LeO.none _
   | refine LeO.ite ?_ ?_
   | refine LeO.bind ?_ (fun _ => ?_)
  ·intro y0 y1 y2 y3 y4 y5 y6 y7 y8 y9 y10 y11 y12
   unfold fountainlaw14_RecordTells.j1
   repeat' first
   | (with_reducible exact ih0 _ _ _ _ _ _ _ _ _ _ _ _ _)
   | (with_reducible exact ih1 _ _ _ _ _ _ _ _ _ _ _ _ _)
   | (with_reducible exact Rq.read.mono _ _)
   | (with_reducible exact fountainlaw14_alive.mono _)
   | (with_reducible exact fountainref14_RecordBytes.mono _ _ _ _ _ _ _ _ _ _ _)
   | (with_reducible exact fountainref14_RightRecord.mono _ _ _ _ _ _ _ _ _ _ _)
   | (with_reducible exact record_Bytes.mono _ _ _ _ _ _ _ _ _ _ _)
   | (with_reducible exact record_Read.mono _ _)
   | (with_reducible exact record_Right.mono _ _ _ _ _ _ _ _ _ _ _)
   | (with_reducible exact LeO.refl _)
   | (with_reducible exact LeO.none _)
   | (with_reducible refine LeO.ite ?_ ?_)
   | (with_reducible refine LeO.bind ?_ (fun _ => ?_))
   | exact ih0 _ _ _ _ _ _ _ _ _ _ _ _ _
   | exact ih1 _ _ _ _ _ _ _ _ _ _ _ _ _
   | exact Rq.read.mono _ _
   | exact fountainlaw14_alive.mono _
   | exact fountainref14_RecordBytes.mono _ _ _ _ _ _ _ _ _ _ _
   | exact fountainref14_RightRecord.mono _ _ _ _ _ _ _ _ _ _ _
   | exact record_Bytes.mono _ _ _ _ _ _ _ _ _ _ _
   | exact record_Read.mono _ _
   | exact record_Right.mono _ _ _ _ _ _ _ _ _ _ _
   | exact LeO.none _
   | refine LeO.ite ?_ ?_
   | refine LeO.bind ?_ (fun _ => ?_)
theorem fountainlaw14_RecordTells.mono : ∀ a0 a1 a2 a3 a4 a5 a6 a7 a8 a9 a10 k, LeO (fountainlaw14_RecordTells.f k a0 a1 a2 a3 a4 a5 a6 a7 a8 a9 a10) (fountainlaw14_RecordTells.f (k + 1) a0 a1 a2 a3 a4 a5 a6 a7 a8 a9 a10) := by
 intro a0 a1 a2 a3 a4 a5 a6 a7 a8 a9 a10 k
 obtain ⟨ih0, ih1⟩ := fountainlaw14_RecordTells.mono_l k
 unfold fountainlaw14_RecordTells.f
 repeat' first
  | (with_reducible exact ih0 _ _ _ _ _ _ _ _ _ _ _ _ _)
  | (with_reducible exact ih1 _ _ _ _ _ _ _ _ _ _ _ _ _)
  | (with_reducible exact Rq.read.mono _ _)
  | (with_reducible exact fountainlaw14_alive.mono _)
  | (with_reducible exact fountainref14_RecordBytes.mono _ _ _ _ _ _ _ _ _ _ _)
  | (with_reducible exact fountainref14_RightRecord.mono _ _ _ _ _ _ _ _ _ _ _)
  | (with_reducible exact record_Bytes.mono _ _ _ _ _ _ _ _ _ _ _)
  | (with_reducible exact record_Read.mono _ _)
  | (with_reducible exact record_Right.mono _ _ _ _ _ _ _ _ _ _ _)
  | (with_reducible exact LeO.refl _)
  | (with_reducible exact LeO.none _)
  | (with_reducible refine LeO.ite ?_ ?_)
  | (with_reducible refine LeO.bind ?_ (fun _ => ?_))
  | exact ih0 _ _ _ _ _ _ _ _ _ _ _ _ _
  | exact ih1 _ _ _ _ _ _ _ _ _ _ _ _ _
  | exact Rq.read.mono _ _
  | exact fountainlaw14_alive.mono _
  | exact fountainref14_RecordBytes.mono _ _ _ _ _ _ _ _ _ _ _
  | exact fountainref14_RightRecord.mono _ _ _ _ _ _ _ _ _ _ _
  | exact record_Bytes.mono _ _ _ _ _ _ _ _ _ _ _
  | exact record_Read.mono _ _
  | exact record_Right.mono _ _ _ _ _ _ _ _ _ _ _
  | exact LeO.none _
  | refine LeO.ite ?_ ?_
  | refine LeO.bind ?_ (fun _ => ?_)
def fountainlaw14_RecordTells.T8 : Bool × List (List Nat × List Nat) := (true, [([], []), ([0], [0]), ([], []), ([1, 2], [1, 2]), ([3, 1], [3]), ([4], [4]), ([5, 4], [4, 5]), ([4], [4]), ([7, 4, 4], [4, 7]), ([8, 4], [4, 8]), ([6, 9, 4], [4, 6, 9]), ([4, 10], [4, 10]), ([11, 8], [11]), ([12], [12]), ([12], [12]), ([13, 14, 12, 12], [12, 13, 14]), ([15, 12], [12, 15]), ([12, 16], [12, 16]), ([17, 15], [17]), ([18], [18]), ([19, 18, 18], [18, 19]), ([18], [18]), ([20, 21, 18], [18, 20, 21]), ([18, 22], [18, 22])])
def fountainlaw14_RecordTells.B8 : List Nat := [0, 1, 0, 7, 15, 31, 63, 31, 159, 415, 1023, 2047, 4095, 8191, 8191, 32767, 65535, 131071, 262143, 524287, 1048575, 524287, 4194303, 8388607]
theorem fountainlaw14_RecordTells.tab8 : rtab .any (opsOf Try.f3 8) = fountainlaw14_RecordTells.T8 := by kernel_rfl
theorem fountainlaw14_RecordTells.bits8 : waitsOk fountainlaw14_RecordTells.T8.2 fountainlaw14_RecordTells.B8 = true := by kernel_rfl
set_option maxHeartbeats 8000000 in
set_option maxRecDepth 100000 in
theorem fountainlaw14_RecordTells.calls (k : Nat) (a0_0 : Int) (a0_1 : Int) (a0_2 : Int) (a0_3 : Int) (a0_4 : Int) (a0_5 : Int) (a0_6 : Int) (a0_7 : Bool) (a0_8 : Int) (A0_9 : Option Addr) (c0_9 : Nat) (l0_9 : List Int) (A1 : Option Addr) (c1 : Nat) (l1 : List Int) (r : Bool) (w : World) (hr0_9 : Kd.C (Kd.int .u8) w A0_9 l0_9.length l0_9) (hc0_9 : l0_9.length ≤ c0_9) (hr1 : Kd.C (Kd.int .u8) w A1 l1.length l1) (hc1 : l1.length ≤ c1) (h : fountainlaw14_RecordTells.f k a0_0 a0_1 a0_2 a0_3 a0_4 a0_5 a0_6 a0_7 a0_8 l0_9 l1 = some r) (hrt : r = true) :
 Calls Try.prog 3 #[.agg #[.int .i64 a0_0, .int .i64 a0_1, .int .i64 a0_2, .int .i64 a0_3, .int .i64 a0_4, .int .i64 a0_5, .int .i64 a0_6, .bool a0_7, .int .i64 a0_8, .slice A0_9 l0_9.length c0_9], .slice A1 l1.length c1] w fun e w' => e = .returned (.bool r) ∧ Below w.heap.size w w' := by
 have hu28 := Try.underlying28
 have HRT := Aside0.mk hrt
 clear hrt
 have HR0_9 := Aside0.mk hr0_9
 have HC0_9 := Aside0.mk hc0_9
 clear hr0_9 hc0_9
 have HR1 := Aside0.mk hr1
 have HC1 := Aside0.mk hc1
 clear hr1 hc1
 have HB := Aside0.mk (Below.refl w.heap.size w)
 have H : ((fountainlaw14_alive.f k).bind fun t294 => (if t294 = true then (if (l0_9.length : Int) > 200 then (fountainlaw14_RecordTells.j0 k l1 t294 true a0_0 a0_1 a0_2 a0_3 a0_4 a0_5 a0_6 a0_7 a0_8 l0_9) else (fountainlaw14_RecordTells.j0 k l1 t294 (decide ((l1.length : Int) > 300)) a0_0 a0_1 a0_2 a0_3 a0_4 a0_5 a0_6 a0_7 a0_8 l0_9)) else (fountainlaw14_RecordTells.j0 k l1 t294 true a0_0 a0_1 a0_2 a0_3 a0_4 a0_5 a0_6 a0_7 a0_8 l0_9))) = some r := h
 clear h
 replace H := Option.bind_eq_some_iff.mp H
 obtain ⟨t294, A30, H⟩ := H
 replace H : (if t294 = true then (if (l0_9.length : Int) > 200 then (fountainlaw14_RecordTells.j0 k l1 t294 true a0_0 a0_1 a0_2 a0_3 a0_4 a0_5 a0_6 a0_7 a0_8 l0_9) else (fountainlaw14_RecordTells.j0 k l1 t294 (decide ((l1.length : Int) > 300)) a0_0 a0_1 a0_2 a0_3 a0_4 a0_5 a0_6 a0_7 a0_8 l0_9)) else (fountainlaw14_RecordTells.j0 k l1 t294 true a0_0 a0_1 a0_2 a0_3 a0_4 a0_5 a0_6 a0_7 a0_8 l0_9)) = some r := H
 have A3 := Aside0.mk A30
 clear A30
 have HC4 := Aside0.mk H
 clear H
 go_enter Try.func3, Try.ntmps3
 go_upto_region 2 with (first | ((with_reducible refine gate_dst (N := 2) rfl ?_); (try (refine gate_guard (by rfl) ?_; dsimp only)); refine box_event ?hg (N := 2) ?hd (cs := #[.int .i64 a0_0, .int .i64 a0_1, .int .i64 a0_2, .int .i64 a0_3, .int .i64 a0_4, .int .i64 a0_5, .int .i64 a0_6, .bool a0_7, .int .i64 a0_8, .slice A0_9 l0_9.length c0_9]) (t := 28) ?hr ?_; (case hd => rfl); (case hg => rfl); (case hr => first | (go_simp; done) | (go_simp; rfl)); intro gb293 hg w5 hbox hb; have n0_ := Aside0.mk (belt hb); have n1_ := Aside0.mk (hbox); have n2_ := Aside0.mk ((by rw [hg]; exact bels : w.heap.size ≤ gb293)); have n3_ := Aside0.mk ((by rw [hg]; exact bels : w.heap.size ≤ gb293)); clear HB; have HB := n0_; have BK293 := n1_; have GW293 := n2_; have GE293 := n3_; clear n0_ n1_ n2_ n3_; clear hb hbox hg) | ((with_reducible refine gate_callee (f := 9) rfl ?_); refine goesL_ (some 14) rfl rfl Try.func9 (by kernel_rfl) rfl #[] rfl (by (try simp only [List.map_toArray, List.map_cons, List.map_nil]); first | done | rfl | (simp only [List.length_drop, List.length_take]; rfl)) ?_; (with_reducible refine (fountainlaw14_alive.calls k  t294 _ A3.out).mono ?_); rintro e w6 ⟨rfl, hb⟩; refine ⟨_, rfl, ?_⟩; have n0_ := Aside0.mk (blk_below (g := gb293) (o := .cells #[.int .i64 a0_0, .int .i64 a0_1, .int .i64 a0_2, .int .i64 a0_3, .int .i64 a0_4, .int .i64 a0_5, .int .i64 a0_6, .bool a0_7, .int .i64 a0_8, .slice A0_9 l0_9.length c0_9] 28 (0, 0)) (blk_g BK293.out) hb); have n1_ := Aside0.mk (belt hb); clear BK293; clear HB; have BK293 := n0_; have HB := n1_; clear n0_ n1_; (try clear hb); (try clear hb2); (try clear hk); (try clear hi)))
 (try simp only [Act.put, List.setIfInBounds_toArray, List.set_cons_zero, List.set_cons_succ])
 go_cut [27] (fun v27 wc => ∃ (kq : Nat) (x27_3 : Bool), v27 = .bool x27_3 ∧ Aside0 (fountainlaw14_RecordTells.j0 kq l1 t294 x27_3 a0_0 a0_1 a0_2 a0_3 a0_4 a0_5 a0_6 a0_7 a0_8 l0_9 = some r) ∧ Aside0 (kq ≤ k) ∧ Aside0 (wc.heap[gb293]? = some (.cells #[.int .i64 a0_0, .int .i64 a0_1, .int .i64 a0_2, .int .i64 a0_3, .int .i64 a0_4, .int .i64 a0_5, .int .i64 a0_6, .bool a0_7, .int .i64 a0_8, (.slice A0_9 l0_9.length c0_9)] 28 (0, 0))) ∧ Aside0 (Below w.heap.size w wc))
 case first =>
  have H := HC4.out
  clear HC4
  by_cases c7 : t294 = true
  ·subst c7
   have H1 : (if (l0_9.length : Int) > 200 then (fountainlaw14_RecordTells.j0 k l1 true true a0_0 a0_1 a0_2 a0_3 a0_4 a0_5 a0_6 a0_7 a0_8 l0_9) else (fountainlaw14_RecordTells.j0 k l1 true (decide ((l1.length : Int) > 300)) a0_0 a0_1 a0_2 a0_3 a0_4 a0_5 a0_6 a0_7 a0_8 l0_9)) = some r := by rw [if_pos rfl] at H; exact H
   clear H
   have H := H1
   clear H1
   by_cases c8 : (l0_9.length : Int) > 200
   ·rw [if_pos c8] at H
    have c8b0 : decide (200 < (l0_9.length : Int)) = true := decide_eq_true c8
    have c8b1 : decide (200 < l0_9.length) = true := decide_eq_true (by omega)
    clear c8
    (first | rw [c8b0] | (simp only [i64_w, i32_w]; rw [c8b0]) | rw [c8b1] | skip)
    have H' := Aside0.mk H
    clear H
    have hcz9_0 : w6.cell? ⟨gb293, 0, none⟩ = some (.int .i64 a0_0) := (blk_cell BK293.out 0).trans rfl
    have hcz9_1 : w6.cell? ⟨gb293, 1, none⟩ = some (.int .i64 a0_1) := (blk_cell BK293.out 1).trans rfl
    have hcz9_2 : w6.cell? ⟨gb293, 2, none⟩ = some (.int .i64 a0_2) := (blk_cell BK293.out 2).trans rfl
    have hcz9_3 : w6.cell? ⟨gb293, 3, none⟩ = some (.int .i64 a0_3) := (blk_cell BK293.out 3).trans rfl
    have hcz9_4 : w6.cell? ⟨gb293, 4, none⟩ = some (.int .i64 a0_4) := (blk_cell BK293.out 4).trans rfl
    have hcz9_5 : w6.cell? ⟨gb293, 5, none⟩ = some (.int .i64 a0_5) := (blk_cell BK293.out 5).trans rfl
    have hcz9_6 : w6.cell? ⟨gb293, 6, none⟩ = some (.int .i64 a0_6) := (blk_cell BK293.out 6).trans rfl
    have hcz9_7 : w6.cell? ⟨gb293, 7, none⟩ = some (.bool a0_7) := (blk_cell BK293.out 7).trans rfl
    have hcz9_8 : w6.cell? ⟨gb293, 8, none⟩ = some (.int .i64 a0_8) := (blk_cell BK293.out 8).trans rfl
    have hcz9_9 : w6.cell? ⟨gb293, 9, none⟩ = some (.slice A0_9 l0_9.length c0_9) := (blk_cell BK293.out 9).trans rfl
    have hfz9_0 := blk_frozen BK293.out 0
    have hfz9_1 := blk_frozen BK293.out 1
    have hfz9_2 := blk_frozen BK293.out 2
    have hfz9_3 := blk_frozen BK293.out 3
    have hfz9_4 := blk_frozen BK293.out 4
    have hfz9_5 := blk_frozen BK293.out 5
    have hfz9_6 := blk_frozen BK293.out 6
    have hfz9_7 := blk_frozen BK293.out 7
    have hfz9_8 := blk_frozen BK293.out 8
    have hfz9_9 := blk_frozen BK293.out 9
    go_wp2
    go_meet
    case rel => exact ⟨_, (true), (by first | rfl | (simp; done) | (simp [*]; done)), H', ⟨by first | omega | exact Nat.le_refl _⟩, ⟨by (with_reducible repeat (first | refine blk_drewN ?_ _ | refine blk_drew ?_ | refine blk_alloc ?_ _)); exact BK293.out⟩, ⟨bel⟩⟩
   ·rw [if_neg c8] at H
    have c8b0 : decide (200 < (l0_9.length : Int)) = false := decide_eq_false c8
    have c8b1 : decide (200 < l0_9.length) = false := decide_eq_false (by omega)
    clear c8
    (first | rw [c8b0] | (simp only [i64_w, i32_w]; rw [c8b0]) | rw [c8b1] | skip)
    have H' := Aside0.mk H
    clear H
    have hcz10_0 : w6.cell? ⟨gb293, 0, none⟩ = some (.int .i64 a0_0) := (blk_cell BK293.out 0).trans rfl
    have hcz10_1 : w6.cell? ⟨gb293, 1, none⟩ = some (.int .i64 a0_1) := (blk_cell BK293.out 1).trans rfl
    have hcz10_2 : w6.cell? ⟨gb293, 2, none⟩ = some (.int .i64 a0_2) := (blk_cell BK293.out 2).trans rfl
    have hcz10_3 : w6.cell? ⟨gb293, 3, none⟩ = some (.int .i64 a0_3) := (blk_cell BK293.out 3).trans rfl
    have hcz10_4 : w6.cell? ⟨gb293, 4, none⟩ = some (.int .i64 a0_4) := (blk_cell BK293.out 4).trans rfl
    have hcz10_5 : w6.cell? ⟨gb293, 5, none⟩ = some (.int .i64 a0_5) := (blk_cell BK293.out 5).trans rfl
    have hcz10_6 : w6.cell? ⟨gb293, 6, none⟩ = some (.int .i64 a0_6) := (blk_cell BK293.out 6).trans rfl
    have hcz10_7 : w6.cell? ⟨gb293, 7, none⟩ = some (.bool a0_7) := (blk_cell BK293.out 7).trans rfl
    have hcz10_8 : w6.cell? ⟨gb293, 8, none⟩ = some (.int .i64 a0_8) := (blk_cell BK293.out 8).trans rfl
    have hcz10_9 : w6.cell? ⟨gb293, 9, none⟩ = some (.slice A0_9 l0_9.length c0_9) := (blk_cell BK293.out 9).trans rfl
    have hfz10_0 := blk_frozen BK293.out 0
    have hfz10_1 := blk_frozen BK293.out 1
    have hfz10_2 := blk_frozen BK293.out 2
    have hfz10_3 := blk_frozen BK293.out 3
    have hfz10_4 := blk_frozen BK293.out 4
    have hfz10_5 := blk_frozen BK293.out 5
    have hfz10_6 := blk_frozen BK293.out 6
    have hfz10_7 := blk_frozen BK293.out 7
    have hfz10_8 := blk_frozen BK293.out 8
    have hfz10_9 := blk_frozen BK293.out 9
    go_wp2
    go_meet
    case rel => exact ⟨_, (decide ((l1.length : Int) > 300)), (by first | rfl | (simp; done) | (simp [*]; done)), H', ⟨by first | omega | exact Nat.le_refl _⟩, ⟨by (with_reducible repeat (first | refine blk_drewN ?_ _ | refine blk_drew ?_ | refine blk_alloc ?_ _)); exact BK293.out⟩, ⟨bel⟩⟩
  ·replace c7 := Bool.eq_false_iff.mpr c7
   subst c7
   have H1 : (fountainlaw14_RecordTells.j0 k l1 false true a0_0 a0_1 a0_2 a0_3 a0_4 a0_5 a0_6 a0_7 a0_8 l0_9) = some r := by rw [if_neg (show ¬ (false = true) by decide)] at H; exact H
   clear H
   have H := H1
   clear H1
   have H' := Aside0.mk H
   clear H
   go_wp2
   go_meet
   case rel => exact ⟨_, (true), (by first | rfl | (simp; done) | (simp [*]; done)), H', ⟨by first | omega | exact Nat.le_refl _⟩, ⟨by (with_reducible repeat (first | refine blk_drewN ?_ _ | refine blk_drew ?_ | refine blk_alloc ?_ _)); exact BK293.out⟩, ⟨bel⟩⟩
 case rest =>
  clear HC4
  try clear c1
  try clear p2
  try clear c3
  try clear c7
  try clear c8
  try clear c8b0
  try clear c8b1
  try clear c9
  try clear hcz10_0
  try clear hcz10_1
  try clear hcz10_2
  try clear hcz10_3
  try clear hcz10_4
  try clear hcz10_5
  try clear hcz10_6
  try clear hcz10_7
  try clear hcz10_8
  try clear hcz10_9
  try clear hcz9_0
  try clear hcz9_1
  try clear hcz9_2
  try clear hcz9_3
  try clear hcz9_4
  try clear hcz9_5
  try clear hcz9_6
  try clear hcz9_7
  try clear hcz9_8
  try clear hcz9_9
  try clear hfz10_0
  try clear hfz10_1
  try clear hfz10_2
  try clear hfz10_3
  try clear hfz10_4
  try clear hfz10_5
  try clear hfz10_6
  try clear hfz10_7
  try clear hfz10_8
  try clear hfz10_9
  try clear hfz9_0
  try clear hfz9_1
  try clear hfz9_2
  try clear hfz9_3
  try clear hfz9_4
  try clear hfz9_5
  try clear hfz9_6
  try clear hfz9_7
  try clear hfz9_8
  try clear hfz9_9
  obtain ⟨kq, x27_3, rfl, HA, HJ3, BK293, HB⟩ := hcut
  cases kq with
  | zero => exact absurd HA.out (by simp [fountainlaw14_RecordTells.j0])
  | succ kj3 =>
   have H := HA.out
   clear HA
   simp only [fountainlaw14_RecordTells.j0] at H
   by_cases c11 : x27_3 = true
   ·subst c11
    have H1 : (some t294) = some r := by rw [if_pos rfl] at H; exact H
    clear H
    have H := H1
    clear H1
    obtain rfl := Option.some.inj H
    go_wp2
    go_ret
    exact ⟨by first | rfl | (simp [errW_none, errW_some] <;> rfl) | (simp [*, errW_none, errW_some] <;> rfl), bel⟩
   ·replace c11 := Bool.eq_false_iff.mpr c11
    subst c11
    have H1 : ((fountainref14_RightRecord.f kj3 a0_0 a0_1 a0_2 a0_3 a0_4 a0_5 a0_6 a0_7 a0_8 l0_9).bind fun t295 => ((record_Bytes.f kj3 a0_0 a0_1 a0_2 a0_3 a0_4 a0_5 a0_6 a0_7 a0_8 l0_9).bind fun t296 => (if ([] : List Int).length + l1.length < 140737488355328 then ((record_Read.f kj3 (([] : List Int) ++ l1)).bind fun bt302 => ((Rq.read.f kj3 l1).bind fun bt316 => ((record_Right.f kj3 a0_0 a0_1 a0_2 a0_3 a0_4 a0_5 a0_6 a0_7 a0_8 l0_9).bind fun t330 => (if (t330 != t295) = true then (fountainlaw14_RecordTells.j1 kj3 t295 t296 true a0_0 a0_1 a0_2 a0_3 a0_4 a0_5 a0_6 a0_7 a0_8 l0_9) else ((fountainref14_RecordBytes.f kj3 a0_0 a0_1 a0_2 a0_3 a0_4 a0_5 a0_6 a0_7 a0_8 l0_9).bind fun t331 => (if (strOfNums t296).toList = (strOfNums t331).toList then ((fountainref14_SameRecord.f bt302.1 bt302.2.1 bt302.2.2.1 bt302.2.2.2.1 bt302.2.2.2.2.1 bt302.2.2.2.2.2.1 bt302.2.2.2.2.2.2.1 bt302.2.2.2.2.2.2.2.1 bt302.2.2.2.2.2.2.2.2.1 bt302.2.2.2.2.2.2.2.2.2.1 bt316.1 bt316.2.1 bt316.2.2.1 bt316.2.2.2.1 bt316.2.2.2.2.1 bt316.2.2.2.2.2.1 bt316.2.2.2.2.2.2.1 bt316.2.2.2.2.2.2.2.1 bt316.2.2.2.2.2.2.2.2.1 bt316.2.2.2.2.2.2.2.2.2.1).bind fun t334 => (if t334 = true then ((fountainlaw14_num.f bt302.2.2.2.2.2.2.2.2.2.2).bind fun t335 => (fountainlaw14_RecordTells.j1 kj3 t295 t296 (t335 != bt316.2.2.2.2.2.2.2.2.2.2) a0_0 a0_1 a0_2 a0_3 a0_4 a0_5 a0_6 a0_7 a0_8 l0_9)) else (fountainlaw14_RecordTells.j1 kj3 t295 t296 true a0_0 a0_1 a0_2 a0_3 a0_4 a0_5 a0_6 a0_7 a0_8 l0_9))) else (fountainlaw14_RecordTells.j1 kj3 t295 t296 true a0_0 a0_1 a0_2 a0_3 a0_4 a0_5 a0_6 a0_7 a0_8 l0_9))))))) else (none)))) = some r := by rw [if_neg (show ¬ (false = true) by decide)] at H; exact H
    clear H
    have H := H1
    clear H1
    replace H := Option.bind_eq_some_iff.mp H
    obtain ⟨t295, A120, H⟩ := H
    replace H : ((record_Bytes.f kj3 a0_0 a0_1 a0_2 a0_3 a0_4 a0_5 a0_6 a0_7 a0_8 l0_9).bind fun t296 => (if ([] : List Int).length + l1.length < 140737488355328 then ((record_Read.f kj3 (([] : List Int) ++ l1)).bind fun bt302 => ((Rq.read.f kj3 l1).bind fun bt316 => ((record_Right.f kj3 a0_0 a0_1 a0_2 a0_3 a0_4 a0_5 a0_6 a0_7 a0_8 l0_9).bind fun t330 => (if (t330 != t295) = true then (fountainlaw14_RecordTells.j1 kj3 t295 t296 true a0_0 a0_1 a0_2 a0_3 a0_4 a0_5 a0_6 a0_7 a0_8 l0_9) else ((fountainref14_RecordBytes.f kj3 a0_0 a0_1 a0_2 a0_3 a0_4 a0_5 a0_6 a0_7 a0_8 l0_9).bind fun t331 => (if (strOfNums t296).toList = (strOfNums t331).toList then ((fountainref14_SameRecord.f bt302.1 bt302.2.1 bt302.2.2.1 bt302.2.2.2.1 bt302.2.2.2.2.1 bt302.2.2.2.2.2.1 bt302.2.2.2.2.2.2.1 bt302.2.2.2.2.2.2.2.1 bt302.2.2.2.2.2.2.2.2.1 bt302.2.2.2.2.2.2.2.2.2.1 bt316.1 bt316.2.1 bt316.2.2.1 bt316.2.2.2.1 bt316.2.2.2.2.1 bt316.2.2.2.2.2.1 bt316.2.2.2.2.2.2.1 bt316.2.2.2.2.2.2.2.1 bt316.2.2.2.2.2.2.2.2.1 bt316.2.2.2.2.2.2.2.2.2.1).bind fun t334 => (if t334 = true then ((fountainlaw14_num.f bt302.2.2.2.2.2.2.2.2.2.2).bind fun t335 => (fountainlaw14_RecordTells.j1 kj3 t295 t296 (t335 != bt316.2.2.2.2.2.2.2.2.2.2) a0_0 a0_1 a0_2 a0_3 a0_4 a0_5 a0_6 a0_7 a0_8 l0_9)) else (fountainlaw14_RecordTells.j1 kj3 t295 t296 true a0_0 a0_1 a0_2 a0_3 a0_4 a0_5 a0_6 a0_7 a0_8 l0_9))) else (fountainlaw14_RecordTells.j1 kj3 t295 t296 true a0_0 a0_1 a0_2 a0_3 a0_4 a0_5 a0_6 a0_7 a0_8 l0_9))))))) else (none))) = some r := H
    have A12 := Aside0.mk A120
    clear A120
    replace H := Option.bind_eq_some_iff.mp H
    obtain ⟨t296, A130, H⟩ := H
    replace H : (if ([] : List Int).length + l1.length < 140737488355328 then ((record_Read.f kj3 (([] : List Int) ++ l1)).bind fun bt302 => ((Rq.read.f kj3 l1).bind fun bt316 => ((record_Right.f kj3 a0_0 a0_1 a0_2 a0_3 a0_4 a0_5 a0_6 a0_7 a0_8 l0_9).bind fun t330 => (if (t330 != t295) = true then (fountainlaw14_RecordTells.j1 kj3 t295 t296 true a0_0 a0_1 a0_2 a0_3 a0_4 a0_5 a0_6 a0_7 a0_8 l0_9) else ((fountainref14_RecordBytes.f kj3 a0_0 a0_1 a0_2 a0_3 a0_4 a0_5 a0_6 a0_7 a0_8 l0_9).bind fun t331 => (if (strOfNums t296).toList = (strOfNums t331).toList then ((fountainref14_SameRecord.f bt302.1 bt302.2.1 bt302.2.2.1 bt302.2.2.2.1 bt302.2.2.2.2.1 bt302.2.2.2.2.2.1 bt302.2.2.2.2.2.2.1 bt302.2.2.2.2.2.2.2.1 bt302.2.2.2.2.2.2.2.2.1 bt302.2.2.2.2.2.2.2.2.2.1 bt316.1 bt316.2.1 bt316.2.2.1 bt316.2.2.2.1 bt316.2.2.2.2.1 bt316.2.2.2.2.2.1 bt316.2.2.2.2.2.2.1 bt316.2.2.2.2.2.2.2.1 bt316.2.2.2.2.2.2.2.2.1 bt316.2.2.2.2.2.2.2.2.2.1).bind fun t334 => (if t334 = true then ((fountainlaw14_num.f bt302.2.2.2.2.2.2.2.2.2.2).bind fun t335 => (fountainlaw14_RecordTells.j1 kj3 t295 t296 (t335 != bt316.2.2.2.2.2.2.2.2.2.2) a0_0 a0_1 a0_2 a0_3 a0_4 a0_5 a0_6 a0_7 a0_8 l0_9)) else (fountainlaw14_RecordTells.j1 kj3 t295 t296 true a0_0 a0_1 a0_2 a0_3 a0_4 a0_5 a0_6 a0_7 a0_8 l0_9))) else (fountainlaw14_RecordTells.j1 kj3 t295 t296 true a0_0 a0_1 a0_2 a0_3 a0_4 a0_5 a0_6 a0_7 a0_8 l0_9))))))) else (none)) = some r := H
    have A13 := Aside0.mk A130
    clear A130
    by_cases c14 : ([] : List Int).length + l1.length < 140737488355328
    ·rw [if_pos c14] at H
     have LMc14 := Aside0.mk c14
     clear c14
     obtain ⟨y299, hy299⟩ : ∃ y_ : List Int, y_ = (([] : List Int) ++ l1) := ⟨_, rfl⟩
     replace H : ((record_Read.f kj3 y299).bind fun bt302 => ((Rq.read.f kj3 l1).bind fun bt316 => ((record_Right.f kj3 a0_0 a0_1 a0_2 a0_3 a0_4 a0_5 a0_6 a0_7 a0_8 l0_9).bind fun t330 => (if (t330 != t295) = true then (fountainlaw14_RecordTells.j1 kj3 t295 t296 true a0_0 a0_1 a0_2 a0_3 a0_4 a0_5 a0_6 a0_7 a0_8 l0_9) else ((fountainref14_RecordBytes.f kj3 a0_0 a0_1 a0_2 a0_3 a0_4 a0_5 a0_6 a0_7 a0_8 l0_9).bind fun t331 => (if (strOfNums t296).toList = (strOfNums t331).toList then ((fountainref14_SameRecord.f bt302.1 bt302.2.1 bt302.2.2.1 bt302.2.2.2.1 bt302.2.2.2.2.1 bt302.2.2.2.2.2.1 bt302.2.2.2.2.2.2.1 bt302.2.2.2.2.2.2.2.1 bt302.2.2.2.2.2.2.2.2.1 bt302.2.2.2.2.2.2.2.2.2.1 bt316.1 bt316.2.1 bt316.2.2.1 bt316.2.2.2.1 bt316.2.2.2.2.1 bt316.2.2.2.2.2.1 bt316.2.2.2.2.2.2.1 bt316.2.2.2.2.2.2.2.1 bt316.2.2.2.2.2.2.2.2.1 bt316.2.2.2.2.2.2.2.2.2.1).bind fun t334 => (if t334 = true then ((fountainlaw14_num.f bt302.2.2.2.2.2.2.2.2.2.2).bind fun t335 => (fountainlaw14_RecordTells.j1 kj3 t295 t296 (t335 != bt316.2.2.2.2.2.2.2.2.2.2) a0_0 a0_1 a0_2 a0_3 a0_4 a0_5 a0_6 a0_7 a0_8 l0_9)) else (fountainlaw14_RecordTells.j1 kj3 t295 t296 true a0_0 a0_1 a0_2 a0_3 a0_4 a0_5 a0_6 a0_7 a0_8 l0_9))) else (fountainlaw14_RecordTells.j1 kj3 t295 t296 true a0_0 a0_1 a0_2 a0_3 a0_4 a0_5 a0_6 a0_7 a0_8 l0_9))))))) = some r := by first | (rw [hy299]; with_reducible exact H) | (have H2_ := (Option.bind_some _ _).symm.trans H; rw [hy299]; with_reducible exact H2_) | (have H2_ := (Option.bind_some _ _).symm.trans H; with_reducible exact H2_) | with_reducible exact H | (rw [hy299]; exact H) | exact H
     have Ny299 := Aside0.mk hy299
     clear hy299
     replace H := Option.bind_eq_some_iff.mp H
     obtain ⟨⟨t302, t303, t304, t305, t306, t307, t308, t309, t310, t311, t314⟩, A150, H⟩ := H
     replace H : ((Rq.read.f kj3 l1).bind fun bt316 => ((record_Right.f kj3 a0_0 a0_1 a0_2 a0_3 a0_4 a0_5 a0_6 a0_7 a0_8 l0_9).bind fun t330 => (if (t330 != t295) = true then (fountainlaw14_RecordTells.j1 kj3 t295 t296 true a0_0 a0_1 a0_2 a0_3 a0_4 a0_5 a0_6 a0_7 a0_8 l0_9) else ((fountainref14_RecordBytes.f kj3 a0_0 a0_1 a0_2 a0_3 a0_4 a0_5 a0_6 a0_7 a0_8 l0_9).bind fun t331 => (if (strOfNums t296).toList = (strOfNums t331).toList then ((fountainref14_SameRecord.f t302 t303 t304 t305 t306 t307 t308 t309 t310 t311 bt316.1 bt316.2.1 bt316.2.2.1 bt316.2.2.2.1 bt316.2.2.2.2.1 bt316.2.2.2.2.2.1 bt316.2.2.2.2.2.2.1 bt316.2.2.2.2.2.2.2.1 bt316.2.2.2.2.2.2.2.2.1 bt316.2.2.2.2.2.2.2.2.2.1).bind fun t334 => (if t334 = true then ((fountainlaw14_num.f t314).bind fun t335 => (fountainlaw14_RecordTells.j1 kj3 t295 t296 (t335 != bt316.2.2.2.2.2.2.2.2.2.2) a0_0 a0_1 a0_2 a0_3 a0_4 a0_5 a0_6 a0_7 a0_8 l0_9)) else (fountainlaw14_RecordTells.j1 kj3 t295 t296 true a0_0 a0_1 a0_2 a0_3 a0_4 a0_5 a0_6 a0_7 a0_8 l0_9))) else (fountainlaw14_RecordTells.j1 kj3 t295 t296 true a0_0 a0_1 a0_2 a0_3 a0_4 a0_5 a0_6 a0_7 a0_8 l0_9)))))) = some r := H
     have A15 := Aside0.mk A150
     clear A150
     replace H := Option.bind_eq_some_iff.mp H
     obtain ⟨⟨t316, t317, t318, t319, t320, t321, t322, t323, t324, t325, t328⟩, A160, H⟩ := H
     replace H : ((record_Right.f kj3 a0_0 a0_1 a0_2 a0_3 a0_4 a0_5 a0_6 a0_7 a0_8 l0_9).bind fun t330 => (if (t330 != t295) = true then (fountainlaw14_RecordTells.j1 kj3 t295 t296 true a0_0 a0_1 a0_2 a0_3 a0_4 a0_5 a0_6 a0_7 a0_8 l0_9) else ((fountainref14_RecordBytes.f kj3 a0_0 a0_1 a0_2 a0_3 a0_4 a0_5 a0_6 a0_7 a0_8 l0_9).bind fun t331 => (if (strOfNums t296).toList = (strOfNums t331).toList then ((fountainref14_SameRecord.f t302 t303 t304 t305 t306 t307 t308 t309 t310 t311 t316 t317 t318 t319 t320 t321 t322 t323 t324 t325).bind fun t334 => (if t334 = true then ((fountainlaw14_num.f t314).bind fun t335 => (fountainlaw14_RecordTells.j1 kj3 t295 t296 (t335 != t328) a0_0 a0_1 a0_2 a0_3 a0_4 a0_5 a0_6 a0_7 a0_8 l0_9)) else (fountainlaw14_RecordTells.j1 kj3 t295 t296 true a0_0 a0_1 a0_2 a0_3 a0_4 a0_5 a0_6 a0_7 a0_8 l0_9))) else (fountainlaw14_RecordTells.j1 kj3 t295 t296 true a0_0 a0_1 a0_2 a0_3 a0_4 a0_5 a0_6 a0_7 a0_8 l0_9))))) = some r := H
     have A16 := Aside0.mk A160
     clear A160
     have HC17 := Aside0.mk H
     clear H
     have hcz18_0 : wc.cell? ⟨gb293, 0, none⟩ = some (.int .i64 a0_0) := (blk_cell BK293.out 0).trans rfl
     have hcz18_1 : wc.cell? ⟨gb293, 1, none⟩ = some (.int .i64 a0_1) := (blk_cell BK293.out 1).trans rfl
     have hcz18_2 : wc.cell? ⟨gb293, 2, none⟩ = some (.int .i64 a0_2) := (blk_cell BK293.out 2).trans rfl
     have hcz18_3 : wc.cell? ⟨gb293, 3, none⟩ = some (.int .i64 a0_3) := (blk_cell BK293.out 3).trans rfl
     have hcz18_4 : wc.cell? ⟨gb293, 4, none⟩ = some (.int .i64 a0_4) := (blk_cell BK293.out 4).trans rfl
     have hcz18_5 : wc.cell? ⟨gb293, 5, none⟩ = some (.int .i64 a0_5) := (blk_cell BK293.out 5).trans rfl
     have hcz18_6 : wc.cell? ⟨gb293, 6, none⟩ = some (.int .i64 a0_6) := (blk_cell BK293.out 6).trans rfl
     have hcz18_7 : wc.cell? ⟨gb293, 7, none⟩ = some (.bool a0_7) := (blk_cell BK293.out 7).trans rfl
     have hcz18_8 : wc.cell? ⟨gb293, 8, none⟩ = some (.int .i64 a0_8) := (blk_cell BK293.out 8).trans rfl
     have hcz18_9 : wc.cell? ⟨gb293, 9, none⟩ = some (.slice A0_9 l0_9.length c0_9) := (blk_cell BK293.out 9).trans rfl
     have hfz18_0 := blk_frozen BK293.out 0
     have hfz18_1 := blk_frozen BK293.out 1
     have hfz18_2 := blk_frozen BK293.out 2
     have hfz18_3 := blk_frozen BK293.out 3
     have hfz18_4 := blk_frozen BK293.out 4
     have hfz18_5 := blk_frozen BK293.out 5
     have hfz18_6 := blk_frozen BK293.out 6
     have hfz18_7 := blk_frozen BK293.out 7
     have hfz18_8 := blk_frozen BK293.out 8
     have hfz18_9 := blk_frozen BK293.out 9
     go_upto_region 8 with (first | ((with_reducible refine gate_callee (f := 10) rfl ?_); refine goesL_ (some 30) rfl rfl Try.func10 (by kernel_rfl) rfl #[.agg #[.int .i64 a0_0, .int .i64 a0_1, .int .i64 a0_2, .int .i64 a0_3, .int .i64 a0_4, .int .i64 a0_5, .int .i64 a0_6, .bool a0_7, .int .i64 a0_8, .slice A0_9 l0_9.length c0_9]] rfl (by (try simp only [List.map_toArray, List.map_cons, List.map_nil]); first | done | rfl | (simp only [List.length_drop, List.length_take]; rfl)) ?_; (with_reducible refine (fountainref14_RightRecord.calls kj3 a0_0 a0_1 a0_2 a0_3 a0_4 a0_5 a0_6 a0_7 a0_8 _ _ l0_9 t295 _ ?side1 ?side2 A12.out).mono ?_); (case side1 => repeat (first | exact (Kd.C_below HR0_9.out HB.out) | (with_reducible refine Kd.C_alloc ?_ _) | (with_reducible refine Kd.C_drewN ?_ _) | (with_reducible refine Kd.C_drew ?_))); (case side2 => exact HC0_9.out); rintro e w19 ⟨rfl, hb⟩; refine ⟨_, rfl, ?_⟩; have n0_ := Aside0.mk (blk_below (g := gb293) (o := .cells #[.int .i64 a0_0, .int .i64 a0_1, .int .i64 a0_2, .int .i64 a0_3, .int .i64 a0_4, .int .i64 a0_5, .int .i64 a0_6, .bool a0_7, .int .i64 a0_8, .slice A0_9 l0_9.length c0_9] 28 (0, 0)) (blk_g BK293.out) hb); have n1_ := Aside0.mk (belt hb); clear BK293; clear HB; have BK293 := n0_; have HB := n1_; clear n0_ n1_; (try clear hb); (try clear hb2); (try clear hk); (try clear hi); have hcz20_0 : w19.cell? ⟨gb293, 0, none⟩ = some (.int .i64 a0_0) := (blk_cell BK293.out 0).trans rfl; have hcz20_1 : w19.cell? ⟨gb293, 1, none⟩ = some (.int .i64 a0_1) := (blk_cell BK293.out 1).trans rfl; have hcz20_2 : w19.cell? ⟨gb293, 2, none⟩ = some (.int .i64 a0_2) := (blk_cell BK293.out 2).trans rfl; have hcz20_3 : w19.cell? ⟨gb293, 3, none⟩ = some (.int .i64 a0_3) := (blk_cell BK293.out 3).trans rfl; have hcz20_4 : w19.cell? ⟨gb293, 4, none⟩ = some (.int .i64 a0_4) := (blk_cell BK293.out 4).trans rfl; have hcz20_5 : w19.cell? ⟨gb293, 5, none⟩ = some (.int .i64 a0_5) := (blk_cell BK293.out 5).trans rfl; have hcz20_6 : w19.cell? ⟨gb293, 6, none⟩ = some (.int .i64 a0_6) := (blk_cell BK293.out 6).trans rfl; have hcz20_7 : w19.cell? ⟨gb293, 7, none⟩ = some (.bool a0_7) := (blk_cell BK293.out 7).trans rfl; have hcz20_8 : w19.cell? ⟨gb293, 8, none⟩ = some (.int .i64 a0_8) := (blk_cell BK293.out 8).trans rfl; have hcz20_9 : w19.cell? ⟨gb293, 9, none⟩ = some (.slice A0_9 l0_9.length c0_9) := (blk_cell BK293.out 9).trans rfl; have hfz20_0 := blk_frozen BK293.out 0; have hfz20_1 := blk_frozen BK293.out 1; have hfz20_2 := blk_frozen BK293.out 2; have hfz20_3 := blk_frozen BK293.out 3; have hfz20_4 := blk_frozen BK293.out 4; have hfz20_5 := blk_frozen BK293.out 5; have hfz20_6 := blk_frozen BK293.out 6; have hfz20_7 := blk_frozen BK293.out 7; have hfz20_8 := blk_frozen BK293.out 8; have hfz20_9 := blk_frozen BK293.out 9) | ((with_reducible refine gate_callee (f := 11) rfl ?_); refine goesL_ (some 32) rfl rfl Try.func11 (by kernel_rfl) rfl #[.agg #[.int .i64 a0_0, .int .i64 a0_1, .int .i64 a0_2, .int .i64 a0_3, .int .i64 a0_4, .int .i64 a0_5, .int .i64 a0_6, .bool a0_7, .int .i64 a0_8, .slice A0_9 l0_9.length c0_9]] rfl (by (try simp only [List.map_toArray, List.map_cons, List.map_nil]); first | done | rfl | (simp only [List.length_drop, List.length_take]; rfl)) ?_; (with_reducible refine (record_Bytes.calls kj3 a0_0 a0_1 a0_2 a0_3 a0_4 a0_5 a0_6 a0_7 a0_8 (fun k_ => k_ < w.heap.size) _ _ l0_9 t296 _ ?side1 A13.out).mono ?_); (case side1 => exact Kd.V_mk HC0_9.out (Kd.F_below (Kd.C_F (Kd.heap_int .u8) HR0_9.out) bel)); rintro e w21 ⟨v297, rfl, ho0, hb⟩; refine ⟨_, rfl, ?_⟩; have n0_ := Aside0.mk (Kd.R_lower (Kd.R_mono (ok' := fun k_ => True) ho0 (fun _ hk_ => trivial)) bels); have n1_ := Aside0.mk (blk_below (g := gb293) (o := .cells #[.int .i64 a0_0, .int .i64 a0_1, .int .i64 a0_2, .int .i64 a0_3, .int .i64 a0_4, .int .i64 a0_5, .int .i64 a0_6, .bool a0_7, .int .i64 a0_8, .slice A0_9 l0_9.length c0_9] 28 (0, 0)) (blk_g BK293.out) hb); have n2_ := Aside0.mk (belt hb); clear BK293; clear HB; have HO298 := n0_; have BK293 := n1_; have HB := n2_; clear n0_ n1_ n2_; (try clear hb); (try clear hb2); (try clear hk); (try clear hi); (try clear ho0)) | ((with_reducible refine gate_builtin (b := .append) (xs := #[.const (.slice none 0 0), .tmp 34]) rfl ?_); (try (refine gate_guard (by rfl) ?_; dsimp only)); at_builtin; refine Kd.R_append_rows (Kd.int .u8) (w0 := w) w.heap.size rfl (.const (.slice none 0 0)) (.tmp 34) 26 5 (.int .u8 0) 1 rfl Try.underlying26 info5 rfl (by decide) (by omega) (.slice none 0 0) ([] : List Int) l1 _ _ _ (fun k_ => some k_ ≠ (v297 : Value).ownBlock) (fun _ => False) rfl rfl ?aO ?aR (fun _ _ h => h) (fun _ h => h.elim) ?aF ?aB ?aS ?aL ?_; (case aR => repeat (first | exact (Kd.C_below HR1.out HB.out) | (with_reducible refine Kd.C_alloc ?_ _) | (with_reducible refine Kd.C_drewN ?_ _) | (with_reducible refine Kd.C_drew ?_))); (case aB => exact bel); (case aF => exact (fun k_ hk => by first | exact Kd.fresh' (Kd.R_lt (by (with_reducible repeat (first | apply Kd.R_alloc | apply Kd.R_drewN | apply Kd.R_drew)); first | exact HO298.out | exact Kd.R_mono HO298.out (fun _ hk => by grind))) k_ hk | exact hk | grind)); (case aO => exact ((Kd.R_nil _ _ _ _ (fun k_ => some k_ ≠ (v297 : Value).ownBlock)))); (case aS => exact bels); (case aL => have := LMc14.out; omega); intro v300 w22 ho hb hg hat; rw [← Ny299.out] at ho; have n0_ := Aside0.mk (blk_grown (g := gb293) (o := .cells #[.int .i64 a0_0, .int .i64 a0_1, .int .i64 a0_2, .int .i64 a0_3, .int .i64 a0_4, .int .i64 a0_5, .int .i64 a0_6, .bool a0_7, .int .i64 a0_8, .slice A0_9 l0_9.length c0_9] 28 (0, 0)) (blk_g BK293.out) hg (by simp [Value.ownBlock])); have n1_ := Aside0.mk (Kd.R_after (Kd.R_apart_nil (by (with_reducible repeat (first | apply Kd.R_alloc | apply Kd.R_drewN | apply Kd.R_drew)); first | exact HO298.out | exact Kd.R_mono HO298.out (fun _ hk => by grind))) hg hat); have n2_ := Aside0.mk (hb); have n3_ := Aside0.mk (ho); clear BK293; clear HO298; clear HB; have BK293 := n0_; have HO298 := n1_; have HB := n2_; have HO301 := n3_; clear n0_ n1_ n2_ n3_; clear ho hb hg hat; obtain ⟨Ao23, co23, eo23⟩ := Kd.R_slice HO301.out; subst eo23) | ((with_reducible refine gate_callee (f := 12) rfl ?_); refine goesL_ (some 36) rfl rfl Try.func12 (by kernel_rfl) rfl #[.slice Ao23 y299.length co23] rfl (by (try simp only [List.map_toArray, List.map_cons, List.map_nil]); first | done | rfl | (simp only [List.length_drop, List.length_take]; rfl)) ?_; (with_reducible refine (record_Read.calls kj3 _ _ y299 t302 t303 t304 t305 t306 t307 t308 t309 t310 t311 t314 _ ?side1 ?side2 A15.out).mono ?_); (case side1 => repeat (first | exact (Kd.R_reads' HO301.out).2.2 | (with_reducible refine Kd.C_alloc ?_ _) | (with_reducible refine Kd.C_drewN ?_ _) | (with_reducible refine Kd.C_drew ?_))); (case side2 => exact (Kd.R_reads' HO301.out).2.1); rintro e w24 ⟨v312, rfl, ho0, hb⟩; refine ⟨_, rfl, ?_⟩; have n0_ := Aside0.mk (Kd.R_elder' (by (with_reducible repeat (first | apply Kd.R_alloc | apply Kd.R_drewN | apply Kd.R_drew)); first | exact HO298.out | exact Kd.R_mono HO298.out (fun _ hk => by grind)) (Kd.R_base ho0) hb); have n1_ := Aside0.mk (Kd.R_elder' (by (with_reducible repeat (first | apply Kd.R_alloc | apply Kd.R_drewN | apply Kd.R_drew)); first | exact HO301.out | exact Kd.R_mono HO301.out (fun _ hk => by grind)) (Kd.R_base ho0) hb); have n2_ := Aside0.mk (Kd.R_lower (Kd.R_new' (Kd.R_new' ho0 (Kd.R_lt (by (with_reducible repeat (first | apply Kd.R_alloc | apply Kd.R_drewN | apply Kd.R_drew)); first | exact HO298.out | exact Kd.R_mono HO298.out (fun _ hk => by grind)))) (Kd.R_lt (by (with_reducible repeat (first | apply Kd.R_alloc | apply Kd.R_drewN | apply Kd.R_drew)); first | exact HO301.out | exact Kd.R_mono HO301.out (fun _ hk => by grind)))) bels); have n3_ := Aside0.mk (blk_below (g := gb293) (o := .cells #[.int .i64 a0_0, .int .i64 a0_1, .int .i64 a0_2, .int .i64 a0_3, .int .i64 a0_4, .int .i64 a0_5, .int .i64 a0_6, .bool a0_7, .int .i64 a0_8, .slice A0_9 l0_9.length c0_9] 28 (0, 0)) (blk_g BK293.out) hb); have n4_ := Aside0.mk (belt hb); clear HO298; clear HO301; clear BK293; clear HB; have HO298 := n0_; have HO301 := n1_; have HO313 := n2_; have BK293 := n3_; have HB := n4_; clear n0_ n1_ n2_ n3_ n4_; (try clear hb); (try clear hb2); (try clear hk); (try clear hi); (try clear ho0)) | ((with_reducible refine gate_dst (N := 8) rfl ?_); (try (refine gate_guard (by rfl) ?_; dsimp only)); refine box_event ?hg (N := 8) ?hd (cs := #[.int .i64 0, .int .i64 0, .int .i64 0, .int .i64 0, .int .i64 0, .int .i64 0, .int .i64 0, .bool false, .int .i64 0, .slice none 0 0]) (t := 28) ?hr ?_; (case hd => rfl); (case hg => rfl); (case hr => first | (go_simp; done) | (go_simp; rfl)); intro gb315 hg w25 hbox hb; have n0_ := Aside0.mk (Kd.R_below (by (with_reducible repeat (first | apply Kd.R_alloc | apply Kd.R_drewN | apply Kd.R_drew)); first | exact HO298.out | exact Kd.R_mono HO298.out (fun _ hk => by grind)) hb); have n1_ := Aside0.mk (Kd.R_below (by (with_reducible repeat (first | apply Kd.R_alloc | apply Kd.R_drewN | apply Kd.R_drew)); first | exact HO301.out | exact Kd.R_mono HO301.out (fun _ hk => by grind)) hb); have n2_ := Aside0.mk (Kd.R_below (by (with_reducible repeat (first | apply Kd.R_alloc | apply Kd.R_drewN | apply Kd.R_drew)); first | exact HO313.out | exact Kd.R_mono HO313.out (fun _ hk => by grind)) hb); have n3_ := Aside0.mk (blk_below (g := gb293) (o := .cells #[.int .i64 a0_0, .int .i64 a0_1, .int .i64 a0_2, .int .i64 a0_3, .int .i64 a0_4, .int .i64 a0_5, .int .i64 a0_6, .bool a0_7, .int .i64 a0_8, .slice A0_9 l0_9.length c0_9] 28 (0, 0)) (blk_g BK293.out) hb); have n4_ := Aside0.mk (belt hb); have n5_ := Aside0.mk (hbox); have n6_ := Aside0.mk ((by rw [hg]; exact bels : w.heap.size ≤ gb315)); have n7_ := Aside0.mk ((by rw [hg]; exact bels : w.heap.size ≤ gb315)); have n8_ := Aside0.mk ((by rw [hg]; exact Nat.ne_of_lt (blk_lt (g := gb293) (o := .cells #[.int .i64 a0_0, .int .i64 a0_1, .int .i64 a0_2, .int .i64 a0_3, .int .i64 a0_4, .int .i64 a0_5, .int .i64 a0_6, .bool a0_7, .int .i64 a0_8, .slice A0_9 l0_9.length c0_9] 28 (0, 0)) (blk_g BK293.out)) : gb293 ≠ gb315)); have n9_ := Aside0.mk ((by rw [hg]; exact Nat.ne_of_gt (blk_lt (g := gb293) (o := .cells #[.int .i64 a0_0, .int .i64 a0_1, .int .i64 a0_2, .int .i64 a0_3, .int .i64 a0_4, .int .i64 a0_5, .int .i64 a0_6, .bool a0_7, .int .i64 a0_8, .slice A0_9 l0_9.length c0_9] 28 (0, 0)) (blk_g BK293.out)) : gb315 ≠ gb293)); clear HO298; clear HO301; clear HO313; clear BK293; clear HB; have HO298 := n0_; have HO301 := n1_; have HO313 := n2_; have BK293 := n3_; have HB := n4_; have BK315 := n5_; have GW315 := n6_; have GE315 := n7_; have NB293_315 := n8_; have NB315_293 := n9_; clear n0_ n1_ n2_ n3_ n4_ n5_ n6_ n7_ n8_ n9_; clear hb hbox hg; have hnb26 := NB315_293.out; have hnc26 := NB293_315.out; have hcz27_0 : w25.cell? ⟨gb315, 0, none⟩ = some (.int .i64 0) := (blk_cell BK315.out 0).trans rfl; have hcz27_1 : w25.cell? ⟨gb315, 1, none⟩ = some (.int .i64 0) := (blk_cell BK315.out 1).trans rfl; have hcz27_2 : w25.cell? ⟨gb315, 2, none⟩ = some (.int .i64 0) := (blk_cell BK315.out 2).trans rfl; have hcz27_3 : w25.cell? ⟨gb315, 3, none⟩ = some (.int .i64 0) := (blk_cell BK315.out 3).trans rfl; have hcz27_4 : w25.cell? ⟨gb315, 4, none⟩ = some (.int .i64 0) := (blk_cell BK315.out 4).trans rfl; have hcz27_5 : w25.cell? ⟨gb315, 5, none⟩ = some (.int .i64 0) := (blk_cell BK315.out 5).trans rfl; have hcz27_6 : w25.cell? ⟨gb315, 6, none⟩ = some (.int .i64 0) := (blk_cell BK315.out 6).trans rfl; have hcz27_7 : w25.cell? ⟨gb315, 7, none⟩ = some (.bool false) := (blk_cell BK315.out 7).trans rfl; have hcz27_8 : w25.cell? ⟨gb315, 8, none⟩ = some (.int .i64 0) := (blk_cell BK315.out 8).trans rfl; have hcz27_9 : w25.cell? ⟨gb315, 9, none⟩ = some (.slice none 0 0) := (blk_cell BK315.out 9).trans rfl; have hfz27_0 := blk_frozen BK315.out 0; have hfz27_1 := blk_frozen BK315.out 1; have hfz27_2 := blk_frozen BK315.out 2; have hfz27_3 := blk_frozen BK315.out 3; have hfz27_4 := blk_frozen BK315.out 4; have hfz27_5 := blk_frozen BK315.out 5; have hfz27_6 := blk_frozen BK315.out 6; have hfz27_7 := blk_frozen BK315.out 7; have hfz27_8 := blk_frozen BK315.out 8; have hfz27_9 := blk_frozen BK315.out 9; obtain ⟨Ao28, co28, eo28⟩ := Kd.R_slice HO313.out; subst eo28) | ((with_reducible refine gate_callee (f := 13) rfl ?_); refine goesL_ (some 41) rfl rfl Try.func13 (by kernel_rfl) rfl #[.slice A1 l1.length c1] rfl (by (try simp only [List.map_toArray, List.map_cons, List.map_nil]); first | done | rfl | (simp only [List.length_drop, List.length_take]; rfl)) ?_; (with_reducible refine (Rq.read.calls kj3 _ _ l1 t316 t317 t318 t319 t320 t321 t322 t323 t324 t325 t328 _ ?side1 ?side2 A16.out).mono ?_); (case side1 => exact Kd.C_below HR1.out bel); (case side2 => exact HC1.out); rintro e w29 ⟨v326, rfl, ho0, hb⟩; refine ⟨_, rfl, ?_⟩; have n0_ := Aside0.mk (Kd.R_elder' (R_g (Kd.R_mono (Kd.R_far (p := ⟨gb315, 9, none⟩) (Kd.R_far (p := ⟨gb315, 8, none⟩) (Kd.R_far (p := ⟨gb315, 7, none⟩) (Kd.R_far (p := ⟨gb315, 6, none⟩) (Kd.R_far (p := ⟨gb315, 5, none⟩) (Kd.R_far (p := ⟨gb315, 4, none⟩) (Kd.R_far (p := ⟨gb315, 3, none⟩) (Kd.R_far (p := ⟨gb315, 2, none⟩) (Kd.R_far (p := ⟨gb315, 1, none⟩) (Kd.R_far (p := ⟨gb315, 0, none⟩) (Kd.R_types HO298.out BK315.out (by decide)) (fun _ hk => by first | exact hk.2 | exact hk | grind) (.int .i64 t302)) (fun _ hk => by first | exact hk.2 | exact hk | grind) (.int .i64 t303)) (fun _ hk => by first | exact hk.2 | exact hk | grind) (.int .i64 t304)) (fun _ hk => by first | exact hk.2 | exact hk | grind) (.int .i64 t305)) (fun _ hk => by first | exact hk.2 | exact hk | grind) (.int .i64 t306)) (fun _ hk => by first | exact hk.2 | exact hk | grind) (.int .i64 t307)) (fun _ hk => by first | exact hk.2 | exact hk | grind) (.int .i64 t308)) (fun _ hk => by first | exact hk.2 | exact hk | grind) (.bool t309)) (fun _ hk => by first | exact hk.2 | exact hk | grind) (.int .i64 t310)) (fun _ hk => by first | exact hk.2 | exact hk | grind) (.slice Ao28 t311.length co28)) (fun _ h_ => h_.1))) (Kd.R_base ho0) hb); have n1_ := Aside0.mk (Kd.R_elder' (R_g (Kd.R_mono (Kd.R_far (p := ⟨gb315, 9, none⟩) (Kd.R_far (p := ⟨gb315, 8, none⟩) (Kd.R_far (p := ⟨gb315, 7, none⟩) (Kd.R_far (p := ⟨gb315, 6, none⟩) (Kd.R_far (p := ⟨gb315, 5, none⟩) (Kd.R_far (p := ⟨gb315, 4, none⟩) (Kd.R_far (p := ⟨gb315, 3, none⟩) (Kd.R_far (p := ⟨gb315, 2, none⟩) (Kd.R_far (p := ⟨gb315, 1, none⟩) (Kd.R_far (p := ⟨gb315, 0, none⟩) (Kd.R_types HO301.out BK315.out (by decide)) (fun _ hk => by first | exact hk.2 | exact hk | grind) (.int .i64 t302)) (fun _ hk => by first | exact hk.2 | exact hk | grind) (.int .i64 t303)) (fun _ hk => by first | exact hk.2 | exact hk | grind) (.int .i64 t304)) (fun _ hk => by first | exact hk.2 | exact hk | grind) (.int .i64 t305)) (fun _ hk => by first | exact hk.2 | exact hk | grind) (.int .i64 t306)) (fun _ hk => by first | exact hk.2 | exact hk | grind) (.int .i64 t307)) (fun _ hk => by first | exact hk.2 | exact hk | grind) (.int .i64 t308)) (fun _ hk => by first | exact hk.2 | exact hk | grind) (.bool t309)) (fun _ hk => by first | exact hk.2 | exact hk | grind) (.int .i64 t310)) (fun _ hk => by first | exact hk.2 | exact hk | grind) (.slice Ao28 t311.length co28)) (fun _ h_ => h_.1))) (Kd.R_base ho0) hb); have n2_ := Aside0.mk (Kd.R_elder' (R_g (Kd.R_mono (Kd.R_far (p := ⟨gb315, 9, none⟩) (Kd.R_far (p := ⟨gb315, 8, none⟩) (Kd.R_far (p := ⟨gb315, 7, none⟩) (Kd.R_far (p := ⟨gb315, 6, none⟩) (Kd.R_far (p := ⟨gb315, 5, none⟩) (Kd.R_far (p := ⟨gb315, 4, none⟩) (Kd.R_far (p := ⟨gb315, 3, none⟩) (Kd.R_far (p := ⟨gb315, 2, none⟩) (Kd.R_far (p := ⟨gb315, 1, none⟩) (Kd.R_far (p := ⟨gb315, 0, none⟩) (Kd.R_types HO313.out BK315.out (by decide)) (fun _ hk => by first | exact hk.2 | exact hk | grind) (.int .i64 t302)) (fun _ hk => by first | exact hk.2 | exact hk | grind) (.int .i64 t303)) (fun _ hk => by first | exact hk.2 | exact hk | grind) (.int .i64 t304)) (fun _ hk => by first | exact hk.2 | exact hk | grind) (.int .i64 t305)) (fun _ hk => by first | exact hk.2 | exact hk | grind) (.int .i64 t306)) (fun _ hk => by first | exact hk.2 | exact hk | grind) (.int .i64 t307)) (fun _ hk => by first | exact hk.2 | exact hk | grind) (.int .i64 t308)) (fun _ hk => by first | exact hk.2 | exact hk | grind) (.bool t309)) (fun _ hk => by first | exact hk.2 | exact hk | grind) (.int .i64 t310)) (fun _ hk => by first | exact hk.2 | exact hk | grind) (.slice Ao28 t311.length co28)) (fun _ h_ => h_.1))) (Kd.R_base ho0) hb); have n3_ := Aside0.mk (Kd.R_lower (Kd.R_new' (Kd.R_new' (Kd.R_new' ho0 (Kd.R_lt (R_g (Kd.R_mono (Kd.R_far (p := ⟨gb315, 9, none⟩) (Kd.R_far (p := ⟨gb315, 8, none⟩) (Kd.R_far (p := ⟨gb315, 7, none⟩) (Kd.R_far (p := ⟨gb315, 6, none⟩) (Kd.R_far (p := ⟨gb315, 5, none⟩) (Kd.R_far (p := ⟨gb315, 4, none⟩) (Kd.R_far (p := ⟨gb315, 3, none⟩) (Kd.R_far (p := ⟨gb315, 2, none⟩) (Kd.R_far (p := ⟨gb315, 1, none⟩) (Kd.R_far (p := ⟨gb315, 0, none⟩) (Kd.R_types HO298.out BK315.out (by decide)) (fun _ hk => by first | exact hk.2 | exact hk | grind) (.int .i64 t302)) (fun _ hk => by first | exact hk.2 | exact hk | grind) (.int .i64 t303)) (fun _ hk => by first | exact hk.2 | exact hk | grind) (.int .i64 t304)) (fun _ hk => by first | exact hk.2 | exact hk | grind) (.int .i64 t305)) (fun _ hk => by first | exact hk.2 | exact hk | grind) (.int .i64 t306)) (fun _ hk => by first | exact hk.2 | exact hk | grind) (.int .i64 t307)) (fun _ hk => by first | exact hk.2 | exact hk | grind) (.int .i64 t308)) (fun _ hk => by first | exact hk.2 | exact hk | grind) (.bool t309)) (fun _ hk => by first | exact hk.2 | exact hk | grind) (.int .i64 t310)) (fun _ hk => by first | exact hk.2 | exact hk | grind) (.slice Ao28 t311.length co28)) (fun _ h_ => h_.1))))) (Kd.R_lt (R_g (Kd.R_mono (Kd.R_far (p := ⟨gb315, 9, none⟩) (Kd.R_far (p := ⟨gb315, 8, none⟩) (Kd.R_far (p := ⟨gb315, 7, none⟩) (Kd.R_far (p := ⟨gb315, 6, none⟩) (Kd.R_far (p := ⟨gb315, 5, none⟩) (Kd.R_far (p := ⟨gb315, 4, none⟩) (Kd.R_far (p := ⟨gb315, 3, none⟩) (Kd.R_far (p := ⟨gb315, 2, none⟩) (Kd.R_far (p := ⟨gb315, 1, none⟩) (Kd.R_far (p := ⟨gb315, 0, none⟩) (Kd.R_types HO301.out BK315.out (by decide)) (fun _ hk => by first | exact hk.2 | exact hk | grind) (.int .i64 t302)) (fun _ hk => by first | exact hk.2 | exact hk | grind) (.int .i64 t303)) (fun _ hk => by first | exact hk.2 | exact hk | grind) (.int .i64 t304)) (fun _ hk => by first | exact hk.2 | exact hk | grind) (.int .i64 t305)) (fun _ hk => by first | exact hk.2 | exact hk | grind) (.int .i64 t306)) (fun _ hk => by first | exact hk.2 | exact hk | grind) (.int .i64 t307)) (fun _ hk => by first | exact hk.2 | exact hk | grind) (.int .i64 t308)) (fun _ hk => by first | exact hk.2 | exact hk | grind) (.bool t309)) (fun _ hk => by first | exact hk.2 | exact hk | grind) (.int .i64 t310)) (fun _ hk => by first | exact hk.2 | exact hk | grind) (.slice Ao28 t311.length co28)) (fun _ h_ => h_.1))))) (Kd.R_lt (R_g (Kd.R_mono (Kd.R_far (p := ⟨gb315, 9, none⟩) (Kd.R_far (p := ⟨gb315, 8, none⟩) (Kd.R_far (p := ⟨gb315, 7, none⟩) (Kd.R_far (p := ⟨gb315, 6, none⟩) (Kd.R_far (p := ⟨gb315, 5, none⟩) (Kd.R_far (p := ⟨gb315, 4, none⟩) (Kd.R_far (p := ⟨gb315, 3, none⟩) (Kd.R_far (p := ⟨gb315, 2, none⟩) (Kd.R_far (p := ⟨gb315, 1, none⟩) (Kd.R_far (p := ⟨gb315, 0, none⟩) (Kd.R_types HO313.out BK315.out (by decide)) (fun _ hk => by first | exact hk.2 | exact hk | grind) (.int .i64 t302)) (fun _ hk => by first | exact hk.2 | exact hk | grind) (.int .i64 t303)) (fun _ hk => by first | exact hk.2 | exact hk | grind) (.int .i64 t304)) (fun _ hk => by first | exact hk.2 | exact hk | grind) (.int .i64 t305)) (fun _ hk => by first | exact hk.2 | exact hk | grind) (.int .i64 t306)) (fun _ hk => by first | exact hk.2 | exact hk | grind) (.int .i64 t307)) (fun _ hk => by first | exact hk.2 | exact hk | grind) (.int .i64 t308)) (fun _ hk => by first | exact hk.2 | exact hk | grind) (.bool t309)) (fun _ hk => by first | exact hk.2 | exact hk | grind) (.int .i64 t310)) (fun _ hk => by first | exact hk.2 | exact hk | grind) (.slice Ao28 t311.length co28)) (fun _ h_ => h_.1))))) bels); have n4_ := Aside0.mk (blk_below (g := gb293) (o := .cells #[.int .i64 a0_0, .int .i64 a0_1, .int .i64 a0_2, .int .i64 a0_3, .int .i64 a0_4, .int .i64 a0_5, .int .i64 a0_6, .bool a0_7, .int .i64 a0_8, .slice A0_9 l0_9.length c0_9] 28 (0, 0)) (by (with_reducible repeat (first | refine blk_drewN ?_ _ | refine blk_drew ?_ | refine blk_alloc ?_ _)); refine blk_far ?_ NB293_315.out _; (with_reducible repeat (first | refine blk_drewN ?_ _ | refine blk_drew ?_ | refine blk_alloc ?_ _)); refine blk_far ?_ NB293_315.out _; (with_reducible repeat (first | refine blk_drewN ?_ _ | refine blk_drew ?_ | refine blk_alloc ?_ _)); refine blk_far ?_ NB293_315.out _; (with_reducible repeat (first | refine blk_drewN ?_ _ | refine blk_drew ?_ | refine blk_alloc ?_ _)); refine blk_far ?_ NB293_315.out _; (with_reducible repeat (first | refine blk_drewN ?_ _ | refine blk_drew ?_ | refine blk_alloc ?_ _)); refine blk_far ?_ NB293_315.out _; (with_reducible repeat (first | refine blk_drewN ?_ _ | refine blk_drew ?_ | refine blk_alloc ?_ _)); refine blk_far ?_ NB293_315.out _; (with_reducible repeat (first | refine blk_drewN ?_ _ | refine blk_drew ?_ | refine blk_alloc ?_ _)); refine blk_far ?_ NB293_315.out _; (with_reducible repeat (first | refine blk_drewN ?_ _ | refine blk_drew ?_ | refine blk_alloc ?_ _)); refine blk_far ?_ NB293_315.out _; (with_reducible repeat (first | refine blk_drewN ?_ _ | refine blk_drew ?_ | refine blk_alloc ?_ _)); refine blk_far ?_ NB293_315.out _; (with_reducible repeat (first | refine blk_drewN ?_ _ | refine blk_drew ?_ | refine blk_alloc ?_ _)); refine blk_far ?_ NB293_315.out _; (with_reducible repeat (first | refine blk_drewN ?_ _ | refine blk_drew ?_ | refine blk_alloc ?_ _)); exact BK293.out) hb); have n5_ := Aside0.mk (blk_below (g := gb315) (o := .cells #[.int .i64 t302, .int .i64 t303, .int .i64 t304, .int .i64 t305, .int .i64 t306, .int .i64 t307, .int .i64 t308, .bool t309, .int .i64 t310, .slice Ao28 t311.length co28] 28 (0, 0)) (by (with_reducible repeat (first | refine blk_drewN ?_ _ | refine blk_drew ?_ | refine blk_alloc ?_ _)); refine blk_put (cs := #[.int .i64 t302, .int .i64 t303, .int .i64 t304, .int .i64 t305, .int .i64 t306, .int .i64 t307, .int .i64 t308, .bool t309, .int .i64 t310, .slice none 0 0]) ?_ 9 _ rfl; (with_reducible repeat (first | refine blk_drewN ?_ _ | refine blk_drew ?_ | refine blk_alloc ?_ _)); refine blk_put (cs := #[.int .i64 t302, .int .i64 t303, .int .i64 t304, .int .i64 t305, .int .i64 t306, .int .i64 t307, .int .i64 t308, .bool t309, .int .i64 0, .slice none 0 0]) ?_ 8 _ rfl; (with_reducible repeat (first | refine blk_drewN ?_ _ | refine blk_drew ?_ | refine blk_alloc ?_ _)); refine blk_put (cs := #[.int .i64 t302, .int .i64 t303, .int .i64 t304, .int .i64 t305, .int .i64 t306, .int .i64 t307, .int .i64 t308, .bool false, .int .i64 0, .slice none 0 0]) ?_ 7 _ rfl; (with_reducible repeat (first | refine blk_drewN ?_ _ | refine blk_drew ?_ | refine blk_alloc ?_ _)); refine blk_put (cs := #[.int .i64 t302, .int .i64 t303, .int .i64 t304, .int .i64 t305, .int .i64 t306, .int .i64 t307, .int .i64 0, .bool false, .int .i64 0, .slice none 0 0]) ?_ 6 _ rfl; (with_reducible repeat (first | refine blk_drewN ?_ _ | refine blk_drew ?_ | refine blk_alloc ?_ _)); refine blk_put (cs := #[.int .i64 t302, .int .i64 t303, .int .i64 t304, .int .i64 t305, .int .i64 t306, .int .i64 0, .int .i64 0, .bool false, .int .i64 0, .slice none 0 0]) ?_ 5 _ rfl; (with_reducible repeat (first | refine blk_drewN ?_ _ | refine blk_drew ?_ | refine blk_alloc ?_ _)); refine blk_put (cs := #[.int .i64 t302, .int .i64 t303, .int .i64 t304, .int .i64 t305, .int .i64 0, .int .i64 0, .int .i64 0, .bool false, .int .i64 0, .slice none 0 0]) ?_ 4 _ rfl; (with_reducible repeat (first | refine blk_drewN ?_ _ | refine blk_drew ?_ | refine blk_alloc ?_ _)); refine blk_put (cs := #[.int .i64 t302, .int .i64 t303, .int .i64 t304, .int .i64 0, .int .i64 0, .int .i64 0, .int .i64 0, .bool false, .int .i64 0, .slice none 0 0]) ?_ 3 _ rfl; (with_reducible repeat (first | refine blk_drewN ?_ _ | refine blk_drew ?_ | refine blk_alloc ?_ _)); refine blk_put (cs := #[.int .i64 t302, .int .i64 t303, .int .i64 0, .int .i64 0, .int .i64 0, .int .i64 0, .int .i64 0, .bool false, .int .i64 0, .slice none 0 0]) ?_ 2 _ rfl; (with_reducible repeat (first | refine blk_drewN ?_ _ | refine blk_drew ?_ | refine blk_alloc ?_ _)); refine blk_put (cs := #[.int .i64 t302, .int .i64 0, .int .i64 0, .int .i64 0, .int .i64 0, .int .i64 0, .int .i64 0, .bool false, .int .i64 0, .slice none 0 0]) ?_ 1 _ rfl; (with_reducible repeat (first | refine blk_drewN ?_ _ | refine blk_drew ?_ | refine blk_alloc ?_ _)); refine blk_put (cs := #[.int .i64 0, .int .i64 0, .int .i64 0, .int .i64 0, .int .i64 0, .int .i64 0, .int .i64 0, .bool false, .int .i64 0, .slice none 0 0]) ?_ 0 _ rfl; (with_reducible repeat (first | refine blk_drewN ?_ _ | refine blk_drew ?_ | refine blk_alloc ?_ _)); exact BK315.out) hb); have n6_ := Aside0.mk (belt hb); clear HO298; clear HO301; clear HO313; clear BK293; clear BK315; clear HB; have HO298 := n0_; have HO301 := n1_; have HO313 := n2_; have HO327 := n3_; have BK293 := n4_; have BK315 := n5_; have HB := n6_; clear n0_ n1_ n2_ n3_ n4_ n5_ n6_; (try clear hb); (try clear hb2); (try clear hk); (try clear hi); (try clear ho0)) | ((with_reducible refine gate_dst (N := 10) rfl ?_); (try (refine gate_guard (by rfl) ?_; dsimp only)); refine box_event ?hg (N := 10) ?hd (cs := #[.int .i64 0, .int .i64 0, .int .i64 0, .int .i64 0, .int .i64 0, .int .i64 0, .int .i64 0, .bool false, .int .i64 0, .slice none 0 0]) (t := 28) ?hr ?_; (case hd => rfl); (case hg => rfl); (case hr => first | (go_simp; done) | (go_simp; rfl)); intro gb329 hg w30 hbox hb; have n0_ := Aside0.mk (Kd.R_below (by (with_reducible repeat (first | apply Kd.R_alloc | apply Kd.R_drewN | apply Kd.R_drew)); first | exact HO298.out | exact Kd.R_mono HO298.out (fun _ hk => by grind)) hb); have n1_ := Aside0.mk (Kd.R_below (by (with_reducible repeat (first | apply Kd.R_alloc | apply Kd.R_drewN | apply Kd.R_drew)); first | exact HO301.out | exact Kd.R_mono HO301.out (fun _ hk => by grind)) hb); have n2_ := Aside0.mk (Kd.R_below (by (with_reducible repeat (first | apply Kd.R_alloc | apply Kd.R_drewN | apply Kd.R_drew)); first | exact HO313.out | exact Kd.R_mono HO313.out (fun _ hk => by grind)) hb); have n3_ := Aside0.mk (Kd.R_below (by (with_reducible repeat (first | apply Kd.R_alloc | apply Kd.R_drewN | apply Kd.R_drew)); first | exact HO327.out | exact Kd.R_mono HO327.out (fun _ hk => by grind)) hb); have n4_ := Aside0.mk (blk_below (g := gb293) (o := .cells #[.int .i64 a0_0, .int .i64 a0_1, .int .i64 a0_2, .int .i64 a0_3, .int .i64 a0_4, .int .i64 a0_5, .int .i64 a0_6, .bool a0_7, .int .i64 a0_8, .slice A0_9 l0_9.length c0_9] 28 (0, 0)) (blk_g BK293.out) hb); have n5_ := Aside0.mk (blk_below (g := gb315) (o := .cells #[.int .i64 t302, .int .i64 t303, .int .i64 t304, .int .i64 t305, .int .i64 t306, .int .i64 t307, .int .i64 t308, .bool t309, .int .i64 t310, .slice Ao28 t311.length co28] 28 (0, 0)) (blk_g BK315.out) hb); have n6_ := Aside0.mk (belt hb); have n7_ := Aside0.mk (hbox); have n8_ := Aside0.mk ((by rw [hg]; exact bels : w.heap.size ≤ gb329)); have n9_ := Aside0.mk ((by rw [hg]; exact bels : w.heap.size ≤ gb329)); have n10_ := Aside0.mk ((by rw [hg]; exact Nat.ne_of_lt (blk_lt (g := gb293) (o := .cells #[.int .i64 a0_0, .int .i64 a0_1, .int .i64 a0_2, .int .i64 a0_3, .int .i64 a0_4, .int .i64 a0_5, .int .i64 a0_6, .bool a0_7, .int .i64 a0_8, .slice A0_9 l0_9.length c0_9] 28 (0, 0)) (blk_g BK293.out)) : gb293 ≠ gb329)); have n11_ := Aside0.mk ((by rw [hg]; exact Nat.ne_of_gt (blk_lt (g := gb293) (o := .cells #[.int .i64 a0_0, .int .i64 a0_1, .int .i64 a0_2, .int .i64 a0_3, .int .i64 a0_4, .int .i64 a0_5, .int .i64 a0_6, .bool a0_7, .int .i64 a0_8, .slice A0_9 l0_9.length c0_9] 28 (0, 0)) (blk_g BK293.out)) : gb329 ≠ gb293)); have n12_ := Aside0.mk ((by rw [hg]; exact Nat.ne_of_lt (blk_lt (g := gb315) (o := .cells #[.int .i64 t302, .int .i64 t303, .int .i64 t304, .int .i64 t305, .int .i64 t306, .int .i64 t307, .int .i64 t308, .bool t309, .int .i64 t310, .slice Ao28 t311.length co28] 28 (0, 0)) (blk_g BK315.out)) : gb315 ≠ gb329)); have n13_ := Aside0.mk ((by rw [hg]; exact Nat.ne_of_gt (blk_lt (g := gb315) (o := .cells #[.int .i64 t302, .int .i64 t303, .int .i64 t304, .int .i64 t305, .int .i64 t306, .int .i64 t307, .int .i64 t308, .bool t309, .int .i64 t310, .slice Ao28 t311.length co28] 28 (0, 0)) (blk_g BK315.out)) : gb329 ≠ gb315)); clear HO298; clear HO301; clear HO313; clear HO327; clear BK293; clear BK315; clear HB; have HO298 := n0_; have HO301 := n1_; have HO313 := n2_; have HO327 := n3_; have BK293 := n4_; have BK315 := n5_; have HB := n6_; have BK329 := n7_; have GW329 := n8_; have GE329 := n9_; have NB293_329 := n10_; have NB329_293 := n11_; have NB315_329 := n12_; have NB329_315 := n13_; clear n0_ n1_ n2_ n3_ n4_ n5_ n6_ n7_ n8_ n9_ n10_ n11_ n12_ n13_; clear hb hbox hg; have hnb31 := NB329_293.out; have hnc31 := NB293_329.out; have hnb32 := NB329_315.out; have hnc32 := NB315_329.out; have hcz33_0 : w30.cell? ⟨gb329, 0, none⟩ = some (.int .i64 0) := (blk_cell BK329.out 0).trans rfl; have hcz33_1 : w30.cell? ⟨gb329, 1, none⟩ = some (.int .i64 0) := (blk_cell BK329.out 1).trans rfl; have hcz33_2 : w30.cell? ⟨gb329, 2, none⟩ = some (.int .i64 0) := (blk_cell BK329.out 2).trans rfl; have hcz33_3 : w30.cell? ⟨gb329, 3, none⟩ = some (.int .i64 0) := (blk_cell BK329.out 3).trans rfl; have hcz33_4 : w30.cell? ⟨gb329, 4, none⟩ = some (.int .i64 0) := (blk_cell BK329.out 4).trans rfl; have hcz33_5 : w30.cell? ⟨gb329, 5, none⟩ = some (.int .i64 0) := (blk_cell BK329.out 5).trans rfl; have hcz33_6 : w30.cell? ⟨gb329, 6, none⟩ = some (.int .i64 0) := (blk_cell BK329.out 6).trans rfl; have hcz33_7 : w30.cell? ⟨gb329, 7, none⟩ = some (.bool false) := (blk_cell BK329.out 7).trans rfl; have hcz33_8 : w30.cell? ⟨gb329, 8, none⟩ = some (.int .i64 0) := (blk_cell BK329.out 8).trans rfl; have hcz33_9 : w30.cell? ⟨gb329, 9, none⟩ = some (.slice none 0 0) := (blk_cell BK329.out 9).trans rfl; have hfz33_0 := blk_frozen BK329.out 0; have hfz33_1 := blk_frozen BK329.out 1; have hfz33_2 := blk_frozen BK329.out 2; have hfz33_3 := blk_frozen BK329.out 3; have hfz33_4 := blk_frozen BK329.out 4; have hfz33_5 := blk_frozen BK329.out 5; have hfz33_6 := blk_frozen BK329.out 6; have hfz33_7 := blk_frozen BK329.out 7; have hfz33_8 := blk_frozen BK329.out 8; have hfz33_9 := blk_frozen BK329.out 9; obtain ⟨Ao34, co34, eo34⟩ := Kd.R_slice HO327.out; subst eo34))
     (try simp only [Act.put, List.setIfInBounds_toArray, List.set_cons_zero, List.set_cons_succ])
     go_cut [67] (fun v67 wc => ∃ (kq : Nat) (x67_16 : Bool), v67 = .bool x67_16 ∧ Aside0 (fountainlaw14_RecordTells.j1 kq t295 t296 x67_16 a0_0 a0_1 a0_2 a0_3 a0_4 a0_5 a0_6 a0_7 a0_8 l0_9 = some r) ∧ Aside0 (kq ≤ kj3) ∧ Aside0 (Kd.R (Kd.int .u8) 5 wc w.heap.size (fun k_ => some k_ ≠ ((.slice Ao28 t311.length co28) : Value).ownBlock ∧ some k_ ≠ ((.slice Ao34 t325.length co34) : Value).ownBlock) v297 t296) ∧ Aside0 (Kd.R (Kd.int .u8) 5 wc w.heap.size (fun k_ => some k_ ≠ (v297 : Value).ownBlock ∧ some k_ ≠ ((.slice Ao34 t325.length co34) : Value).ownBlock) (.slice Ao28 t311.length co28) t311) ∧ Aside0 (Kd.R (Kd.int .u8) 5 wc w.heap.size (fun k_ => some k_ ≠ (v297 : Value).ownBlock ∧ some k_ ≠ ((.slice Ao28 t311.length co28) : Value).ownBlock) (.slice Ao34 t325.length co34) t325) ∧ Aside0 (wc.heap[gb293]? = some (.cells #[.int .i64 a0_0, .int .i64 a0_1, .int .i64 a0_2, .int .i64 a0_3, .int .i64 a0_4, .int .i64 a0_5, .int .i64 a0_6, .bool a0_7, .int .i64 a0_8, (.slice A0_9 l0_9.length c0_9)] 28 (0, 0))) ∧ Aside0 (wc.heap[gb315]? = some (.cells #[.int .i64 t302, .int .i64 t303, .int .i64 t304, .int .i64 t305, .int .i64 t306, .int .i64 t307, .int .i64 t308, .bool t309, .int .i64 t310, (.slice Ao28 t311.length co28)] 28 (0, 0))) ∧ Aside0 (wc.heap[gb329]? = some (.cells #[.int .i64 t316, .int .i64 t317, .int .i64 t318, .int .i64 t319, .int .i64 t320, .int .i64 t321, .int .i64 t322, .bool t323, .int .i64 t324, (.slice Ao34 t325.length co34)] 28 (0, 0))) ∧ Aside0 (Below w.heap.size w wc))
     case first =>
      have H := HC17.out
      clear HC17
      replace H := Option.bind_eq_some_iff.mp H
      obtain ⟨t330, A350, H⟩ := H
      replace H : (if (t330 != t295) = true then (fountainlaw14_RecordTells.j1 kj3 t295 t296 true a0_0 a0_1 a0_2 a0_3 a0_4 a0_5 a0_6 a0_7 a0_8 l0_9) else ((fountainref14_RecordBytes.f kj3 a0_0 a0_1 a0_2 a0_3 a0_4 a0_5 a0_6 a0_7 a0_8 l0_9).bind fun t331 => (if (strOfNums t296).toList = (strOfNums t331).toList then ((fountainref14_SameRecord.f t302 t303 t304 t305 t306 t307 t308 t309 t310 t311 t316 t317 t318 t319 t320 t321 t322 t323 t324 t325).bind fun t334 => (if t334 = true then ((fountainlaw14_num.f t314).bind fun t335 => (fountainlaw14_RecordTells.j1 kj3 t295 t296 (t335 != t328) a0_0 a0_1 a0_2 a0_3 a0_4 a0_5 a0_6 a0_7 a0_8 l0_9)) else (fountainlaw14_RecordTells.j1 kj3 t295 t296 true a0_0 a0_1 a0_2 a0_3 a0_4 a0_5 a0_6 a0_7 a0_8 l0_9))) else (fountainlaw14_RecordTells.j1 kj3 t295 t296 true a0_0 a0_1 a0_2 a0_3 a0_4 a0_5 a0_6 a0_7 a0_8 l0_9)))) = some r := H
      have A35 := Aside0.mk A350
      clear A350
      by_cases c36 : (t330 != t295) = true
      ·rw [if_pos c36] at H
       have c36b0 : (t330 != t295) = true := c36
       (try (have c36b1 : decide (t330 = t295) = false := by simpa using c36))
       (try (have c36b2 : (t330 == t295) = false := by simpa using c36))
       (try (have c36b3 : ¬ (t330 = t295) := by simpa using c36))
       clear c36
       (first | rw [c36b0] | (simp only [i64_w, i32_w]; rw [c36b0]) | rw [c36b1] | skip)
       have H' := Aside0.mk H
       clear H
       try go_wp2
       have n0_ : Aside0 (Kd.R (Kd.int .u8) 5 ((((((((((w30.setCell ⟨gb329, 0, none⟩ (.int .i64 t316)).setCell ⟨gb329, 1, none⟩ (.int .i64 t317)).setCell ⟨gb329, 2, none⟩ (.int .i64 t318)).setCell ⟨gb329, 3, none⟩ (.int .i64 t319)).setCell ⟨gb329, 4, none⟩ (.int .i64 t320)).setCell ⟨gb329, 5, none⟩ (.int .i64 t321)).setCell ⟨gb329, 6, none⟩ (.int .i64 t322)).setCell ⟨gb329, 7, none⟩ (.bool t323)).setCell ⟨gb329, 8, none⟩ (.int .i64 t324)).setCell ⟨gb329, 9, none⟩ (.slice Ao34 t325.length co34)) w.heap.size (fun k_ => some k_ ≠ (.slice Ao23 y299.length co23 : Value).ownBlock ∧ some k_ ≠ (.slice Ao28 t311.length co28 : Value).ownBlock ∧ some k_ ≠ (.slice Ao34 t325.length co34 : Value).ownBlock) v297 t296) := ⟨by (with_reducible repeat (first | apply Kd.R_alloc | apply Kd.R_drewN | apply Kd.R_drew)); exact Kd.R_mono (Kd.R_far (p := ⟨gb329, 9, none⟩) (Kd.R_far (p := ⟨gb329, 8, none⟩) (Kd.R_far (p := ⟨gb329, 7, none⟩) (Kd.R_far (p := ⟨gb329, 6, none⟩) (Kd.R_far (p := ⟨gb329, 5, none⟩) (Kd.R_far (p := ⟨gb329, 4, none⟩) (Kd.R_far (p := ⟨gb329, 3, none⟩) (Kd.R_far (p := ⟨gb329, 2, none⟩) (Kd.R_far (p := ⟨gb329, 1, none⟩) (Kd.R_far (p := ⟨gb329, 0, none⟩) (Kd.R_types HO298.out BK329.out (by decide)) (fun _ hk => by first | exact hk.2 | exact hk | grind) (.int .i64 t316)) (fun _ hk => by first | exact hk.2 | exact hk | grind) (.int .i64 t317)) (fun _ hk => by first | exact hk.2 | exact hk | grind) (.int .i64 t318)) (fun _ hk => by first | exact hk.2 | exact hk | grind) (.int .i64 t319)) (fun _ hk => by first | exact hk.2 | exact hk | grind) (.int .i64 t320)) (fun _ hk => by first | exact hk.2 | exact hk | grind) (.int .i64 t321)) (fun _ hk => by first | exact hk.2 | exact hk | grind) (.int .i64 t322)) (fun _ hk => by first | exact hk.2 | exact hk | grind) (.bool t323)) (fun _ hk => by first | exact hk.2 | exact hk | grind) (.int .i64 t324)) (fun _ hk => by first | exact hk.2 | exact hk | grind) (.slice Ao34 t325.length co34)) (fun _ hk => by first | exact ⟨hk.1.1.1.2, ⟨hk.1.1.2, hk.1.2⟩⟩ | exact hk | grind)⟩
       have n1_ : Aside0 (Kd.R (Kd.int .u8) 5 ((((((((((w30.setCell ⟨gb329, 0, none⟩ (.int .i64 t316)).setCell ⟨gb329, 1, none⟩ (.int .i64 t317)).setCell ⟨gb329, 2, none⟩ (.int .i64 t318)).setCell ⟨gb329, 3, none⟩ (.int .i64 t319)).setCell ⟨gb329, 4, none⟩ (.int .i64 t320)).setCell ⟨gb329, 5, none⟩ (.int .i64 t321)).setCell ⟨gb329, 6, none⟩ (.int .i64 t322)).setCell ⟨gb329, 7, none⟩ (.bool t323)).setCell ⟨gb329, 8, none⟩ (.int .i64 t324)).setCell ⟨gb329, 9, none⟩ (.slice Ao34 t325.length co34)) w.heap.size (fun k_ => some k_ ≠ (v297 : Value).ownBlock ∧ some k_ ≠ (.slice Ao28 t311.length co28 : Value).ownBlock ∧ some k_ ≠ (.slice Ao34 t325.length co34 : Value).ownBlock) (.slice Ao23 y299.length co23) y299) := ⟨by (with_reducible repeat (first | apply Kd.R_alloc | apply Kd.R_drewN | apply Kd.R_drew)); exact Kd.R_mono (Kd.R_far (p := ⟨gb329, 9, none⟩) (Kd.R_far (p := ⟨gb329, 8, none⟩) (Kd.R_far (p := ⟨gb329, 7, none⟩) (Kd.R_far (p := ⟨gb329, 6, none⟩) (Kd.R_far (p := ⟨gb329, 5, none⟩) (Kd.R_far (p := ⟨gb329, 4, none⟩) (Kd.R_far (p := ⟨gb329, 3, none⟩) (Kd.R_far (p := ⟨gb329, 2, none⟩) (Kd.R_far (p := ⟨gb329, 1, none⟩) (Kd.R_far (p := ⟨gb329, 0, none⟩) (Kd.R_types HO301.out BK329.out (by decide)) (fun _ hk => by first | exact hk.2 | exact hk | grind) (.int .i64 t316)) (fun _ hk => by first | exact hk.2 | exact hk | grind) (.int .i64 t317)) (fun _ hk => by first | exact hk.2 | exact hk | grind) (.int .i64 t318)) (fun _ hk => by first | exact hk.2 | exact hk | grind) (.int .i64 t319)) (fun _ hk => by first | exact hk.2 | exact hk | grind) (.int .i64 t320)) (fun _ hk => by first | exact hk.2 | exact hk | grind) (.int .i64 t321)) (fun _ hk => by first | exact hk.2 | exact hk | grind) (.int .i64 t322)) (fun _ hk => by first | exact hk.2 | exact hk | grind) (.bool t323)) (fun _ hk => by first | exact hk.2 | exact hk | grind) (.int .i64 t324)) (fun _ hk => by first | exact hk.2 | exact hk | grind) (.slice Ao34 t325.length co34)) (fun _ hk => by first | exact ⟨hk.1.1.1, ⟨hk.1.1.2, hk.1.2⟩⟩ | exact hk | grind)⟩
       have n2_ : Aside0 (Kd.R (Kd.int .u8) 5 ((((((((((w30.setCell ⟨gb329, 0, none⟩ (.int .i64 t316)).setCell ⟨gb329, 1, none⟩ (.int .i64 t317)).setCell ⟨gb329, 2, none⟩ (.int .i64 t318)).setCell ⟨gb329, 3, none⟩ (.int .i64 t319)).setCell ⟨gb329, 4, none⟩ (.int .i64 t320)).setCell ⟨gb329, 5, none⟩ (.int .i64 t321)).setCell ⟨gb329, 6, none⟩ (.int .i64 t322)).setCell ⟨gb329, 7, none⟩ (.bool t323)).setCell ⟨gb329, 8, none⟩ (.int .i64 t324)).setCell ⟨gb329, 9, none⟩ (.slice Ao34 t325.length co34)) w.heap.size (fun k_ => some k_ ≠ (v297 : Value).ownBlock ∧ some k_ ≠ (.slice Ao23 y299.length co23 : Value).ownBlock ∧ some k_ ≠ (.slice Ao34 t325.length co34 : Value).ownBlock) (.slice Ao28 t311.length co28) t311) := ⟨by (with_reducible repeat (first | apply Kd.R_alloc | apply Kd.R_drewN | apply Kd.R_drew)); exact Kd.R_mono (Kd.R_far (p := ⟨gb329, 9, none⟩) (Kd.R_far (p := ⟨gb329, 8, none⟩) (Kd.R_far (p := ⟨gb329, 7, none⟩) (Kd.R_far (p := ⟨gb329, 6, none⟩) (Kd.R_far (p := ⟨gb329, 5, none⟩) (Kd.R_far (p := ⟨gb329, 4, none⟩) (Kd.R_far (p := ⟨gb329, 3, none⟩) (Kd.R_far (p := ⟨gb329, 2, none⟩) (Kd.R_far (p := ⟨gb329, 1, none⟩) (Kd.R_far (p := ⟨gb329, 0, none⟩) (Kd.R_types HO313.out BK329.out (by decide)) (fun _ hk => by first | exact hk.2 | exact hk | grind) (.int .i64 t316)) (fun _ hk => by first | exact hk.2 | exact hk | grind) (.int .i64 t317)) (fun _ hk => by first | exact hk.2 | exact hk | grind) (.int .i64 t318)) (fun _ hk => by first | exact hk.2 | exact hk | grind) (.int .i64 t319)) (fun _ hk => by first | exact hk.2 | exact hk | grind) (.int .i64 t320)) (fun _ hk => by first | exact hk.2 | exact hk | grind) (.int .i64 t321)) (fun _ hk => by first | exact hk.2 | exact hk | grind) (.int .i64 t322)) (fun _ hk => by first | exact hk.2 | exact hk | grind) (.bool t323)) (fun _ hk => by first | exact hk.2 | exact hk | grind) (.int .i64 t324)) (fun _ hk => by first | exact hk.2 | exact hk | grind) (.slice Ao34 t325.length co34)) (fun _ hk => by first | exact ⟨hk.1.1.1.2, ⟨hk.1.1.2, hk.1.2⟩⟩ | exact hk | grind)⟩
       have n3_ : Aside0 (Kd.R (Kd.int .u8) 5 ((((((((((w30.setCell ⟨gb329, 0, none⟩ (.int .i64 t316)).setCell ⟨gb329, 1, none⟩ (.int .i64 t317)).setCell ⟨gb329, 2, none⟩ (.int .i64 t318)).setCell ⟨gb329, 3, none⟩ (.int .i64 t319)).setCell ⟨gb329, 4, none⟩ (.int .i64 t320)).setCell ⟨gb329, 5, none⟩ (.int .i64 t321)).setCell ⟨gb329, 6, none⟩ (.int .i64 t322)).setCell ⟨gb329, 7, none⟩ (.bool t323)).setCell ⟨gb329, 8, none⟩ (.int .i64 t324)).setCell ⟨gb329, 9, none⟩ (.slice Ao34 t325.length co34)) w.heap.size (fun k_ => some k_ ≠ (v297 : Value).ownBlock ∧ some k_ ≠ (.slice Ao23 y299.length co23 : Value).ownBlock ∧ some k_ ≠ (.slice Ao28 t311.length co28 : Value).ownBlock) (.slice Ao34 t325.length co34) t325) := ⟨by (with_reducible repeat (first | apply Kd.R_alloc | apply Kd.R_drewN | apply Kd.R_drew)); exact Kd.R_mono (Kd.R_far (p := ⟨gb329, 9, none⟩) (Kd.R_far (p := ⟨gb329, 8, none⟩) (Kd.R_far (p := ⟨gb329, 7, none⟩) (Kd.R_far (p := ⟨gb329, 6, none⟩) (Kd.R_far (p := ⟨gb329, 5, none⟩) (Kd.R_far (p := ⟨gb329, 4, none⟩) (Kd.R_far (p := ⟨gb329, 3, none⟩) (Kd.R_far (p := ⟨gb329, 2, none⟩) (Kd.R_far (p := ⟨gb329, 1, none⟩) (Kd.R_far (p := ⟨gb329, 0, none⟩) (Kd.R_types HO327.out BK329.out (by decide)) (fun _ hk => by first | exact hk.2 | exact hk | grind) (.int .i64 t316)) (fun _ hk => by first | exact hk.2 | exact hk | grind) (.int .i64 t317)) (fun _ hk => by first | exact hk.2 | exact hk | grind) (.int .i64 t318)) (fun _ hk => by first | exact hk.2 | exact hk | grind) (.int .i64 t319)) (fun _ hk => by first | exact hk.2 | exact hk | grind) (.int .i64 t320)) (fun _ hk => by first | exact hk.2 | exact hk | grind) (.int .i64 t321)) (fun _ hk => by first | exact hk.2 | exact hk | grind) (.int .i64 t322)) (fun _ hk => by first | exact hk.2 | exact hk | grind) (.bool t323)) (fun _ hk => by first | exact hk.2 | exact hk | grind) (.int .i64 t324)) (fun _ hk => by first | exact hk.2 | exact hk | grind) (.slice Ao34 t325.length co34)) (fun _ hk => by first | exact ⟨hk.1.1.1.2, ⟨hk.1.1.2, hk.1.2⟩⟩ | exact hk | grind)⟩
       have n4_ : Aside0 (((((((((((w30.setCell ⟨gb329, 0, none⟩ (.int .i64 t316)).setCell ⟨gb329, 1, none⟩ (.int .i64 t317)).setCell ⟨gb329, 2, none⟩ (.int .i64 t318)).setCell ⟨gb329, 3, none⟩ (.int .i64 t319)).setCell ⟨gb329, 4, none⟩ (.int .i64 t320)).setCell ⟨gb329, 5, none⟩ (.int .i64 t321)).setCell ⟨gb329, 6, none⟩ (.int .i64 t322)).setCell ⟨gb329, 7, none⟩ (.bool t323)).setCell ⟨gb329, 8, none⟩ (.int .i64 t324)).setCell ⟨gb329, 9, none⟩ (.slice Ao34 t325.length co34)).heap[gb293]? = some (.cells #[.int .i64 a0_0, .int .i64 a0_1, .int .i64 a0_2, .int .i64 a0_3, .int .i64 a0_4, .int .i64 a0_5, .int .i64 a0_6, .bool a0_7, .int .i64 a0_8, .slice A0_9 l0_9.length c0_9] 28 (0, 0))) := ⟨by (with_reducible repeat (first | refine blk_drewN ?_ _ | refine blk_drew ?_ | refine blk_alloc ?_ _)); refine blk_far ?_ NB293_329.out _; (with_reducible repeat (first | refine blk_drewN ?_ _ | refine blk_drew ?_ | refine blk_alloc ?_ _)); refine blk_far ?_ NB293_329.out _; (with_reducible repeat (first | refine blk_drewN ?_ _ | refine blk_drew ?_ | refine blk_alloc ?_ _)); refine blk_far ?_ NB293_329.out _; (with_reducible repeat (first | refine blk_drewN ?_ _ | refine blk_drew ?_ | refine blk_alloc ?_ _)); refine blk_far ?_ NB293_329.out _; (with_reducible repeat (first | refine blk_drewN ?_ _ | refine blk_drew ?_ | refine blk_alloc ?_ _)); refine blk_far ?_ NB293_329.out _; (with_reducible repeat (first | refine blk_drewN ?_ _ | refine blk_drew ?_ | refine blk_alloc ?_ _)); refine blk_far ?_ NB293_329.out _; (with_reducible repeat (first | refine blk_drewN ?_ _ | refine blk_drew ?_ | refine blk_alloc ?_ _)); refine blk_far ?_ NB293_329.out _; (with_reducible repeat (first | refine blk_drewN ?_ _ | refine blk_drew ?_ | refine blk_alloc ?_ _)); refine blk_far ?_ NB293_329.out _; (with_reducible repeat (first | refine blk_drewN ?_ _ | refine blk_drew ?_ | refine blk_alloc ?_ _)); refine blk_far ?_ NB293_329.out _; (with_reducible repeat (first | refine blk_drewN ?_ _ | refine blk_drew ?_ | refine blk_alloc ?_ _)); refine blk_far ?_ NB293_329.out _; (with_reducible repeat (first | refine blk_drewN ?_ _ | refine blk_drew ?_ | refine blk_alloc ?_ _)); exact BK293.out⟩
       have n5_ : Aside0 (((((((((((w30.setCell ⟨gb329, 0, none⟩ (.int .i64 t316)).setCell ⟨gb329, 1, none⟩ (.int .i64 t317)).setCell ⟨gb329, 2, none⟩ (.int .i64 t318)).setCell ⟨gb329, 3, none⟩ (.int .i64 t319)).setCell ⟨gb329, 4, none⟩ (.int .i64 t320)).setCell ⟨gb329, 5, none⟩ (.int .i64 t321)).setCell ⟨gb329, 6, none⟩ (.int .i64 t322)).setCell ⟨gb329, 7, none⟩ (.bool t323)).setCell ⟨gb329, 8, none⟩ (.int .i64 t324)).setCell ⟨gb329, 9, none⟩ (.slice Ao34 t325.length co34)).heap[gb315]? = some (.cells #[.int .i64 t302, .int .i64 t303, .int .i64 t304, .int .i64 t305, .int .i64 t306, .int .i64 t307, .int .i64 t308, .bool t309, .int .i64 t310, .slice Ao28 t311.length co28] 28 (0, 0))) := ⟨by (with_reducible repeat (first | refine blk_drewN ?_ _ | refine blk_drew ?_ | refine blk_alloc ?_ _)); refine blk_far ?_ NB315_329.out _; (with_reducible repeat (first | refine blk_drewN ?_ _ | refine blk_drew ?_ | refine blk_alloc ?_ _)); refine blk_far ?_ NB315_329.out _; (with_reducible repeat (first | refine blk_drewN ?_ _ | refine blk_drew ?_ | refine blk_alloc ?_ _)); refine blk_far ?_ NB315_329.out _; (with_reducible repeat (first | refine blk_drewN ?_ _ | refine blk_drew ?_ | refine blk_alloc ?_ _)); refine blk_far ?_ NB315_329.out _; (with_reducible repeat (first | refine blk_drewN ?_ _ | refine blk_drew ?_ | refine blk_alloc ?_ _)); refine blk_far ?_ NB315_329.out _; (with_reducible repeat (first | refine blk_drewN ?_ _ | refine blk_drew ?_ | refine blk_alloc ?_ _)); refine blk_far ?_ NB315_329.out _; (with_reducible repeat (first | refine blk_drewN ?_ _ | refine blk_drew ?_ | refine blk_alloc ?_ _)); refine blk_far ?_ NB315_329.out _; (with_reducible repeat (first | refine blk_drewN ?_ _ | refine blk_drew ?_ | refine blk_alloc ?_ _)); refine blk_far ?_ NB315_329.out _; (with_reducible repeat (first | refine blk_drewN ?_ _ | refine blk_drew ?_ | refine blk_alloc ?_ _)); refine blk_far ?_ NB315_329.out _; (with_reducible repeat (first | refine blk_drewN ?_ _ | refine blk_drew ?_ | refine blk_alloc ?_ _)); refine blk_far ?_ NB315_329.out _; (with_reducible repeat (first | refine blk_drewN ?_ _ | refine blk_drew ?_ | refine blk_alloc ?_ _)); exact BK315.out⟩
       have n6_ : Aside0 (((((((((((w30.setCell ⟨gb329, 0, none⟩ (.int .i64 t316)).setCell ⟨gb329, 1, none⟩ (.int .i64 t317)).setCell ⟨gb329, 2, none⟩ (.int .i64 t318)).setCell ⟨gb329, 3, none⟩ (.int .i64 t319)).setCell ⟨gb329, 4, none⟩ (.int .i64 t320)).setCell ⟨gb329, 5, none⟩ (.int .i64 t321)).setCell ⟨gb329, 6, none⟩ (.int .i64 t322)).setCell ⟨gb329, 7, none⟩ (.bool t323)).setCell ⟨gb329, 8, none⟩ (.int .i64 t324)).setCell ⟨gb329, 9, none⟩ (.slice Ao34 t325.length co34)).heap[gb329]? = some (.cells #[.int .i64 t316, .int .i64 t317, .int .i64 t318, .int .i64 t319, .int .i64 t320, .int .i64 t321, .int .i64 t322, .bool t323, .int .i64 t324, .slice Ao34 t325.length co34] 28 (0, 0))) := ⟨by (with_reducible repeat (first | refine blk_drewN ?_ _ | refine blk_drew ?_ | refine blk_alloc ?_ _)); refine blk_put (cs := #[.int .i64 t316, .int .i64 t317, .int .i64 t318, .int .i64 t319, .int .i64 t320, .int .i64 t321, .int .i64 t322, .bool t323, .int .i64 t324, .slice none 0 0]) ?_ 9 _ rfl; (with_reducible repeat (first | refine blk_drewN ?_ _ | refine blk_drew ?_ | refine blk_alloc ?_ _)); refine blk_put (cs := #[.int .i64 t316, .int .i64 t317, .int .i64 t318, .int .i64 t319, .int .i64 t320, .int .i64 t321, .int .i64 t322, .bool t323, .int .i64 0, .slice none 0 0]) ?_ 8 _ rfl; (with_reducible repeat (first | refine blk_drewN ?_ _ | refine blk_drew ?_ | refine blk_alloc ?_ _)); refine blk_put (cs := #[.int .i64 t316, .int .i64 t317, .int .i64 t318, .int .i64 t319, .int .i64 t320, .int .i64 t321, .int .i64 t322, .bool false, .int .i64 0, .slice none 0 0]) ?_ 7 _ rfl; (with_reducible repeat (first | refine blk_drewN ?_ _ | refine blk_drew ?_ | refine blk_alloc ?_ _)); refine blk_put (cs := #[.int .i64 t316, .int .i64 t317, .int .i64 t318, .int .i64 t319, .int .i64 t320, .int .i64 t321, .int .i64 0, .bool false, .int .i64 0, .slice none 0 0]) ?_ 6 _ rfl; (with_reducible repeat (first | refine blk_drewN ?_ _ | refine blk_drew ?_ | refine blk_alloc ?_ _)); refine blk_put (cs := #[.int .i64 t316, .int .i64 t317, .int .i64 t318, .int .i64 t319, .int .i64 t320, .int .i64 0, .int .i64 0, .bool false, .int .i64 0, .slice none 0 0]) ?_ 5 _ rfl; (with_reducible repeat (first | refine blk_drewN ?_ _ | refine blk_drew ?_ | refine blk_alloc ?_ _)); refine blk_put (cs := #[.int .i64 t316, .int .i64 t317, .int .i64 t318, .int .i64 t319, .int .i64 0, .int .i64 0, .int .i64 0, .bool false, .int .i64 0, .slice none 0 0]) ?_ 4 _ rfl; (with_reducible repeat (first | refine blk_drewN ?_ _ | refine blk_drew ?_ | refine blk_alloc ?_ _)); refine blk_put (cs := #[.int .i64 t316, .int .i64 t317, .int .i64 t318, .int .i64 0, .int .i64 0, .int .i64 0, .int .i64 0, .bool false, .int .i64 0, .slice none 0 0]) ?_ 3 _ rfl; (with_reducible repeat (first | refine blk_drewN ?_ _ | refine blk_drew ?_ | refine blk_alloc ?_ _)); refine blk_put (cs := #[.int .i64 t316, .int .i64 t317, .int .i64 0, .int .i64 0, .int .i64 0, .int .i64 0, .int .i64 0, .bool false, .int .i64 0, .slice none 0 0]) ?_ 2 _ rfl; (with_reducible repeat (first | refine blk_drewN ?_ _ | refine blk_drew ?_ | refine blk_alloc ?_ _)); refine blk_put (cs := #[.int .i64 t316, .int .i64 0, .int .i64 0, .int .i64 0, .int .i64 0, .int .i64 0, .int .i64 0, .bool false, .int .i64 0, .slice none 0 0]) ?_ 1 _ rfl; (with_reducible repeat (first | refine blk_drewN ?_ _ | refine blk_drew ?_ | refine blk_alloc ?_ _)); refine blk_put (cs := #[.int .i64 0, .int .i64 0, .int .i64 0, .int .i64 0, .int .i64 0, .int .i64 0, .int .i64 0, .bool false, .int .i64 0, .slice none 0 0]) ?_ 0 _ rfl; (with_reducible repeat (first | refine blk_drewN ?_ _ | refine blk_drew ?_ | refine blk_alloc ?_ _)); exact BK329.out⟩
       have n7_ : Aside0 (Below w.heap.size w ((((((((((w30.setCell ⟨gb329, 0, none⟩ (.int .i64 t316)).setCell ⟨gb329, 1, none⟩ (.int .i64 t317)).setCell ⟨gb329, 2, none⟩ (.int .i64 t318)).setCell ⟨gb329, 3, none⟩ (.int .i64 t319)).setCell ⟨gb329, 4, none⟩ (.int .i64 t320)).setCell ⟨gb329, 5, none⟩ (.int .i64 t321)).setCell ⟨gb329, 6, none⟩ (.int .i64 t322)).setCell ⟨gb329, 7, none⟩ (.bool t323)).setCell ⟨gb329, 8, none⟩ (.int .i64 t324)).setCell ⟨gb329, 9, none⟩ (.slice Ao34 t325.length co34))) := ⟨bel⟩
       (try clear HO298)
       (try clear HO301)
       (try clear HO313)
       (try clear HO327)
       (try clear BK293)
       (try clear BK315)
       (try clear BK329)
       (try clear HB)
       generalize ((((((((((w30.setCell ⟨gb329, 0, none⟩ (.int .i64 t316)).setCell ⟨gb329, 1, none⟩ (.int .i64 t317)).setCell ⟨gb329, 2, none⟩ (.int .i64 t318)).setCell ⟨gb329, 3, none⟩ (.int .i64 t319)).setCell ⟨gb329, 4, none⟩ (.int .i64 t320)).setCell ⟨gb329, 5, none⟩ (.int .i64 t321)).setCell ⟨gb329, 6, none⟩ (.int .i64 t322)).setCell ⟨gb329, 7, none⟩ (.bool t323)).setCell ⟨gb329, 8, none⟩ (.int .i64 t324)).setCell ⟨gb329, 9, none⟩ (.slice Ao34 t325.length co34)) = w37 at n0_ n1_ n2_ n3_ n4_ n5_ n6_ n7_ ⊢
       have HO298 := n0_
       have HO301 := n1_
       have HO313 := n2_
       have HO327 := n3_
       have BK293 := n4_
       have BK315 := n5_
       have BK329 := n6_
       have HB := n7_
       clear n0_ n1_ n2_ n3_ n4_ n5_ n6_ n7_
       have n0_ := Aside0.mk (Kd.R_drew HO298.out)
       have n1_ := Aside0.mk (Kd.R_drew HO301.out)
       have n2_ := Aside0.mk (Kd.R_drew HO313.out)
       have n3_ := Aside0.mk (Kd.R_drew HO327.out)
       have n4_ := Aside0.mk (blk_drew BK293.out)
       have n5_ := Aside0.mk (blk_drew BK315.out)
       have n6_ := Aside0.mk (blk_drew BK329.out)
       have n7_ := Aside0.mk (below_drew1 HB.out)
       clear HO298
       clear HO301
       clear HO313
       clear HO327
       clear BK293
       clear BK315
       clear BK329
       clear HB
       have HO298 := n0_
       have HO301 := n1_
       have HO313 := n2_
       have HO327 := n3_
       have BK293 := n4_
       have BK315 := n5_
       have BK329 := n6_
       have HB := n7_
       clear n0_ n1_ n2_ n3_ n4_ n5_ n6_ n7_
       refine start_ (n := 24) (S := fun w' => w'.cell? ⟨gb293, 0, none⟩ = some (.int .i64 a0_0) ∧ w'.cell? ⟨gb293, 1, none⟩ = some (.int .i64 a0_1) ∧ w'.cell? ⟨gb293, 2, none⟩ = some (.int .i64 a0_2) ∧ w'.cell? ⟨gb293, 3, none⟩ = some (.int .i64 a0_3) ∧ w'.cell? ⟨gb293, 4, none⟩ = some (.int .i64 a0_4) ∧ w'.cell? ⟨gb293, 5, none⟩ = some (.int .i64 a0_5) ∧ w'.cell? ⟨gb293, 6, none⟩ = some (.int .i64 a0_6) ∧ w'.cell? ⟨gb293, 7, none⟩ = some (.bool a0_7) ∧ w'.cell? ⟨gb293, 8, none⟩ = some (.int .i64 a0_8) ∧ w'.cell? ⟨gb293, 9, none⟩ = some (.slice A0_9 l0_9.length c0_9)) (ds := []) (ms 24 0) (by kernel_rfl) rfl rfl ⟨(blk_cell BK293.out 0).trans rfl, (blk_cell BK293.out 1).trans rfl, (blk_cell BK293.out 2).trans rfl, (blk_cell BK293.out 3).trans rfl, (blk_cell BK293.out 4).trans rfl, (blk_cell BK293.out 5).trans rfl, (blk_cell BK293.out 6).trans rfl, (blk_cell BK293.out 7).trans rfl, (blk_cell BK293.out 8).trans rfl, (blk_cell BK293.out 9).trans rfl⟩ (fun hHeld => ?_); refine with_tabW fountainlaw14_RecordTells.tab8 fountainlaw14_RecordTells.bits8 (fun HT_ HW_ => ?_)
       generalize w37.drew = w38 at HO298 HO301 HO313 HO327 BK293 BK315 BK329 HB hHeld ⊢
       refine run_ [(2, false, some 46), (0, true, some 44)] (n := 2) (ms 24 5) rfl HT_.out HW_.out (by kernel_rfl) (fun _ _ _ _ h => h) hHeld ?_
       repeat (first | (refine Run.p (v := ?_) (a' := ?_) rfl rfl (Or.inl ⟨by rfl, ?_⟩) ?_ ?_; rotate_left; (focus intro w'; go_simp; with_reducible rfl); rotate_left; (focus simp only [Act.put, List.setIfInBounds_toArray, List.set_cons_zero, List.set_cons_succ, i64_w, i32_w]; rfl)) | (refine Run.t (v := ?_) (a' := ?_) rfl rfl (Or.inl ⟨by rfl, ?_⟩) ?_ ?_; rotate_left; (focus rintro w' ⟨s0, s1, s2, s3, s4, s5, s6, s7, s8, s9⟩; go_simp; with_reducible rfl); rotate_left; (focus simp only [Act.put, List.setIfInBounds_toArray, List.set_cons_zero, List.set_cons_succ, i64_w, i32_w]; rfl)))
       refine Run.nil ?_
       refine one_ (i := 1) (N := some 45) (ms 24 7) rfl rfl (one_of HT_.out (by kernel_rfl)) (by decide) (fun K hK => ?_)
       refine goes_ Try.func14 (by kernel_rfl) rfl #[.agg #[.int .i64 a0_0, .int .i64 a0_1, .int .i64 a0_2, .int .i64 a0_3, .int .i64 a0_4, .int .i64 a0_5, .int .i64 a0_6, .bool a0_7, .int .i64 a0_8, .slice A0_9 l0_9.length c0_9]] (by rfl) rfl rfl (by (try simp only [List.map_toArray, List.map_cons, List.map_nil]); first | done | rfl | (simp only [List.length_drop, List.length_take]; rfl)) ?_
       with_reducible refine (record_Right.calls kj3 a0_0 a0_1 a0_2 a0_3 a0_4 a0_5 a0_6 a0_7 a0_8 _ _ l0_9 t330 _ ?side1 ?side2 A35.out).mono ?_
       (case side1 => repeat (first | exact (Kd.C_below HR0_9.out HB.out) | (with_reducible refine Kd.C_alloc ?_ _) | (with_reducible refine Kd.C_drewN ?_ _) | (with_reducible refine Kd.C_drew ?_)))
       (case side2 => exact HC0_9.out)
       rintro e w39 ⟨rfl, hb⟩
       refine ⟨_, rfl, ?_⟩
       have n0_ := Aside0.mk (Kd.R_below (by (with_reducible repeat (first | apply Kd.R_alloc | apply Kd.R_drewN | apply Kd.R_drew)); first | exact HO298.out | exact Kd.R_mono HO298.out (fun _ hk => by grind)) hb)
       have n1_ := Aside0.mk (Kd.R_below (by (with_reducible repeat (first | apply Kd.R_alloc | apply Kd.R_drewN | apply Kd.R_drew)); first | exact HO301.out | exact Kd.R_mono HO301.out (fun _ hk => by grind)) hb)
       have n2_ := Aside0.mk (Kd.R_below (by (with_reducible repeat (first | apply Kd.R_alloc | apply Kd.R_drewN | apply Kd.R_drew)); first | exact HO313.out | exact Kd.R_mono HO313.out (fun _ hk => by grind)) hb)
       have n3_ := Aside0.mk (Kd.R_below (by (with_reducible repeat (first | apply Kd.R_alloc | apply Kd.R_drewN | apply Kd.R_drew)); first | exact HO327.out | exact Kd.R_mono HO327.out (fun _ hk => by grind)) hb)
       have n4_ := Aside0.mk (blk_below (g := gb293) (o := .cells #[.int .i64 a0_0, .int .i64 a0_1, .int .i64 a0_2, .int .i64 a0_3, .int .i64 a0_4, .int .i64 a0_5, .int .i64 a0_6, .bool a0_7, .int .i64 a0_8, .slice A0_9 l0_9.length c0_9] 28 (0, 0)) (blk_g BK293.out) hb)
       have n5_ := Aside0.mk (blk_below (g := gb315) (o := .cells #[.int .i64 t302, .int .i64 t303, .int .i64 t304, .int .i64 t305, .int .i64 t306, .int .i64 t307, .int .i64 t308, .bool t309, .int .i64 t310, .slice Ao28 t311.length co28] 28 (0, 0)) (blk_g BK315.out) hb)
       have n6_ := Aside0.mk (blk_below (g := gb329) (o := .cells #[.int .i64 t316, .int .i64 t317, .int .i64 t318, .int .i64 t319, .int .i64 t320, .int .i64 t321, .int .i64 t322, .bool t323, .int .i64 t324, .slice Ao34 t325.length co34] 28 (0, 0)) (blk_g BK329.out) hb)
       have n7_ := Aside0.mk (belt hb)
       clear HO298
       clear HO301
       clear HO313
       clear HO327
       clear BK293
       clear BK315
       clear BK329
       clear HB
       have HO298 := n0_
       have HO301 := n1_
       have HO313 := n2_
       have HO327 := n3_
       have BK293 := n4_
       have BK315 := n5_
       have BK329 := n6_
       have HB := n7_
       clear n0_ n1_ n2_ n3_ n4_ n5_ n6_ n7_
       (try clear hb)
       (try clear hb2)
       (try clear hk)
       (try clear hi)
       refine hK.out _ _ ⟨(blk_cell BK293.out 0).trans rfl, (blk_cell BK293.out 1).trans rfl, (blk_cell BK293.out 2).trans rfl, (blk_cell BK293.out 3).trans rfl, (blk_cell BK293.out 4).trans rfl, (blk_cell BK293.out 5).trans rfl, (blk_cell BK293.out 6).trans rfl, (blk_cell BK293.out 7).trans rfl, (blk_cell BK293.out 8).trans rfl, (blk_cell BK293.out 9).trans rfl⟩ (fun hHeld => ?_)
       clear hK K
       refine norm_ (a' := ?_) ?_ ?_
       rotate_left
       ·show Act.put _ (some 45) _ = _
        simp only [Act.put, List.setIfInBounds_toArray, List.set_cons_zero, List.set_cons_succ, i64_w, i32_w]
        rfl
       refine run_ [(3, false, some 47), (4, false, some 48)] (n := 2) (ms 24 31) rfl HT_.out HW_.out (by kernel_rfl) (fun _ _ _ _ h => h) hHeld ?_
       repeat (refine Run.p (v := ?_) (a' := ?_) rfl rfl (Or.inl ⟨by rfl, ?_⟩) ?_ ?_; rotate_left; (focus intro w'; go_simp; with_reducible rfl); rotate_left; (focus simp only [Act.put, List.setIfInBounds_toArray, List.set_cons_zero, List.set_cons_succ, i64_w, i32_w]; rfl))
       refine Run.nil ?_
       refine pure_ (i := 5) (N := some 49) (v := undef) (a' := ?_) (ms 24 63) rfl rfl (any_of HT_.out (by kernel_rfl)) (fun _ _ _ h => h) (Or.inr ⟨by rfl, rfl⟩) ?_ ?_
       rotate_left
       ·simp only [Act.put, List.setIfInBounds_toArray, List.set_cons_zero, List.set_cons_succ, i64_w, i32_w]
        rfl
       refine pure_ (i := 6) (N := some 50) (v := undef) (a' := ?_) (ms 24 127) rfl rfl (any_of HT_.out (by kernel_rfl)) (fun _ _ _ h => h) (Or.inr ⟨by rfl, rfl⟩) ?_ ?_
       rotate_left
       ·simp only [Act.put, List.setIfInBounds_toArray, List.set_cons_zero, List.set_cons_succ, i64_w, i32_w]
        rfl
       refine pure_ (i := 7) (N := some 51) (v := undef) (a' := ?_) (ms 24 255) rfl rfl (any_of HT_.out (by kernel_rfl)) (fun _ _ _ h => h) (Or.inr ⟨by rfl, rfl⟩) ?_ ?_
       rotate_left
       ·simp only [Act.put, List.setIfInBounds_toArray, List.set_cons_zero, List.set_cons_succ, i64_w, i32_w]
        rfl
       refine pure_ (i := 8) (N := some 52) (v := undef) (a' := ?_) (ms 24 511) rfl rfl (any_of HT_.out (by kernel_rfl)) (fun _ _ _ h => h) (Or.inr ⟨by rfl, rfl⟩) ?_ ?_
       rotate_left
       ·simp only [Act.put, List.setIfInBounds_toArray, List.set_cons_zero, List.set_cons_succ, i64_w, i32_w]
        rfl
       refine pure_ (i := 9) (N := some 53) (v := undef) (a' := ?_) (ms 24 1023) rfl rfl (any_of HT_.out (by kernel_rfl)) (fun _ _ _ h => h) (Or.inr ⟨by rfl, rfl⟩) ?_ ?_
       rotate_left
       ·simp only [Act.put, List.setIfInBounds_toArray, List.set_cons_zero, List.set_cons_succ, i64_w, i32_w]
        rfl
       refine pure_ (i := 10) (N := some 54) (v := undef) (a' := ?_) (ms 24 2047) rfl rfl (any_of HT_.out (by kernel_rfl)) (fun _ _ _ h => h) (Or.inr ⟨by rfl, rfl⟩) ?_ ?_
       rotate_left
       ·simp only [Act.put, List.setIfInBounds_toArray, List.set_cons_zero, List.set_cons_succ, i64_w, i32_w]
        rfl
       refine run_ [(11, false, some 55), (12, false, some 56)] (n := 2) (ms 24 8191) rfl HT_.out HW_.out (by kernel_rfl) (fun _ _ _ _ h => h) hHeld ?_
       repeat (refine Run.p (v := ?_) (a' := ?_) rfl rfl (Or.inl ⟨by rfl, ?_⟩) ?_ ?_; rotate_left; (focus intro w'; go_simp; with_reducible rfl); rotate_left; (focus simp only [Act.put, List.setIfInBounds_toArray, List.set_cons_zero, List.set_cons_succ, i64_w, i32_w]; rfl))
       refine Run.nil ?_
       refine pure_ (i := 13) (N := some 57) (v := undef) (a' := ?_) (ms 24 16383) rfl rfl (any_of HT_.out (by kernel_rfl)) (fun _ _ _ h => h) (Or.inr ⟨by rfl, rfl⟩) ?_ ?_
       rotate_left
       ·simp only [Act.put, List.setIfInBounds_toArray, List.set_cons_zero, List.set_cons_succ, i64_w, i32_w]
        rfl
       refine pure_ (i := 14) (N := some 58) (v := undef) (a' := ?_) (ms 24 32767) rfl rfl (any_of HT_.out (by kernel_rfl)) (fun _ _ _ h => h) (Or.inr ⟨by rfl, rfl⟩) ?_ ?_
       rotate_left
       ·simp only [Act.put, List.setIfInBounds_toArray, List.set_cons_zero, List.set_cons_succ, i64_w, i32_w]
        rfl
       refine pure_ (i := 15) (N := some 59) (v := undef) (a' := ?_) (ms 24 65535) rfl rfl (any_of HT_.out (by kernel_rfl)) (fun _ _ _ h => h) (Or.inr ⟨by rfl, rfl⟩) ?_ ?_
       rotate_left
       ·simp only [Act.put, List.setIfInBounds_toArray, List.set_cons_zero, List.set_cons_succ, i64_w, i32_w]
        rfl
       refine pure_ (i := 16) (N := some 60) (v := undef) (a' := ?_) (ms 24 131071) rfl rfl (any_of HT_.out (by kernel_rfl)) (fun _ _ _ h => h) (Or.inr ⟨by rfl, rfl⟩) ?_ ?_
       rotate_left
       ·simp only [Act.put, List.setIfInBounds_toArray, List.set_cons_zero, List.set_cons_succ, i64_w, i32_w]
        rfl
       refine run_ [(17, false, some 61), (18, false, some 62)] (n := 2) (ms 24 524287) rfl HT_.out HW_.out (by kernel_rfl) (fun _ _ _ _ h => h) hHeld ?_
       repeat (refine Run.p (v := ?_) (a' := ?_) rfl rfl (Or.inl ⟨by rfl, ?_⟩) ?_ ?_; rotate_left; (focus intro w'; go_simp; with_reducible rfl); rotate_left; (focus simp only [Act.put, List.setIfInBounds_toArray, List.set_cons_zero, List.set_cons_succ, i64_w, i32_w]; rfl))
       refine Run.nil ?_
       refine pure_ (i := 19) (N := some 63) (v := undef) (a' := ?_) (ms 24 1048575) rfl rfl (any_of HT_.out (by kernel_rfl)) (fun _ _ _ h => h) (Or.inr ⟨by rfl, rfl⟩) ?_ ?_
       rotate_left
       ·simp only [Act.put, List.setIfInBounds_toArray, List.set_cons_zero, List.set_cons_succ, i64_w, i32_w]
        rfl
       refine pure_ (i := 20) (N := some 64) (v := undef) (a' := ?_) (ms 24 2097151) rfl rfl (any_of HT_.out (by kernel_rfl)) (fun _ _ _ h => h) (Or.inr ⟨by rfl, rfl⟩) ?_ ?_
       rotate_left
       ·simp only [Act.put, List.setIfInBounds_toArray, List.set_cons_zero, List.set_cons_succ, i64_w, i32_w]
        rfl
       refine pure_ (i := 21) (N := some 65) (v := undef) (a' := ?_) (ms 24 4194303) rfl rfl (any_of HT_.out (by kernel_rfl)) (fun _ _ _ h => h) (Or.inr ⟨by rfl, rfl⟩) ?_ ?_
       rotate_left
       ·simp only [Act.put, List.setIfInBounds_toArray, List.set_cons_zero, List.set_cons_succ, i64_w, i32_w]
        rfl
       refine pure_ (i := 22) (N := some 66) (v := undef) (a' := ?_) (ms 24 8388607) rfl rfl (any_of HT_.out (by kernel_rfl)) (fun _ _ _ h => h) (Or.inr ⟨by rfl, rfl⟩) ?_ ?_
       rotate_left
       ·simp only [Act.put, List.setIfInBounds_toArray, List.set_cons_zero, List.set_cons_succ, i64_w, i32_w]
        rfl
       refine pure_ (i := 23) (N := some 67) (v := ?_) (a' := ?_) (ms 24 16777215) rfl rfl (any_of HT_.out (by kernel_rfl)) (fun _ _ _ h => h) (Or.inl ⟨by rfl, ?_⟩) ?_ ?_
       rotate_left
       ·intro w'
        go_simp
        with_reducible rfl
       rotate_left
       ·simp only [Act.put, List.setIfInBounds_toArray, List.set_cons_zero, List.set_cons_succ, i64_w, i32_w]
        rfl
       refine done_ (done_of HT_.out (by kernel_rfl)) ?_
       try go_wp2
       go_meet
       case rel => exact ⟨_, (true), (by first | rfl | (simp; done) | (simp [*]; done)), H', ⟨by have := HJ3.out; first | omega | exact Nat.le_refl _⟩, ⟨by (with_reducible repeat (first | apply Kd.R_alloc | apply Kd.R_drewN | apply Kd.R_drew)); exact Kd.R_mono HO298.out (fun _ hk => by first | exact ⟨hk.2.1, hk.2.2⟩ | exact hk | grind)⟩, ⟨by (with_reducible repeat (first | apply Kd.R_alloc | apply Kd.R_drewN | apply Kd.R_drew)); exact Kd.R_mono HO313.out (fun _ hk => by first | exact ⟨hk.1, hk.2.2⟩ | exact hk | grind)⟩, ⟨by (with_reducible repeat (first | apply Kd.R_alloc | apply Kd.R_drewN | apply Kd.R_drew)); exact Kd.R_mono HO327.out (fun _ hk => by first | exact ⟨hk.1, hk.2.2⟩ | exact hk | grind)⟩, ⟨by (with_reducible repeat (first | refine blk_drewN ?_ _ | refine blk_drew ?_ | refine blk_alloc ?_ _)); exact BK293.out⟩, ⟨by (with_reducible repeat (first | refine blk_drewN ?_ _ | refine blk_drew ?_ | refine blk_alloc ?_ _)); exact BK315.out⟩, ⟨by (with_reducible repeat (first | refine blk_drewN ?_ _ | refine blk_drew ?_ | refine blk_alloc ?_ _)); exact BK329.out⟩, ⟨bel⟩⟩
      ·rw [if_neg c36] at H
       have c36b0 : (t330 != t295) = false := by simpa using c36
       (try (have c36b1 : decide (t330 = t295) = true := by simpa using c36))
       (try (have c36b2 : (t330 == t295) = true := by simpa using c36))
       clear c36
       (first | rw [c36b0] | (simp only [i64_w, i32_w]; rw [c36b0]) | rw [c36b1] | skip)
       replace H := Option.bind_eq_some_iff.mp H
       obtain ⟨t331, A400, H⟩ := H
       replace H : (if (strOfNums t296).toList = (strOfNums t331).toList then ((fountainref14_SameRecord.f t302 t303 t304 t305 t306 t307 t308 t309 t310 t311 t316 t317 t318 t319 t320 t321 t322 t323 t324 t325).bind fun t334 => (if t334 = true then ((fountainlaw14_num.f t314).bind fun t335 => (fountainlaw14_RecordTells.j1 kj3 t295 t296 (t335 != t328) a0_0 a0_1 a0_2 a0_3 a0_4 a0_5 a0_6 a0_7 a0_8 l0_9)) else (fountainlaw14_RecordTells.j1 kj3 t295 t296 true a0_0 a0_1 a0_2 a0_3 a0_4 a0_5 a0_6 a0_7 a0_8 l0_9))) else (fountainlaw14_RecordTells.j1 kj3 t295 t296 true a0_0 a0_1 a0_2 a0_3 a0_4 a0_5 a0_6 a0_7 a0_8 l0_9)) = some r := H
       have A40 := Aside0.mk A400
       clear A400
       by_cases c41 : (strOfNums t296).toList = (strOfNums t331).toList
       ·rw [if_pos c41] at H
        have c41b0 : ((strOfNums t296).toList == (strOfNums t331).toList) = true := beq_iff_eq.mpr c41
        have c41b1 : ((strOfNums t296).toList != (strOfNums t331).toList) = false := bne_eq_false_iff_eq.mpr c41
        clear c41
        replace H := Option.bind_eq_some_iff.mp H
        obtain ⟨t334, A420, H⟩ := H
        replace H : (if t334 = true then ((fountainlaw14_num.f t314).bind fun t335 => (fountainlaw14_RecordTells.j1 kj3 t295 t296 (t335 != t328) a0_0 a0_1 a0_2 a0_3 a0_4 a0_5 a0_6 a0_7 a0_8 l0_9)) else (fountainlaw14_RecordTells.j1 kj3 t295 t296 true a0_0 a0_1 a0_2 a0_3 a0_4 a0_5 a0_6 a0_7 a0_8 l0_9)) = some r := H
        have A42 := Aside0.mk A420
        clear A420
        by_cases c43 : t334 = true
        ·subst c43
         have H1 : ((fountainlaw14_num.f t314).bind fun t335 => (fountainlaw14_RecordTells.j1 kj3 t295 t296 (t335 != t328) a0_0 a0_1 a0_2 a0_3 a0_4 a0_5 a0_6 a0_7 a0_8 l0_9)) = some r := by rw [if_pos rfl] at H; exact H
         clear H
         have H := H1
         clear H1
         replace H := Option.bind_eq_some_iff.mp H
         obtain ⟨t335, A440, H⟩ := H
         replace H : (fountainlaw14_RecordTells.j1 kj3 t295 t296 (t335 != t328) a0_0 a0_1 a0_2 a0_3 a0_4 a0_5 a0_6 a0_7 a0_8 l0_9) = some r := H
         have A44 := Aside0.mk A440
         clear A440
         have H' := Aside0.mk H
         clear H
         try go_wp2
         have n0_ : Aside0 (Kd.R (Kd.int .u8) 5 ((((((((((w30.setCell ⟨gb329, 0, none⟩ (.int .i64 t316)).setCell ⟨gb329, 1, none⟩ (.int .i64 t317)).setCell ⟨gb329, 2, none⟩ (.int .i64 t318)).setCell ⟨gb329, 3, none⟩ (.int .i64 t319)).setCell ⟨gb329, 4, none⟩ (.int .i64 t320)).setCell ⟨gb329, 5, none⟩ (.int .i64 t321)).setCell ⟨gb329, 6, none⟩ (.int .i64 t322)).setCell ⟨gb329, 7, none⟩ (.bool t323)).setCell ⟨gb329, 8, none⟩ (.int .i64 t324)).setCell ⟨gb329, 9, none⟩ (.slice Ao34 t325.length co34)) w.heap.size (fun k_ => some k_ ≠ (.slice Ao23 y299.length co23 : Value).ownBlock ∧ some k_ ≠ (.slice Ao28 t311.length co28 : Value).ownBlock ∧ some k_ ≠ (.slice Ao34 t325.length co34 : Value).ownBlock) v297 t296) := ⟨by (with_reducible repeat (first | apply Kd.R_alloc | apply Kd.R_drewN | apply Kd.R_drew)); exact Kd.R_mono (Kd.R_far (p := ⟨gb329, 9, none⟩) (Kd.R_far (p := ⟨gb329, 8, none⟩) (Kd.R_far (p := ⟨gb329, 7, none⟩) (Kd.R_far (p := ⟨gb329, 6, none⟩) (Kd.R_far (p := ⟨gb329, 5, none⟩) (Kd.R_far (p := ⟨gb329, 4, none⟩) (Kd.R_far (p := ⟨gb329, 3, none⟩) (Kd.R_far (p := ⟨gb329, 2, none⟩) (Kd.R_far (p := ⟨gb329, 1, none⟩) (Kd.R_far (p := ⟨gb329, 0, none⟩) (Kd.R_types HO298.out BK329.out (by decide)) (fun _ hk => by first | exact hk.2 | exact hk | grind) (.int .i64 t316)) (fun _ hk => by first | exact hk.2 | exact hk | grind) (.int .i64 t317)) (fun _ hk => by first | exact hk.2 | exact hk | grind) (.int .i64 t318)) (fun _ hk => by first | exact hk.2 | exact hk | grind) (.int .i64 t319)) (fun _ hk => by first | exact hk.2 | exact hk | grind) (.int .i64 t320)) (fun _ hk => by first | exact hk.2 | exact hk | grind) (.int .i64 t321)) (fun _ hk => by first | exact hk.2 | exact hk | grind) (.int .i64 t322)) (fun _ hk => by first | exact hk.2 | exact hk | grind) (.bool t323)) (fun _ hk => by first | exact hk.2 | exact hk | grind) (.int .i64 t324)) (fun _ hk => by first | exact hk.2 | exact hk | grind) (.slice Ao34 t325.length co34)) (fun _ hk => by first | exact ⟨hk.1.1.1.2, ⟨hk.1.1.2, hk.1.2⟩⟩ | exact hk | grind)⟩
         have n1_ : Aside0 (Kd.R (Kd.int .u8) 5 ((((((((((w30.setCell ⟨gb329, 0, none⟩ (.int .i64 t316)).setCell ⟨gb329, 1, none⟩ (.int .i64 t317)).setCell ⟨gb329, 2, none⟩ (.int .i64 t318)).setCell ⟨gb329, 3, none⟩ (.int .i64 t319)).setCell ⟨gb329, 4, none⟩ (.int .i64 t320)).setCell ⟨gb329, 5, none⟩ (.int .i64 t321)).setCell ⟨gb329, 6, none⟩ (.int .i64 t322)).setCell ⟨gb329, 7, none⟩ (.bool t323)).setCell ⟨gb329, 8, none⟩ (.int .i64 t324)).setCell ⟨gb329, 9, none⟩ (.slice Ao34 t325.length co34)) w.heap.size (fun k_ => some k_ ≠ (v297 : Value).ownBlock ∧ some k_ ≠ (.slice Ao28 t311.length co28 : Value).ownBlock ∧ some k_ ≠ (.slice Ao34 t325.length co34 : Value).ownBlock) (.slice Ao23 y299.length co23) y299) := ⟨by (with_reducible repeat (first | apply Kd.R_alloc | apply Kd.R_drewN | apply Kd.R_drew)); exact Kd.R_mono (Kd.R_far (p := ⟨gb329, 9, none⟩) (Kd.R_far (p := ⟨gb329, 8, none⟩) (Kd.R_far (p := ⟨gb329, 7, none⟩) (Kd.R_far (p := ⟨gb329, 6, none⟩) (Kd.R_far (p := ⟨gb329, 5, none⟩) (Kd.R_far (p := ⟨gb329, 4, none⟩) (Kd.R_far (p := ⟨gb329, 3, none⟩) (Kd.R_far (p := ⟨gb329, 2, none⟩) (Kd.R_far (p := ⟨gb329, 1, none⟩) (Kd.R_far (p := ⟨gb329, 0, none⟩) (Kd.R_types HO301.out BK329.out (by decide)) (fun _ hk => by first | exact hk.2 | exact hk | grind) (.int .i64 t316)) (fun _ hk => by first | exact hk.2 | exact hk | grind) (.int .i64 t317)) (fun _ hk => by first | exact hk.2 | exact hk | grind) (.int .i64 t318)) (fun _ hk => by first | exact hk.2 | exact hk | grind) (.int .i64 t319)) (fun _ hk => by first | exact hk.2 | exact hk | grind) (.int .i64 t320)) (fun _ hk => by first | exact hk.2 | exact hk | grind) (.int .i64 t321)) (fun _ hk => by first | exact hk.2 | exact hk | grind) (.int .i64 t322)) (fun _ hk => by first | exact hk.2 | exact hk | grind) (.bool t323)) (fun _ hk => by first | exact hk.2 | exact hk | grind) (.int .i64 t324)) (fun _ hk => by first | exact hk.2 | exact hk | grind) (.slice Ao34 t325.length co34)) (fun _ hk => by first | exact ⟨hk.1.1.1, ⟨hk.1.1.2, hk.1.2⟩⟩ | exact hk | grind)⟩
         have n2_ : Aside0 (Kd.R (Kd.int .u8) 5 ((((((((((w30.setCell ⟨gb329, 0, none⟩ (.int .i64 t316)).setCell ⟨gb329, 1, none⟩ (.int .i64 t317)).setCell ⟨gb329, 2, none⟩ (.int .i64 t318)).setCell ⟨gb329, 3, none⟩ (.int .i64 t319)).setCell ⟨gb329, 4, none⟩ (.int .i64 t320)).setCell ⟨gb329, 5, none⟩ (.int .i64 t321)).setCell ⟨gb329, 6, none⟩ (.int .i64 t322)).setCell ⟨gb329, 7, none⟩ (.bool t323)).setCell ⟨gb329, 8, none⟩ (.int .i64 t324)).setCell ⟨gb329, 9, none⟩ (.slice Ao34 t325.length co34)) w.heap.size (fun k_ => some k_ ≠ (v297 : Value).ownBlock ∧ some k_ ≠ (.slice Ao23 y299.length co23 : Value).ownBlock ∧ some k_ ≠ (.slice Ao34 t325.length co34 : Value).ownBlock) (.slice Ao28 t311.length co28) t311) := ⟨by (with_reducible repeat (first | apply Kd.R_alloc | apply Kd.R_drewN | apply Kd.R_drew)); exact Kd.R_mono (Kd.R_far (p := ⟨gb329, 9, none⟩) (Kd.R_far (p := ⟨gb329, 8, none⟩) (Kd.R_far (p := ⟨gb329, 7, none⟩) (Kd.R_far (p := ⟨gb329, 6, none⟩) (Kd.R_far (p := ⟨gb329, 5, none⟩) (Kd.R_far (p := ⟨gb329, 4, none⟩) (Kd.R_far (p := ⟨gb329, 3, none⟩) (Kd.R_far (p := ⟨gb329, 2, none⟩) (Kd.R_far (p := ⟨gb329, 1, none⟩) (Kd.R_far (p := ⟨gb329, 0, none⟩) (Kd.R_types HO313.out BK329.out (by decide)) (fun _ hk => by first | exact hk.2 | exact hk | grind) (.int .i64 t316)) (fun _ hk => by first | exact hk.2 | exact hk | grind) (.int .i64 t317)) (fun _ hk => by first | exact hk.2 | exact hk | grind) (.int .i64 t318)) (fun _ hk => by first | exact hk.2 | exact hk | grind) (.int .i64 t319)) (fun _ hk => by first | exact hk.2 | exact hk | grind) (.int .i64 t320)) (fun _ hk => by first | exact hk.2 | exact hk | grind) (.int .i64 t321)) (fun _ hk => by first | exact hk.2 | exact hk | grind) (.int .i64 t322)) (fun _ hk => by first | exact hk.2 | exact hk | grind) (.bool t323)) (fun _ hk => by first | exact hk.2 | exact hk | grind) (.int .i64 t324)) (fun _ hk => by first | exact hk.2 | exact hk | grind) (.slice Ao34 t325.length co34)) (fun _ hk => by first | exact ⟨hk.1.1.1.2, ⟨hk.1.1.2, hk.1.2⟩⟩ | exact hk | grind)⟩
         have n3_ : Aside0 (Kd.R (Kd.int .u8) 5 ((((((((((w30.setCell ⟨gb329, 0, none⟩ (.int .i64 t316)).setCell ⟨gb329, 1, none⟩ (.int .i64 t317)).setCell ⟨gb329, 2, none⟩ (.int .i64 t318)).setCell ⟨gb329, 3, none⟩ (.int .i64 t319)).setCell ⟨gb329, 4, none⟩ (.int .i64 t320)).setCell ⟨gb329, 5, none⟩ (.int .i64 t321)).setCell ⟨gb329, 6, none⟩ (.int .i64 t322)).setCell ⟨gb329, 7, none⟩ (.bool t323)).setCell ⟨gb329, 8, none⟩ (.int .i64 t324)).setCell ⟨gb329, 9, none⟩ (.slice Ao34 t325.length co34)) w.heap.size (fun k_ => some k_ ≠ (v297 : Value).ownBlock ∧ some k_ ≠ (.slice Ao23 y299.length co23 : Value).ownBlock ∧ some k_ ≠ (.slice Ao28 t311.length co28 : Value).ownBlock) (.slice Ao34 t325.length co34) t325) := ⟨by (with_reducible repeat (first | apply Kd.R_alloc | apply Kd.R_drewN | apply Kd.R_drew)); exact Kd.R_mono (Kd.R_far (p := ⟨gb329, 9, none⟩) (Kd.R_far (p := ⟨gb329, 8, none⟩) (Kd.R_far (p := ⟨gb329, 7, none⟩) (Kd.R_far (p := ⟨gb329, 6, none⟩) (Kd.R_far (p := ⟨gb329, 5, none⟩) (Kd.R_far (p := ⟨gb329, 4, none⟩) (Kd.R_far (p := ⟨gb329, 3, none⟩) (Kd.R_far (p := ⟨gb329, 2, none⟩) (Kd.R_far (p := ⟨gb329, 1, none⟩) (Kd.R_far (p := ⟨gb329, 0, none⟩) (Kd.R_types HO327.out BK329.out (by decide)) (fun _ hk => by first | exact hk.2 | exact hk | grind) (.int .i64 t316)) (fun _ hk => by first | exact hk.2 | exact hk | grind) (.int .i64 t317)) (fun _ hk => by first | exact hk.2 | exact hk | grind) (.int .i64 t318)) (fun _ hk => by first | exact hk.2 | exact hk | grind) (.int .i64 t319)) (fun _ hk => by first | exact hk.2 | exact hk | grind) (.int .i64 t320)) (fun _ hk => by first | exact hk.2 | exact hk | grind) (.int .i64 t321)) (fun _ hk => by first | exact hk.2 | exact hk | grind) (.int .i64 t322)) (fun _ hk => by first | exact hk.2 | exact hk | grind) (.bool t323)) (fun _ hk => by first | exact hk.2 | exact hk | grind) (.int .i64 t324)) (fun _ hk => by first | exact hk.2 | exact hk | grind) (.slice Ao34 t325.length co34)) (fun _ hk => by first | exact ⟨hk.1.1.1.2, ⟨hk.1.1.2, hk.1.2⟩⟩ | exact hk | grind)⟩
         have n4_ : Aside0 (((((((((((w30.setCell ⟨gb329, 0, none⟩ (.int .i64 t316)).setCell ⟨gb329, 1, none⟩ (.int .i64 t317)).setCell ⟨gb329, 2, none⟩ (.int .i64 t318)).setCell ⟨gb329, 3, none⟩ (.int .i64 t319)).setCell ⟨gb329, 4, none⟩ (.int .i64 t320)).setCell ⟨gb329, 5, none⟩ (.int .i64 t321)).setCell ⟨gb329, 6, none⟩ (.int .i64 t322)).setCell ⟨gb329, 7, none⟩ (.bool t323)).setCell ⟨gb329, 8, none⟩ (.int .i64 t324)).setCell ⟨gb329, 9, none⟩ (.slice Ao34 t325.length co34)).heap[gb293]? = some (.cells #[.int .i64 a0_0, .int .i64 a0_1, .int .i64 a0_2, .int .i64 a0_3, .int .i64 a0_4, .int .i64 a0_5, .int .i64 a0_6, .bool a0_7, .int .i64 a0_8, .slice A0_9 l0_9.length c0_9] 28 (0, 0))) := ⟨by (with_reducible repeat (first | refine blk_drewN ?_ _ | refine blk_drew ?_ | refine blk_alloc ?_ _)); refine blk_far ?_ NB293_329.out _; (with_reducible repeat (first | refine blk_drewN ?_ _ | refine blk_drew ?_ | refine blk_alloc ?_ _)); refine blk_far ?_ NB293_329.out _; (with_reducible repeat (first | refine blk_drewN ?_ _ | refine blk_drew ?_ | refine blk_alloc ?_ _)); refine blk_far ?_ NB293_329.out _; (with_reducible repeat (first | refine blk_drewN ?_ _ | refine blk_drew ?_ | refine blk_alloc ?_ _)); refine blk_far ?_ NB293_329.out _; (with_reducible repeat (first | refine blk_drewN ?_ _ | refine blk_drew ?_ | refine blk_alloc ?_ _)); refine blk_far ?_ NB293_329.out _; (with_reducible repeat (first | refine blk_drewN ?_ _ | refine blk_drew ?_ | refine blk_alloc ?_ _)); refine blk_far ?_ NB293_329.out _; (with_reducible repeat (first | refine blk_drewN ?_ _ | refine blk_drew ?_ | refine blk_alloc ?_ _)); refine blk_far ?_ NB293_329.out _; (with_reducible repeat (first | refine blk_drewN ?_ _ | refine blk_drew ?_ | refine blk_alloc ?_ _)); refine blk_far ?_ NB293_329.out _; (with_reducible repeat (first | refine blk_drewN ?_ _ | refine blk_drew ?_ | refine blk_alloc ?_ _)); refine blk_far ?_ NB293_329.out _; (with_reducible repeat (first | refine blk_drewN ?_ _ | refine blk_drew ?_ | refine blk_alloc ?_ _)); refine blk_far ?_ NB293_329.out _; (with_reducible repeat (first | refine blk_drewN ?_ _ | refine blk_drew ?_ | refine blk_alloc ?_ _)); exact BK293.out⟩
         have n5_ : Aside0 (((((((((((w30.setCell ⟨gb329, 0, none⟩ (.int .i64 t316)).setCell ⟨gb329, 1, none⟩ (.int .i64 t317)).setCell ⟨gb329, 2, none⟩ (.int .i64 t318)).setCell ⟨gb329, 3, none⟩ (.int .i64 t319)).setCell ⟨gb329, 4, none⟩ (.int .i64 t320)).setCell ⟨gb329, 5, none⟩ (.int .i64 t321)).setCell ⟨gb329, 6, none⟩ (.int .i64 t322)).setCell ⟨gb329, 7, none⟩ (.bool t323)).setCell ⟨gb329, 8, none⟩ (.int .i64 t324)).setCell ⟨gb329, 9, none⟩ (.slice Ao34 t325.length co34)).heap[gb315]? = some (.cells #[.int .i64 t302, .int .i64 t303, .int .i64 t304, .int .i64 t305, .int .i64 t306, .int .i64 t307, .int .i64 t308, .bool t309, .int .i64 t310, .slice Ao28 t311.length co28] 28 (0, 0))) := ⟨by (with_reducible repeat (first | refine blk_drewN ?_ _ | refine blk_drew ?_ | refine blk_alloc ?_ _)); refine blk_far ?_ NB315_329.out _; (with_reducible repeat (first | refine blk_drewN ?_ _ | refine blk_drew ?_ | refine blk_alloc ?_ _)); refine blk_far ?_ NB315_329.out _; (with_reducible repeat (first | refine blk_drewN ?_ _ | refine blk_drew ?_ | refine blk_alloc ?_ _)); refine blk_far ?_ NB315_329.out _; (with_reducible repeat (first | refine blk_drewN ?_ _ | refine blk_drew ?_ | refine blk_alloc ?_ _)); refine blk_far ?_ NB315_329.out _; (with_reducible repeat (first | refine blk_drewN ?_ _ | refine blk_drew ?_ | refine blk_alloc ?_ _)); refine blk_far ?_ NB315_329.out _; (with_reducible repeat (first | refine blk_drewN ?_ _ | refine blk_drew ?_ | refine blk_alloc ?_ _)); refine blk_far ?_ NB315_329.out _; (with_reducible repeat (first | refine blk_drewN ?_ _ | refine blk_drew ?_ | refine blk_alloc ?_ _)); refine blk_far ?_ NB315_329.out _; (with_reducible repeat (first | refine blk_drewN ?_ _ | refine blk_drew ?_ | refine blk_alloc ?_ _)); refine blk_far ?_ NB315_329.out _; (with_reducible repeat (first | refine blk_drewN ?_ _ | refine blk_drew ?_ | refine blk_alloc ?_ _)); refine blk_far ?_ NB315_329.out _; (with_reducible repeat (first | refine blk_drewN ?_ _ | refine blk_drew ?_ | refine blk_alloc ?_ _)); refine blk_far ?_ NB315_329.out _; (with_reducible repeat (first | refine blk_drewN ?_ _ | refine blk_drew ?_ | refine blk_alloc ?_ _)); exact BK315.out⟩
         have n6_ : Aside0 (((((((((((w30.setCell ⟨gb329, 0, none⟩ (.int .i64 t316)).setCell ⟨gb329, 1, none⟩ (.int .i64 t317)).setCell ⟨gb329, 2, none⟩ (.int .i64 t318)).setCell ⟨gb329, 3, none⟩ (.int .i64 t319)).setCell ⟨gb329, 4, none⟩ (.int .i64 t320)).setCell ⟨gb329, 5, none⟩ (.int .i64 t321)).setCell ⟨gb329, 6, none⟩ (.int .i64 t322)).setCell ⟨gb329, 7, none⟩ (.bool t323)).setCell ⟨gb329, 8, none⟩ (.int .i64 t324)).setCell ⟨gb329, 9, none⟩ (.slice Ao34 t325.length co34)).heap[gb329]? = some (.cells #[.int .i64 t316, .int .i64 t317, .int .i64 t318, .int .i64 t319, .int .i64 t320, .int .i64 t321, .int .i64 t322, .bool t323, .int .i64 t324, .slice Ao34 t325.length co34] 28 (0, 0))) := ⟨by (with_reducible repeat (first | refine blk_drewN ?_ _ | refine blk_drew ?_ | refine blk_alloc ?_ _)); refine blk_put (cs := #[.int .i64 t316, .int .i64 t317, .int .i64 t318, .int .i64 t319, .int .i64 t320, .int .i64 t321, .int .i64 t322, .bool t323, .int .i64 t324, .slice none 0 0]) ?_ 9 _ rfl; (with_reducible repeat (first | refine blk_drewN ?_ _ | refine blk_drew ?_ | refine blk_alloc ?_ _)); refine blk_put (cs := #[.int .i64 t316, .int .i64 t317, .int .i64 t318, .int .i64 t319, .int .i64 t320, .int .i64 t321, .int .i64 t322, .bool t323, .int .i64 0, .slice none 0 0]) ?_ 8 _ rfl; (with_reducible repeat (first | refine blk_drewN ?_ _ | refine blk_drew ?_ | refine blk_alloc ?_ _)); refine blk_put (cs := #[.int .i64 t316, .int .i64 t317, .int .i64 t318, .int .i64 t319, .int .i64 t320, .int .i64 t321, .int .i64 t322, .bool false, .int .i64 0, .slice none 0 0]) ?_ 7 _ rfl; (with_reducible repeat (first | refine blk_drewN ?_ _ | refine blk_drew ?_ | refine blk_alloc ?_ _)); refine blk_put (cs := #[.int .i64 t316, .int .i64 t317, .int .i64 t318, .int .i64 t319, .int .i64 t320, .int .i64 t321, .int .i64 0, .bool false, .int .i64 0, .slice none 0 0]) ?_ 6 _ rfl; (with_reducible repeat (first | refine blk_drewN ?_ _ | refine blk_drew ?_ | refine blk_alloc ?_ _)); refine blk_put (cs := #[.int .i64 t316, .int .i64 t317, .int .i64 t318, .int .i64 t319, .int .i64 t320, .int .i64 0, .int .i64 0, .bool false, .int .i64 0, .slice none 0 0]) ?_ 5 _ rfl; (with_reducible repeat (first | refine blk_drewN ?_ _ | refine blk_drew ?_ | refine blk_alloc ?_ _)); refine blk_put (cs := #[.int .i64 t316, .int .i64 t317, .int .i64 t318, .int .i64 t319, .int .i64 0, .int .i64 0, .int .i64 0, .bool false, .int .i64 0, .slice none 0 0]) ?_ 4 _ rfl; (with_reducible repeat (first | refine blk_drewN ?_ _ | refine blk_drew ?_ | refine blk_alloc ?_ _)); refine blk_put (cs := #[.int .i64 t316, .int .i64 t317, .int .i64 t318, .int .i64 0, .int .i64 0, .int .i64 0, .int .i64 0, .bool false, .int .i64 0, .slice none 0 0]) ?_ 3 _ rfl; (with_reducible repeat (first | refine blk_drewN ?_ _ | refine blk_drew ?_ | refine blk_alloc ?_ _)); refine blk_put (cs := #[.int .i64 t316, .int .i64 t317, .int .i64 0, .int .i64 0, .int .i64 0, .int .i64 0, .int .i64 0, .bool false, .int .i64 0, .slice none 0 0]) ?_ 2 _ rfl; (with_reducible repeat (first | refine blk_drewN ?_ _ | refine blk_drew ?_ | refine blk_alloc ?_ _)); refine blk_put (cs := #[.int .i64 t316, .int .i64 0, .int .i64 0, .int .i64 0, .int .i64 0, .int .i64 0, .int .i64 0, .bool false, .int .i64 0, .slice none 0 0]) ?_ 1 _ rfl; (with_reducible repeat (first | refine blk_drewN ?_ _ | refine blk_drew ?_ | refine blk_alloc ?_ _)); refine blk_put (cs := #[.int .i64 0, .int .i64 0, .int .i64 0, .int .i64 0, .int .i64 0, .int .i64 0, .int .i64 0, .bool false, .int .i64 0, .slice none 0 0]) ?_ 0 _ rfl; (with_reducible repeat (first | refine blk_drewN ?_ _ | refine blk_drew ?_ | refine blk_alloc ?_ _)); exact BK329.out⟩
         have n7_ : Aside0 (Below w.heap.size w ((((((((((w30.setCell ⟨gb329, 0, none⟩ (.int .i64 t316)).setCell ⟨gb329, 1, none⟩ (.int .i64 t317)).setCell ⟨gb329, 2, none⟩ (.int .i64 t318)).setCell ⟨gb329, 3, none⟩ (.int .i64 t319)).setCell ⟨gb329, 4, none⟩ (.int .i64 t320)).setCell ⟨gb329, 5, none⟩ (.int .i64 t321)).setCell ⟨gb329, 6, none⟩ (.int .i64 t322)).setCell ⟨gb329, 7, none⟩ (.bool t323)).setCell ⟨gb329, 8, none⟩ (.int .i64 t324)).setCell ⟨gb329, 9, none⟩ (.slice Ao34 t325.length co34))) := ⟨bel⟩
         (try clear HO298)
         (try clear HO301)
         (try clear HO313)
         (try clear HO327)
         (try clear BK293)
         (try clear BK315)
         (try clear BK329)
         (try clear HB)
         generalize ((((((((((w30.setCell ⟨gb329, 0, none⟩ (.int .i64 t316)).setCell ⟨gb329, 1, none⟩ (.int .i64 t317)).setCell ⟨gb329, 2, none⟩ (.int .i64 t318)).setCell ⟨gb329, 3, none⟩ (.int .i64 t319)).setCell ⟨gb329, 4, none⟩ (.int .i64 t320)).setCell ⟨gb329, 5, none⟩ (.int .i64 t321)).setCell ⟨gb329, 6, none⟩ (.int .i64 t322)).setCell ⟨gb329, 7, none⟩ (.bool t323)).setCell ⟨gb329, 8, none⟩ (.int .i64 t324)).setCell ⟨gb329, 9, none⟩ (.slice Ao34 t325.length co34)) = w45 at n0_ n1_ n2_ n3_ n4_ n5_ n6_ n7_ ⊢
         have HO298 := n0_
         have HO301 := n1_
         have HO313 := n2_
         have HO327 := n3_
         have BK293 := n4_
         have BK315 := n5_
         have BK329 := n6_
         have HB := n7_
         clear n0_ n1_ n2_ n3_ n4_ n5_ n6_ n7_
         have n0_ := Aside0.mk (Kd.R_drew HO298.out)
         have n1_ := Aside0.mk (Kd.R_drew HO301.out)
         have n2_ := Aside0.mk (Kd.R_drew HO313.out)
         have n3_ := Aside0.mk (Kd.R_drew HO327.out)
         have n4_ := Aside0.mk (blk_drew BK293.out)
         have n5_ := Aside0.mk (blk_drew BK315.out)
         have n6_ := Aside0.mk (blk_drew BK329.out)
         have n7_ := Aside0.mk (below_drew1 HB.out)
         clear HO298
         clear HO301
         clear HO313
         clear HO327
         clear BK293
         clear BK315
         clear BK329
         clear HB
         have HO298 := n0_
         have HO301 := n1_
         have HO313 := n2_
         have HO327 := n3_
         have BK293 := n4_
         have BK315 := n5_
         have BK329 := n6_
         have HB := n7_
         clear n0_ n1_ n2_ n3_ n4_ n5_ n6_ n7_
         refine start_ (n := 24) (S := fun w' => w'.cell? ⟨gb293, 0, none⟩ = some (.int .i64 a0_0) ∧ w'.cell? ⟨gb293, 1, none⟩ = some (.int .i64 a0_1) ∧ w'.cell? ⟨gb293, 2, none⟩ = some (.int .i64 a0_2) ∧ w'.cell? ⟨gb293, 3, none⟩ = some (.int .i64 a0_3) ∧ w'.cell? ⟨gb293, 4, none⟩ = some (.int .i64 a0_4) ∧ w'.cell? ⟨gb293, 5, none⟩ = some (.int .i64 a0_5) ∧ w'.cell? ⟨gb293, 6, none⟩ = some (.int .i64 a0_6) ∧ w'.cell? ⟨gb293, 7, none⟩ = some (.bool a0_7) ∧ w'.cell? ⟨gb293, 8, none⟩ = some (.int .i64 a0_8) ∧ w'.cell? ⟨gb293, 9, none⟩ = some (.slice A0_9 l0_9.length c0_9) ∧ w'.cell? ⟨gb315, 0, none⟩ = some (.int .i64 t302) ∧ w'.cell? ⟨gb315, 1, none⟩ = some (.int .i64 t303) ∧ w'.cell? ⟨gb315, 2, none⟩ = some (.int .i64 t304) ∧ w'.cell? ⟨gb315, 3, none⟩ = some (.int .i64 t305) ∧ w'.cell? ⟨gb315, 4, none⟩ = some (.int .i64 t306) ∧ w'.cell? ⟨gb315, 5, none⟩ = some (.int .i64 t307) ∧ w'.cell? ⟨gb315, 6, none⟩ = some (.int .i64 t308) ∧ w'.cell? ⟨gb315, 7, none⟩ = some (.bool t309) ∧ w'.cell? ⟨gb315, 8, none⟩ = some (.int .i64 t310) ∧ w'.cell? ⟨gb315, 9, none⟩ = some (.slice Ao28 t311.length co28) ∧ w'.cell? ⟨gb329, 0, none⟩ = some (.int .i64 t316) ∧ w'.cell? ⟨gb329, 1, none⟩ = some (.int .i64 t317) ∧ w'.cell? ⟨gb329, 2, none⟩ = some (.int .i64 t318) ∧ w'.cell? ⟨gb329, 3, none⟩ = some (.int .i64 t319) ∧ w'.cell? ⟨gb329, 4, none⟩ = some (.int .i64 t320) ∧ w'.cell? ⟨gb329, 5, none⟩ = some (.int .i64 t321) ∧ w'.cell? ⟨gb329, 6, none⟩ = some (.int .i64 t322) ∧ w'.cell? ⟨gb329, 7, none⟩ = some (.bool t323) ∧ w'.cell? ⟨gb329, 8, none⟩ = some (.int .i64 t324) ∧ w'.cell? ⟨gb329, 9, none⟩ = some (.slice Ao34 t325.length co34) ∧ Xr.Rd w' (v297) t296 ∧ (convert 26 9 (v297)).run Try.prog w' = .ok (.string (strOfNums t296)) w') (ds := []) (ms 24 0) (by kernel_rfl) rfl rfl ⟨(blk_cell BK293.out 0).trans rfl, (blk_cell BK293.out 1).trans rfl, (blk_cell BK293.out 2).trans rfl, (blk_cell BK293.out 3).trans rfl, (blk_cell BK293.out 4).trans rfl, (blk_cell BK293.out 5).trans rfl, (blk_cell BK293.out 6).trans rfl, (blk_cell BK293.out 7).trans rfl, (blk_cell BK293.out 8).trans rfl, (blk_cell BK293.out 9).trans rfl, (blk_cell BK315.out 0).trans rfl, (blk_cell BK315.out 1).trans rfl, (blk_cell BK315.out 2).trans rfl, (blk_cell BK315.out 3).trans rfl, (blk_cell BK315.out 4).trans rfl, (blk_cell BK315.out 5).trans rfl, (blk_cell BK315.out 6).trans rfl, (blk_cell BK315.out 7).trans rfl, (blk_cell BK315.out 8).trans rfl, (blk_cell BK315.out 9).trans rfl, (blk_cell BK329.out 0).trans rfl, (blk_cell BK329.out 1).trans rfl, (blk_cell BK329.out 2).trans rfl, (blk_cell BK329.out 3).trans rfl, (blk_cell BK329.out 4).trans rfl, (blk_cell BK329.out 5).trans rfl, (blk_cell BK329.out 6).trans rfl, (blk_cell BK329.out 7).trans rfl, (blk_cell BK329.out 8).trans rfl, (blk_cell BK329.out 9).trans rfl, (Xr.Rd_R (by (with_reducible repeat (first | apply Kd.R_alloc | apply Kd.R_drewN | apply Kd.R_drew)); first | exact HO298.out | exact Kd.R_mono HO298.out (fun _ hk => by grind))), (Xr.Rd_string (P := Try.prog) Try.underlying26 Try.underlying5 Try.underlying9 (Xr.Rd_R (by (with_reducible repeat (first | apply Kd.R_alloc | apply Kd.R_drewN | apply Kd.R_drew)); first | exact HO298.out | exact Kd.R_mono HO298.out (fun _ hk => by grind))))⟩ (fun hHeld => ?_); refine with_tabW fountainlaw14_RecordTells.tab8 fountainlaw14_RecordTells.bits8 (fun HT_ HW_ => ?_)
         generalize w45.drew = w46 at HO298 HO301 HO313 HO327 BK293 BK315 BK329 HB hHeld ⊢
         refine run_ [(2, false, some 46), (0, true, some 44)] (n := 2) (ms 24 5) rfl HT_.out HW_.out (by kernel_rfl) (fun _ _ _ _ h => h) hHeld ?_
         repeat (first | (refine Run.p (v := ?_) (a' := ?_) rfl rfl (Or.inl ⟨by rfl, ?_⟩) ?_ ?_; rotate_left; (focus intro w'; go_simp; with_reducible rfl); rotate_left; (focus simp only [Act.put, List.setIfInBounds_toArray, List.set_cons_zero, List.set_cons_succ, i64_w, i32_w]; rfl)) | (refine Run.t (v := ?_) (a' := ?_) rfl rfl (Or.inl ⟨by rfl, ?_⟩) ?_ ?_; rotate_left; (focus rintro w' ⟨s0, s1, s2, s3, s4, s5, s6, s7, s8, s9, s10, s11, s12, s13, s14, s15, s16, s17, s18, s19, s20, s21, s22, s23, s24, s25, s26, s27, s28, s29, s30, s31⟩; go_simp; with_reducible rfl); rotate_left; (focus simp only [Act.put, List.setIfInBounds_toArray, List.set_cons_zero, List.set_cons_succ, i64_w, i32_w]; rfl)))
         refine Run.nil ?_
         refine one_ (i := 1) (N := some 45) (ms 24 7) rfl rfl (one_of HT_.out (by kernel_rfl)) (by decide) (fun K hK => ?_)
         refine goes_ Try.func14 (by kernel_rfl) rfl #[.agg #[.int .i64 a0_0, .int .i64 a0_1, .int .i64 a0_2, .int .i64 a0_3, .int .i64 a0_4, .int .i64 a0_5, .int .i64 a0_6, .bool a0_7, .int .i64 a0_8, .slice A0_9 l0_9.length c0_9]] (by rfl) rfl rfl (by (try simp only [List.map_toArray, List.map_cons, List.map_nil]); first | done | rfl | (simp only [List.length_drop, List.length_take]; rfl)) ?_
         with_reducible refine (record_Right.calls kj3 a0_0 a0_1 a0_2 a0_3 a0_4 a0_5 a0_6 a0_7 a0_8 _ _ l0_9 t330 _ ?side1 ?side2 A35.out).mono ?_
         (case side1 => repeat (first | exact (Kd.C_below HR0_9.out HB.out) | (with_reducible refine Kd.C_alloc ?_ _) | (with_reducible refine Kd.C_drewN ?_ _) | (with_reducible refine Kd.C_drew ?_)))
         (case side2 => exact HC0_9.out)
         rintro e w47 ⟨rfl, hb⟩
         have HS30_ := Xr.Rd_below (hHeld.2.2.2.2.2.2.2.2.2.2.2.2.2.2.2.2.2.2.2.2.2.2.2.2.2.2.2.2.2.2.1) hb
         have HS31_ := Xr.Rd_string (P := Try.prog) Try.underlying26 Try.underlying5 Try.underlying9 (Xr.Rd_below (hHeld.2.2.2.2.2.2.2.2.2.2.2.2.2.2.2.2.2.2.2.2.2.2.2.2.2.2.2.2.2.2.1) hb)
         refine ⟨_, rfl, ?_⟩
         have n0_ := Aside0.mk (Kd.R_below (by (with_reducible repeat (first | apply Kd.R_alloc | apply Kd.R_drewN | apply Kd.R_drew)); first | exact HO298.out | exact Kd.R_mono HO298.out (fun _ hk => by grind)) hb)
         have n1_ := Aside0.mk (Kd.R_below (by (with_reducible repeat (first | apply Kd.R_alloc | apply Kd.R_drewN | apply Kd.R_drew)); first | exact HO301.out | exact Kd.R_mono HO301.out (fun _ hk => by grind)) hb)
         have n2_ := Aside0.mk (Kd.R_below (by (with_reducible repeat (first | apply Kd.R_alloc | apply Kd.R_drewN | apply Kd.R_drew)); first | exact HO313.out | exact Kd.R_mono HO313.out (fun _ hk => by grind)) hb)
         have n3_ := Aside0.mk (Kd.R_below (by (with_reducible repeat (first | apply Kd.R_alloc | apply Kd.R_drewN | apply Kd.R_drew)); first | exact HO327.out | exact Kd.R_mono HO327.out (fun _ hk => by grind)) hb)
         have n4_ := Aside0.mk (blk_below (g := gb293) (o := .cells #[.int .i64 a0_0, .int .i64 a0_1, .int .i64 a0_2, .int .i64 a0_3, .int .i64 a0_4, .int .i64 a0_5, .int .i64 a0_6, .bool a0_7, .int .i64 a0_8, .slice A0_9 l0_9.length c0_9] 28 (0, 0)) (blk_g BK293.out) hb)
         have n5_ := Aside0.mk (blk_below (g := gb315) (o := .cells #[.int .i64 t302, .int .i64 t303, .int .i64 t304, .int .i64 t305, .int .i64 t306, .int .i64 t307, .int .i64 t308, .bool t309, .int .i64 t310, .slice Ao28 t311.length co28] 28 (0, 0)) (blk_g BK315.out) hb)
         have n6_ := Aside0.mk (blk_below (g := gb329) (o := .cells #[.int .i64 t316, .int .i64 t317, .int .i64 t318, .int .i64 t319, .int .i64 t320, .int .i64 t321, .int .i64 t322, .bool t323, .int .i64 t324, .slice Ao34 t325.length co34] 28 (0, 0)) (blk_g BK329.out) hb)
         have n7_ := Aside0.mk (belt hb)
         clear HO298
         clear HO301
         clear HO313
         clear HO327
         clear BK293
         clear BK315
         clear BK329
         clear HB
         have HO298 := n0_
         have HO301 := n1_
         have HO313 := n2_
         have HO327 := n3_
         have BK293 := n4_
         have BK315 := n5_
         have BK329 := n6_
         have HB := n7_
         clear n0_ n1_ n2_ n3_ n4_ n5_ n6_ n7_
         (try clear hb)
         (try clear hb2)
         (try clear hk)
         (try clear hi)
         refine hK.out _ _ ⟨(blk_cell BK293.out 0).trans rfl, (blk_cell BK293.out 1).trans rfl, (blk_cell BK293.out 2).trans rfl, (blk_cell BK293.out 3).trans rfl, (blk_cell BK293.out 4).trans rfl, (blk_cell BK293.out 5).trans rfl, (blk_cell BK293.out 6).trans rfl, (blk_cell BK293.out 7).trans rfl, (blk_cell BK293.out 8).trans rfl, (blk_cell BK293.out 9).trans rfl, (blk_cell BK315.out 0).trans rfl, (blk_cell BK315.out 1).trans rfl, (blk_cell BK315.out 2).trans rfl, (blk_cell BK315.out 3).trans rfl, (blk_cell BK315.out 4).trans rfl, (blk_cell BK315.out 5).trans rfl, (blk_cell BK315.out 6).trans rfl, (blk_cell BK315.out 7).trans rfl, (blk_cell BK315.out 8).trans rfl, (blk_cell BK315.out 9).trans rfl, (blk_cell BK329.out 0).trans rfl, (blk_cell BK329.out 1).trans rfl, (blk_cell BK329.out 2).trans rfl, (blk_cell BK329.out 3).trans rfl, (blk_cell BK329.out 4).trans rfl, (blk_cell BK329.out 5).trans rfl, (blk_cell BK329.out 6).trans rfl, (blk_cell BK329.out 7).trans rfl, (blk_cell BK329.out 8).trans rfl, (blk_cell BK329.out 9).trans rfl, HS30_, HS31_⟩ (fun hHeld => ?_)
         clear hK K
         refine norm_ (a' := ?_) ?_ ?_
         rotate_left
         ·show Act.put _ (some 45) _ = _
          simp only [Act.put, List.setIfInBounds_toArray, List.set_cons_zero, List.set_cons_succ, i64_w, i32_w]
          rfl
         refine run_ [(3, false, some 47), (4, false, some 48), (5, false, some 49), (6, true, some 50), (7, true, some 51)] (n := 5) (ms 24 255) rfl HT_.out HW_.out (by kernel_rfl) (fun _ _ _ _ h => h) hHeld ?_
         repeat (first | (refine Run.p (v := ?_) (a' := ?_) rfl rfl (Or.inl ⟨by rfl, ?_⟩) ?_ ?_; rotate_left; (focus intro w'; go_simp; with_reducible rfl); rotate_left; (focus simp only [Act.put, List.setIfInBounds_toArray, List.set_cons_zero, List.set_cons_succ, i64_w, i32_w]; rfl)) | (refine Run.t (v := ?_) (a' := ?_) rfl rfl (Or.inl ⟨by rfl, ?_⟩) ?_ ?_; rotate_left; (focus rintro w' ⟨s0, s1, s2, s3, s4, s5, s6, s7, s8, s9, s10, s11, s12, s13, s14, s15, s16, s17, s18, s19, s20, s21, s22, s23, s24, s25, s26, s27, s28, s29, s30, s31⟩; go_simp; with_reducible rfl); rotate_left; (focus simp only [Act.put, List.setIfInBounds_toArray, List.set_cons_zero, List.set_cons_succ, i64_w, i32_w]; rfl)))
         refine Run.nil ?_
         refine one_ (i := 8) (N := some 52) (ms 24 511) rfl rfl (one_of HT_.out (by kernel_rfl)) (by decide) (fun K hK => ?_)
         refine goes_ Try.func15 (by kernel_rfl) rfl #[.agg #[.int .i64 a0_0, .int .i64 a0_1, .int .i64 a0_2, .int .i64 a0_3, .int .i64 a0_4, .int .i64 a0_5, .int .i64 a0_6, .bool a0_7, .int .i64 a0_8, .slice A0_9 l0_9.length c0_9]] (by rfl) rfl rfl (by (try simp only [List.map_toArray, List.map_cons, List.map_nil]); first | done | rfl | (simp only [List.length_drop, List.length_take]; rfl)) ?_
         with_reducible refine (fountainref14_RecordBytes.calls kj3 a0_0 a0_1 a0_2 a0_3 a0_4 a0_5 a0_6 a0_7 a0_8 _ _ l0_9 t331 _ ?side1 ?side2 A40.out).mono ?_
         (case side1 => repeat (first | exact (Kd.C_below HR0_9.out HB.out) | (with_reducible refine Kd.C_alloc ?_ _) | (with_reducible refine Kd.C_drewN ?_ _) | (with_reducible refine Kd.C_drew ?_)))
         (case side2 => exact HC0_9.out)
         rintro e w48 ⟨v332, rfl, ho0, hb⟩
         have HS30_ := Xr.Rd_below (hHeld.2.2.2.2.2.2.2.2.2.2.2.2.2.2.2.2.2.2.2.2.2.2.2.2.2.2.2.2.2.2.1) hb
         have HS31_ := Xr.Rd_string (P := Try.prog) Try.underlying26 Try.underlying5 Try.underlying9 (Xr.Rd_below (hHeld.2.2.2.2.2.2.2.2.2.2.2.2.2.2.2.2.2.2.2.2.2.2.2.2.2.2.2.2.2.2.1) hb)
         refine ⟨_, rfl, ?_⟩
         have n0_ := Aside0.mk (Kd.R_elder' (by (with_reducible repeat (first | apply Kd.R_alloc | apply Kd.R_drewN | apply Kd.R_drew)); first | exact HO298.out | exact Kd.R_mono HO298.out (fun _ hk => by grind)) (Kd.R_base ho0) hb)
         have n1_ := Aside0.mk (Kd.R_elder' (by (with_reducible repeat (first | apply Kd.R_alloc | apply Kd.R_drewN | apply Kd.R_drew)); first | exact HO301.out | exact Kd.R_mono HO301.out (fun _ hk => by grind)) (Kd.R_base ho0) hb)
         have n2_ := Aside0.mk (Kd.R_elder' (by (with_reducible repeat (first | apply Kd.R_alloc | apply Kd.R_drewN | apply Kd.R_drew)); first | exact HO313.out | exact Kd.R_mono HO313.out (fun _ hk => by grind)) (Kd.R_base ho0) hb)
         have n3_ := Aside0.mk (Kd.R_elder' (by (with_reducible repeat (first | apply Kd.R_alloc | apply Kd.R_drewN | apply Kd.R_drew)); first | exact HO327.out | exact Kd.R_mono HO327.out (fun _ hk => by grind)) (Kd.R_base ho0) hb)
         have n4_ := Aside0.mk (Kd.R_lower (Kd.R_new' (Kd.R_new' (Kd.R_new' (Kd.R_new' ho0 (Kd.R_lt (by (with_reducible repeat (first | apply Kd.R_alloc | apply Kd.R_drewN | apply Kd.R_drew)); first | exact HO298.out | exact Kd.R_mono HO298.out (fun _ hk => by grind)))) (Kd.R_lt (by (with_reducible repeat (first | apply Kd.R_alloc | apply Kd.R_drewN | apply Kd.R_drew)); first | exact HO301.out | exact Kd.R_mono HO301.out (fun _ hk => by grind)))) (Kd.R_lt (by (with_reducible repeat (first | apply Kd.R_alloc | apply Kd.R_drewN | apply Kd.R_drew)); first | exact HO313.out | exact Kd.R_mono HO313.out (fun _ hk => by grind)))) (Kd.R_lt (by (with_reducible repeat (first | apply Kd.R_alloc | apply Kd.R_drewN | apply Kd.R_drew)); first | exact HO327.out | exact Kd.R_mono HO327.out (fun _ hk => by grind)))) bels)
         have n5_ := Aside0.mk (blk_below (g := gb293) (o := .cells #[.int .i64 a0_0, .int .i64 a0_1, .int .i64 a0_2, .int .i64 a0_3, .int .i64 a0_4, .int .i64 a0_5, .int .i64 a0_6, .bool a0_7, .int .i64 a0_8, .slice A0_9 l0_9.length c0_9] 28 (0, 0)) (blk_g BK293.out) hb)
         have n6_ := Aside0.mk (blk_below (g := gb315) (o := .cells #[.int .i64 t302, .int .i64 t303, .int .i64 t304, .int .i64 t305, .int .i64 t306, .int .i64 t307, .int .i64 t308, .bool t309, .int .i64 t310, .slice Ao28 t311.length co28] 28 (0, 0)) (blk_g BK315.out) hb)
         have n7_ := Aside0.mk (blk_below (g := gb329) (o := .cells #[.int .i64 t316, .int .i64 t317, .int .i64 t318, .int .i64 t319, .int .i64 t320, .int .i64 t321, .int .i64 t322, .bool t323, .int .i64 t324, .slice Ao34 t325.length co34] 28 (0, 0)) (blk_g BK329.out) hb)
         have n8_ := Aside0.mk (belt hb)
         clear HO298
         clear HO301
         clear HO313
         clear HO327
         clear BK293
         clear BK315
         clear BK329
         clear HB
         have HO298 := n0_
         have HO301 := n1_
         have HO313 := n2_
         have HO327 := n3_
         have HO333 := n4_
         have BK293 := n5_
         have BK315 := n6_
         have BK329 := n7_
         have HB := n8_
         clear n0_ n1_ n2_ n3_ n4_ n5_ n6_ n7_ n8_
         (try clear hb)
         (try clear hb2)
         (try clear hk)
         (try clear hi)
         (try clear ho0)
         refine hK.out _ _ ⟨(blk_cell BK293.out 0).trans rfl, (blk_cell BK293.out 1).trans rfl, (blk_cell BK293.out 2).trans rfl, (blk_cell BK293.out 3).trans rfl, (blk_cell BK293.out 4).trans rfl, (blk_cell BK293.out 5).trans rfl, (blk_cell BK293.out 6).trans rfl, (blk_cell BK293.out 7).trans rfl, (blk_cell BK293.out 8).trans rfl, (blk_cell BK293.out 9).trans rfl, (blk_cell BK315.out 0).trans rfl, (blk_cell BK315.out 1).trans rfl, (blk_cell BK315.out 2).trans rfl, (blk_cell BK315.out 3).trans rfl, (blk_cell BK315.out 4).trans rfl, (blk_cell BK315.out 5).trans rfl, (blk_cell BK315.out 6).trans rfl, (blk_cell BK315.out 7).trans rfl, (blk_cell BK315.out 8).trans rfl, (blk_cell BK315.out 9).trans rfl, (blk_cell BK329.out 0).trans rfl, (blk_cell BK329.out 1).trans rfl, (blk_cell BK329.out 2).trans rfl, (blk_cell BK329.out 3).trans rfl, (blk_cell BK329.out 4).trans rfl, (blk_cell BK329.out 5).trans rfl, (blk_cell BK329.out 6).trans rfl, (blk_cell BK329.out 7).trans rfl, (blk_cell BK329.out 8).trans rfl, (blk_cell BK329.out 9).trans rfl, HS30_, HS31_⟩ (fun hHeld => ?_)
         clear hK K
         refine norm_ (a' := ?_) ?_ ?_
         rotate_left
         ·show Act.put _ (some 52) _ = _
          simp only [Act.put, List.setIfInBounds_toArray, List.set_cons_zero, List.set_cons_succ, i64_w, i32_w]
          rfl
         refine one_ (i := 9) (N := some 53) (ms 24 1023) rfl rfl (one_of HT_.out (by kernel_rfl)) (by decide) (fun K hK => ?_)
         have hcv49 := own_string (P := Try.prog) Try.underlying26 Try.underlying5 Try.underlying9 (Kd.own_of_R HO333.out)
         refine value_ (w1 := ?_) (v := ?_) (by rfl) rfl ?_ ?_
         rotate_left 2
         ·go_simp
          constructor
          ·rfl
          ·rfl
         clear hcv49
         refine hK.out _ _ ⟨(blk_cell BK293.out 0).trans rfl, (blk_cell BK293.out 1).trans rfl, (blk_cell BK293.out 2).trans rfl, (blk_cell BK293.out 3).trans rfl, (blk_cell BK293.out 4).trans rfl, (blk_cell BK293.out 5).trans rfl, (blk_cell BK293.out 6).trans rfl, (blk_cell BK293.out 7).trans rfl, (blk_cell BK293.out 8).trans rfl, (blk_cell BK293.out 9).trans rfl, (blk_cell BK315.out 0).trans rfl, (blk_cell BK315.out 1).trans rfl, (blk_cell BK315.out 2).trans rfl, (blk_cell BK315.out 3).trans rfl, (blk_cell BK315.out 4).trans rfl, (blk_cell BK315.out 5).trans rfl, (blk_cell BK315.out 6).trans rfl, (blk_cell BK315.out 7).trans rfl, (blk_cell BK315.out 8).trans rfl, (blk_cell BK315.out 9).trans rfl, (blk_cell BK329.out 0).trans rfl, (blk_cell BK329.out 1).trans rfl, (blk_cell BK329.out 2).trans rfl, (blk_cell BK329.out 3).trans rfl, (blk_cell BK329.out 4).trans rfl, (blk_cell BK329.out 5).trans rfl, (blk_cell BK329.out 6).trans rfl, (blk_cell BK329.out 7).trans rfl, (blk_cell BK329.out 8).trans rfl, (blk_cell BK329.out 9).trans rfl, hHeld.2.2.2.2.2.2.2.2.2.2.2.2.2.2.2.2.2.2.2.2.2.2.2.2.2.2.2.2.2.2.1, hHeld.2.2.2.2.2.2.2.2.2.2.2.2.2.2.2.2.2.2.2.2.2.2.2.2.2.2.2.2.2.2.2⟩ (fun hHeld => ?_)
         clear hK K
         refine norm_ (a' := ?_) ?_ ?_
         rotate_left
         ·show Act.put _ (some 53) _ = _
          simp only [Act.put, List.setIfInBounds_toArray, List.set_cons_zero, List.set_cons_succ, i64_w, i32_w]
          rfl
         refine run_ [(10, false, some 54), (11, false, some 55), (12, false, some 56), (13, true, some 57), (14, true, some 58)] (n := 5) (ms 24 32767) rfl HT_.out HW_.out (by kernel_rfl) (fun _ _ _ _ h => h) hHeld ?_
         repeat (first | (refine Run.p (v := ?_) (a' := ?_) rfl rfl (Or.inl ⟨by rfl, ?_⟩) ?_ ?_; rotate_left; (focus intro w'; go_simp; with_reducible rfl); rotate_left; (focus simp only [Act.put, List.setIfInBounds_toArray, List.set_cons_zero, List.set_cons_succ, i64_w, i32_w]; rfl)) | (refine Run.t (v := ?_) (a' := ?_) rfl rfl (Or.inl ⟨by rfl, ?_⟩) ?_ ?_; rotate_left; (focus rintro w' ⟨s0, s1, s2, s3, s4, s5, s6, s7, s8, s9, s10, s11, s12, s13, s14, s15, s16, s17, s18, s19, s20, s21, s22, s23, s24, s25, s26, s27, s28, s29, s30, s31⟩; go_simp; with_reducible rfl); rotate_left; (focus simp only [Act.put, List.setIfInBounds_toArray, List.set_cons_zero, List.set_cons_succ, i64_w, i32_w]; rfl)))
         refine Run.nil ?_
         refine one_ (i := 15) (N := some 59) (ms 24 65535) rfl rfl (one_of HT_.out (by kernel_rfl)) (by decide) (fun K hK => ?_)
         refine goes_ Try.func16 (by kernel_rfl) rfl #[.agg #[.int .i64 t302, .int .i64 t303, .int .i64 t304, .int .i64 t305, .int .i64 t306, .int .i64 t307, .int .i64 t308, .bool t309, .int .i64 t310, .slice Ao28 t311.length co28], .agg #[.int .i64 t316, .int .i64 t317, .int .i64 t318, .int .i64 t319, .int .i64 t320, .int .i64 t321, .int .i64 t322, .bool t323, .int .i64 t324, .slice Ao34 t325.length co34]] (by rfl) rfl rfl (by (try simp only [List.map_toArray, List.map_cons, List.map_nil]); first | done | rfl | (simp only [List.length_drop, List.length_take]; rfl)) ?_
         with_reducible refine (fountainref14_SameRecord.calls t302 t303 t304 t305 t306 t307 t308 t309 t310 _ _ t311 t316 t317 t318 t319 t320 t321 t322 t323 t324 _ _ t325 true _ ?side1 ?side2 ?side3 ?side4 A42.out).mono ?_
         (case side1 => repeat (first | exact (Kd.R_reads' HO313.out).2.2 | (with_reducible refine Kd.C_alloc ?_ _) | (with_reducible refine Kd.C_drewN ?_ _) | (with_reducible refine Kd.C_drew ?_)))
         (case side2 => exact (Kd.R_reads' HO313.out).2.1)
         (case side3 => repeat (first | exact (Kd.R_reads' HO327.out).2.2 | (with_reducible refine Kd.C_alloc ?_ _) | (with_reducible refine Kd.C_drewN ?_ _) | (with_reducible refine Kd.C_drew ?_)))
         (case side4 => exact (Kd.R_reads' HO327.out).2.1)
         rintro e w50 ⟨rfl, hb⟩
         have HS30_ := Xr.Rd_below (hHeld.2.2.2.2.2.2.2.2.2.2.2.2.2.2.2.2.2.2.2.2.2.2.2.2.2.2.2.2.2.2.1) hb
         have HS31_ := Xr.Rd_string (P := Try.prog) Try.underlying26 Try.underlying5 Try.underlying9 (Xr.Rd_below (hHeld.2.2.2.2.2.2.2.2.2.2.2.2.2.2.2.2.2.2.2.2.2.2.2.2.2.2.2.2.2.2.1) hb)
         refine ⟨_, rfl, ?_⟩
         have n0_ := Aside0.mk (Kd.R_below (by (with_reducible repeat (first | apply Kd.R_alloc | apply Kd.R_drewN | apply Kd.R_drew)); first | exact HO298.out | exact Kd.R_mono HO298.out (fun _ hk => by grind)) hb)
         have n1_ := Aside0.mk (Kd.R_below (by (with_reducible repeat (first | apply Kd.R_alloc | apply Kd.R_drewN | apply Kd.R_drew)); first | exact HO301.out | exact Kd.R_mono HO301.out (fun _ hk => by grind)) hb)
         have n2_ := Aside0.mk (Kd.R_below (by (with_reducible repeat (first | apply Kd.R_alloc | apply Kd.R_drewN | apply Kd.R_drew)); first | exact HO313.out | exact Kd.R_mono HO313.out (fun _ hk => by grind)) hb)
         have n3_ := Aside0.mk (Kd.R_below (by (with_reducible repeat (first | apply Kd.R_alloc | apply Kd.R_drewN | apply Kd.R_drew)); first | exact HO327.out | exact Kd.R_mono HO327.out (fun _ hk => by grind)) hb)
         have n4_ := Aside0.mk (Kd.R_below (by (with_reducible repeat (first | apply Kd.R_alloc | apply Kd.R_drewN | apply Kd.R_drew)); first | exact HO333.out | exact Kd.R_mono HO333.out (fun _ hk => by grind)) hb)
         have n5_ := Aside0.mk (blk_below (g := gb293) (o := .cells #[.int .i64 a0_0, .int .i64 a0_1, .int .i64 a0_2, .int .i64 a0_3, .int .i64 a0_4, .int .i64 a0_5, .int .i64 a0_6, .bool a0_7, .int .i64 a0_8, .slice A0_9 l0_9.length c0_9] 28 (0, 0)) (blk_g BK293.out) hb)
         have n6_ := Aside0.mk (blk_below (g := gb315) (o := .cells #[.int .i64 t302, .int .i64 t303, .int .i64 t304, .int .i64 t305, .int .i64 t306, .int .i64 t307, .int .i64 t308, .bool t309, .int .i64 t310, .slice Ao28 t311.length co28] 28 (0, 0)) (blk_g BK315.out) hb)
         have n7_ := Aside0.mk (blk_below (g := gb329) (o := .cells #[.int .i64 t316, .int .i64 t317, .int .i64 t318, .int .i64 t319, .int .i64 t320, .int .i64 t321, .int .i64 t322, .bool t323, .int .i64 t324, .slice Ao34 t325.length co34] 28 (0, 0)) (blk_g BK329.out) hb)
         have n8_ := Aside0.mk (belt hb)
         clear HO298
         clear HO301
         clear HO313
         clear HO327
         clear HO333
         clear BK293
         clear BK315
         clear BK329
         clear HB
         have HO298 := n0_
         have HO301 := n1_
         have HO313 := n2_
         have HO327 := n3_
         have HO333 := n4_
         have BK293 := n5_
         have BK315 := n6_
         have BK329 := n7_
         have HB := n8_
         clear n0_ n1_ n2_ n3_ n4_ n5_ n6_ n7_ n8_
         (try clear hb)
         (try clear hb2)
         (try clear hk)
         (try clear hi)
         refine hK.out _ _ ⟨(blk_cell BK293.out 0).trans rfl, (blk_cell BK293.out 1).trans rfl, (blk_cell BK293.out 2).trans rfl, (blk_cell BK293.out 3).trans rfl, (blk_cell BK293.out 4).trans rfl, (blk_cell BK293.out 5).trans rfl, (blk_cell BK293.out 6).trans rfl, (blk_cell BK293.out 7).trans rfl, (blk_cell BK293.out 8).trans rfl, (blk_cell BK293.out 9).trans rfl, (blk_cell BK315.out 0).trans rfl, (blk_cell BK315.out 1).trans rfl, (blk_cell BK315.out 2).trans rfl, (blk_cell BK315.out 3).trans rfl, (blk_cell BK315.out 4).trans rfl, (blk_cell BK315.out 5).trans rfl, (blk_cell BK315.out 6).trans rfl, (blk_cell BK315.out 7).trans rfl, (blk_cell BK315.out 8).trans rfl, (blk_cell BK315.out 9).trans rfl, (blk_cell BK329.out 0).trans rfl, (blk_cell BK329.out 1).trans rfl, (blk_cell BK329.out 2).trans rfl, (blk_cell BK329.out 3).trans rfl, (blk_cell BK329.out 4).trans rfl, (blk_cell BK329.out 5).trans rfl, (blk_cell BK329.out 6).trans rfl, (blk_cell BK329.out 7).trans rfl, (blk_cell BK329.out 8).trans rfl, (blk_cell BK329.out 9).trans rfl, HS30_, HS31_⟩ (fun hHeld => ?_)
         clear hK K
         refine norm_ (a' := ?_) ?_ ?_
         rotate_left
         ·show Act.put _ (some 59) _ = _
          simp only [Act.put, List.setIfInBounds_toArray, List.set_cons_zero, List.set_cons_succ, i64_w, i32_w]
          rfl
         refine run_ [(16, false, some 60), (17, false, some 61), (18, false, some 62), (19, false, some 63), (21, false, some 65)] (n := 5) (ms 24 3145727) rfl HT_.out HW_.out (by kernel_rfl) (fun _ _ _ _ h => h) hHeld ?_
         repeat (refine Run.p (v := ?_) (a' := ?_) rfl rfl (Or.inl ⟨by rfl, ?_⟩) ?_ ?_; rotate_left; (focus intro w'; go_simp; with_reducible rfl); rotate_left; (focus simp only [Act.put, List.setIfInBounds_toArray, List.set_cons_zero, List.set_cons_succ, i64_w, i32_w]; rfl))
         refine Run.nil ?_
         refine one_ (i := 20) (N := some 64) (ms 24 4194303) rfl rfl (one_of HT_.out (by kernel_rfl)) (by decide) (fun K hK => ?_)
         refine goes_ Try.func17 (by kernel_rfl) rfl #[.int .i64 t314] (by rfl) rfl rfl (by (try simp only [List.map_toArray, List.map_cons, List.map_nil]); first | done | rfl | (simp only [List.length_drop, List.length_take]; rfl)) ?_
         with_reducible refine (fountainlaw14_num.calls t314 t335 _ A44.out).mono ?_
         rintro e w' ⟨rfl, ⟨nd, rfl⟩⟩
         refine ⟨_, rfl, ?_⟩
         refine hK.out _ _ ⟨(blk_cell BK293.out 0).trans rfl, (blk_cell BK293.out 1).trans rfl, (blk_cell BK293.out 2).trans rfl, (blk_cell BK293.out 3).trans rfl, (blk_cell BK293.out 4).trans rfl, (blk_cell BK293.out 5).trans rfl, (blk_cell BK293.out 6).trans rfl, (blk_cell BK293.out 7).trans rfl, (blk_cell BK293.out 8).trans rfl, (blk_cell BK293.out 9).trans rfl, (blk_cell BK315.out 0).trans rfl, (blk_cell BK315.out 1).trans rfl, (blk_cell BK315.out 2).trans rfl, (blk_cell BK315.out 3).trans rfl, (blk_cell BK315.out 4).trans rfl, (blk_cell BK315.out 5).trans rfl, (blk_cell BK315.out 6).trans rfl, (blk_cell BK315.out 7).trans rfl, (blk_cell BK315.out 8).trans rfl, (blk_cell BK315.out 9).trans rfl, (blk_cell BK329.out 0).trans rfl, (blk_cell BK329.out 1).trans rfl, (blk_cell BK329.out 2).trans rfl, (blk_cell BK329.out 3).trans rfl, (blk_cell BK329.out 4).trans rfl, (blk_cell BK329.out 5).trans rfl, (blk_cell BK329.out 6).trans rfl, (blk_cell BK329.out 7).trans rfl, (blk_cell BK329.out 8).trans rfl, (blk_cell BK329.out 9).trans rfl, hHeld.2.2.2.2.2.2.2.2.2.2.2.2.2.2.2.2.2.2.2.2.2.2.2.2.2.2.2.2.2.2.1, Xr.Rd_string (P := Try.prog) Try.underlying26 Try.underlying5 Try.underlying9 (Xr.Rd_below hHeld.2.2.2.2.2.2.2.2.2.2.2.2.2.2.2.2.2.2.2.2.2.2.2.2.2.2.2.2.2.2.1 (pw_below_drewN (Below.refl _ _) _))⟩ (fun hHeld => ?_)
         clear hK K
         refine norm_ (a' := ?_) ?_ ?_
         rotate_left
         ·show Act.put _ (some 64) _ = _
          simp only [Act.put, List.setIfInBounds_toArray, List.set_cons_zero, List.set_cons_succ, i64_w, i32_w]
          rfl
         refine run_ [(22, false, some 66), (23, false, some 67)] (n := 2) (ms 24 16777215) rfl HT_.out HW_.out (by kernel_rfl) (fun _ _ _ _ h => h) hHeld ?_
         repeat (refine Run.p (v := ?_) (a' := ?_) rfl rfl (Or.inl ⟨by rfl, ?_⟩) ?_ ?_; rotate_left; (focus intro w'; go_simp; with_reducible rfl); rotate_left; (focus simp only [Act.put, List.setIfInBounds_toArray, List.set_cons_zero, List.set_cons_succ, i64_w, i32_w]; rfl))
         refine Run.nil ?_
         refine done_ (done_of HT_.out (by kernel_rfl)) ?_
         try go_wp2
         go_meet
         case rel => exact ⟨_, ((t335 != t328)), (by first | rfl | (simp; done) | (simp [*]; done)), H', ⟨by have := HJ3.out; first | omega | exact Nat.le_refl _⟩, ⟨by (with_reducible repeat (first | apply Kd.R_alloc | apply Kd.R_drewN | apply Kd.R_drew)); exact Kd.R_mono HO298.out (fun _ hk => by first | exact ⟨hk.1.2.1, hk.1.2.2⟩ | exact hk | grind)⟩, ⟨by (with_reducible repeat (first | apply Kd.R_alloc | apply Kd.R_drewN | apply Kd.R_drew)); exact Kd.R_mono HO313.out (fun _ hk => by first | exact ⟨hk.1.1, hk.1.2.2⟩ | exact hk | grind)⟩, ⟨by (with_reducible repeat (first | apply Kd.R_alloc | apply Kd.R_drewN | apply Kd.R_drew)); exact Kd.R_mono HO327.out (fun _ hk => by first | exact ⟨hk.1.1, hk.1.2.2⟩ | exact hk | grind)⟩, ⟨by (with_reducible repeat (first | refine blk_drewN ?_ _ | refine blk_drew ?_ | refine blk_alloc ?_ _)); exact BK293.out⟩, ⟨by (with_reducible repeat (first | refine blk_drewN ?_ _ | refine blk_drew ?_ | refine blk_alloc ?_ _)); exact BK315.out⟩, ⟨by (with_reducible repeat (first | refine blk_drewN ?_ _ | refine blk_drew ?_ | refine blk_alloc ?_ _)); exact BK329.out⟩, ⟨bel⟩⟩
        ·replace c43 := Bool.eq_false_iff.mpr c43
         subst c43
         have H1 : (fountainlaw14_RecordTells.j1 kj3 t295 t296 true a0_0 a0_1 a0_2 a0_3 a0_4 a0_5 a0_6 a0_7 a0_8 l0_9) = some r := by rw [if_neg (show ¬ (false = true) by decide)] at H; exact H
         clear H
         have H := H1
         clear H1
         have H' := Aside0.mk H
         clear H
         try go_wp2
         have n0_ : Aside0 (Kd.R (Kd.int .u8) 5 ((((((((((w30.setCell ⟨gb329, 0, none⟩ (.int .i64 t316)).setCell ⟨gb329, 1, none⟩ (.int .i64 t317)).setCell ⟨gb329, 2, none⟩ (.int .i64 t318)).setCell ⟨gb329, 3, none⟩ (.int .i64 t319)).setCell ⟨gb329, 4, none⟩ (.int .i64 t320)).setCell ⟨gb329, 5, none⟩ (.int .i64 t321)).setCell ⟨gb329, 6, none⟩ (.int .i64 t322)).setCell ⟨gb329, 7, none⟩ (.bool t323)).setCell ⟨gb329, 8, none⟩ (.int .i64 t324)).setCell ⟨gb329, 9, none⟩ (.slice Ao34 t325.length co34)) w.heap.size (fun k_ => some k_ ≠ (.slice Ao23 y299.length co23 : Value).ownBlock ∧ some k_ ≠ (.slice Ao28 t311.length co28 : Value).ownBlock ∧ some k_ ≠ (.slice Ao34 t325.length co34 : Value).ownBlock) v297 t296) := ⟨by (with_reducible repeat (first | apply Kd.R_alloc | apply Kd.R_drewN | apply Kd.R_drew)); exact Kd.R_mono (Kd.R_far (p := ⟨gb329, 9, none⟩) (Kd.R_far (p := ⟨gb329, 8, none⟩) (Kd.R_far (p := ⟨gb329, 7, none⟩) (Kd.R_far (p := ⟨gb329, 6, none⟩) (Kd.R_far (p := ⟨gb329, 5, none⟩) (Kd.R_far (p := ⟨gb329, 4, none⟩) (Kd.R_far (p := ⟨gb329, 3, none⟩) (Kd.R_far (p := ⟨gb329, 2, none⟩) (Kd.R_far (p := ⟨gb329, 1, none⟩) (Kd.R_far (p := ⟨gb329, 0, none⟩) (Kd.R_types HO298.out BK329.out (by decide)) (fun _ hk => by first | exact hk.2 | exact hk | grind) (.int .i64 t316)) (fun _ hk => by first | exact hk.2 | exact hk | grind) (.int .i64 t317)) (fun _ hk => by first | exact hk.2 | exact hk | grind) (.int .i64 t318)) (fun _ hk => by first | exact hk.2 | exact hk | grind) (.int .i64 t319)) (fun _ hk => by first | exact hk.2 | exact hk | grind) (.int .i64 t320)) (fun _ hk => by first | exact hk.2 | exact hk | grind) (.int .i64 t321)) (fun _ hk => by first | exact hk.2 | exact hk | grind) (.int .i64 t322)) (fun _ hk => by first | exact hk.2 | exact hk | grind) (.bool t323)) (fun _ hk => by first | exact hk.2 | exact hk | grind) (.int .i64 t324)) (fun _ hk => by first | exact hk.2 | exact hk | grind) (.slice Ao34 t325.length co34)) (fun _ hk => by first | exact ⟨hk.1.1.1.2, ⟨hk.1.1.2, hk.1.2⟩⟩ | exact hk | grind)⟩
         have n1_ : Aside0 (Kd.R (Kd.int .u8) 5 ((((((((((w30.setCell ⟨gb329, 0, none⟩ (.int .i64 t316)).setCell ⟨gb329, 1, none⟩ (.int .i64 t317)).setCell ⟨gb329, 2, none⟩ (.int .i64 t318)).setCell ⟨gb329, 3, none⟩ (.int .i64 t319)).setCell ⟨gb329, 4, none⟩ (.int .i64 t320)).setCell ⟨gb329, 5, none⟩ (.int .i64 t321)).setCell ⟨gb329, 6, none⟩ (.int .i64 t322)).setCell ⟨gb329, 7, none⟩ (.bool t323)).setCell ⟨gb329, 8, none⟩ (.int .i64 t324)).setCell ⟨gb329, 9, none⟩ (.slice Ao34 t325.length co34)) w.heap.size (fun k_ => some k_ ≠ (v297 : Value).ownBlock ∧ some k_ ≠ (.slice Ao28 t311.length co28 : Value).ownBlock ∧ some k_ ≠ (.slice Ao34 t325.length co34 : Value).ownBlock) (.slice Ao23 y299.length co23) y299) := ⟨by (with_reducible repeat (first | apply Kd.R_alloc | apply Kd.R_drewN | apply Kd.R_drew)); exact Kd.R_mono (Kd.R_far (p := ⟨gb329, 9, none⟩) (Kd.R_far (p := ⟨gb329, 8, none⟩) (Kd.R_far (p := ⟨gb329, 7, none⟩) (Kd.R_far (p := ⟨gb329, 6, none⟩) (Kd.R_far (p := ⟨gb329, 5, none⟩) (Kd.R_far (p := ⟨gb329, 4, none⟩) (Kd.R_far (p := ⟨gb329, 3, none⟩) (Kd.R_far (p := ⟨gb329, 2, none⟩) (Kd.R_far (p := ⟨gb329, 1, none⟩) (Kd.R_far (p := ⟨gb329, 0, none⟩) (Kd.R_types HO301.out BK329.out (by decide)) (fun _ hk => by first | exact hk.2 | exact hk | grind) (.int .i64 t316)) (fun _ hk => by first | exact hk.2 | exact hk | grind) (.int .i64 t317)) (fun _ hk => by first | exact hk.2 | exact hk | grind) (.int .i64 t318)) (fun _ hk => by first | exact hk.2 | exact hk | grind) (.int .i64 t319)) (fun _ hk => by first | exact hk.2 | exact hk | grind) (.int .i64 t320)) (fun _ hk => by first | exact hk.2 | exact hk | grind) (.int .i64 t321)) (fun _ hk => by first | exact hk.2 | exact hk | grind) (.int .i64 t322)) (fun _ hk => by first | exact hk.2 | exact hk | grind) (.bool t323)) (fun _ hk => by first | exact hk.2 | exact hk | grind) (.int .i64 t324)) (fun _ hk => by first | exact hk.2 | exact hk | grind) (.slice Ao34 t325.length co34)) (fun _ hk => by first | exact ⟨hk.1.1.1, ⟨hk.1.1.2, hk.1.2⟩⟩ | exact hk | grind)⟩
         have n2_ : Aside0 (Kd.R (Kd.int .u8) 5 ((((((((((w30.setCell ⟨gb329, 0, none⟩ (.int .i64 t316)).setCell ⟨gb329, 1, none⟩ (.int .i64 t317)).setCell ⟨gb329, 2, none⟩ (.int .i64 t318)).setCell ⟨gb329, 3, none⟩ (.int .i64 t319)).setCell ⟨gb329, 4, none⟩ (.int .i64 t320)).setCell ⟨gb329, 5, none⟩ (.int .i64 t321)).setCell ⟨gb329, 6, none⟩ (.int .i64 t322)).setCell ⟨gb329, 7, none⟩ (.bool t323)).setCell ⟨gb329, 8, none⟩ (.int .i64 t324)).setCell ⟨gb329, 9, none⟩ (.slice Ao34 t325.length co34)) w.heap.size (fun k_ => some k_ ≠ (v297 : Value).ownBlock ∧ some k_ ≠ (.slice Ao23 y299.length co23 : Value).ownBlock ∧ some k_ ≠ (.slice Ao34 t325.length co34 : Value).ownBlock) (.slice Ao28 t311.length co28) t311) := ⟨by (with_reducible repeat (first | apply Kd.R_alloc | apply Kd.R_drewN | apply Kd.R_drew)); exact Kd.R_mono (Kd.R_far (p := ⟨gb329, 9, none⟩) (Kd.R_far (p := ⟨gb329, 8, none⟩) (Kd.R_far (p := ⟨gb329, 7, none⟩) (Kd.R_far (p := ⟨gb329, 6, none⟩) (Kd.R_far (p := ⟨gb329, 5, none⟩) (Kd.R_far (p := ⟨gb329, 4, none⟩) (Kd.R_far (p := ⟨gb329, 3, none⟩) (Kd.R_far (p := ⟨gb329, 2, none⟩) (Kd.R_far (p := ⟨gb329, 1, none⟩) (Kd.R_far (p := ⟨gb329, 0, none⟩) (Kd.R_types HO313.out BK329.out (by decide)) (fun _ hk => by first | exact hk.2 | exact hk | grind) (.int .i64 t316)) (fun _ hk => by first | exact hk.2 | exact hk | grind) (.int .i64 t317)) (fun _ hk => by first | exact hk.2 | exact hk | grind) (.int .i64 t318)) (fun _ hk => by first | exact hk.2 | exact hk | grind) (.int .i64 t319)) (fun _ hk => by first | exact hk.2 | exact hk | grind) (.int .i64 t320)) (fun _ hk => by first | exact hk.2 | exact hk | grind) (.int .i64 t321)) (fun _ hk => by first | exact hk.2 | exact hk | grind) (.int .i64 t322)) (fun _ hk => by first | exact hk.2 | exact hk | grind) (.bool t323)) (fun _ hk => by first | exact hk.2 | exact hk | grind) (.int .i64 t324)) (fun _ hk => by first | exact hk.2 | exact hk | grind) (.slice Ao34 t325.length co34)) (fun _ hk => by first | exact ⟨hk.1.1.1.2, ⟨hk.1.1.2, hk.1.2⟩⟩ | exact hk | grind)⟩
         have n3_ : Aside0 (Kd.R (Kd.int .u8) 5 ((((((((((w30.setCell ⟨gb329, 0, none⟩ (.int .i64 t316)).setCell ⟨gb329, 1, none⟩ (.int .i64 t317)).setCell ⟨gb329, 2, none⟩ (.int .i64 t318)).setCell ⟨gb329, 3, none⟩ (.int .i64 t319)).setCell ⟨gb329, 4, none⟩ (.int .i64 t320)).setCell ⟨gb329, 5, none⟩ (.int .i64 t321)).setCell ⟨gb329, 6, none⟩ (.int .i64 t322)).setCell ⟨gb329, 7, none⟩ (.bool t323)).setCell ⟨gb329, 8, none⟩ (.int .i64 t324)).setCell ⟨gb329, 9, none⟩ (.slice Ao34 t325.length co34)) w.heap.size (fun k_ => some k_ ≠ (v297 : Value).ownBlock ∧ some k_ ≠ (.slice Ao23 y299.length co23 : Value).ownBlock ∧ some k_ ≠ (.slice Ao28 t311.length co28 : Value).ownBlock) (.slice Ao34 t325.length co34) t325) := ⟨by (with_reducible repeat (first | apply Kd.R_alloc | apply Kd.R_drewN | apply Kd.R_drew)); exact Kd.R_mono (Kd.R_far (p := ⟨gb329, 9, none⟩) (Kd.R_far (p := ⟨gb329, 8, none⟩) (Kd.R_far (p := ⟨gb329, 7, none⟩) (Kd.R_far (p := ⟨gb329, 6, none⟩) (Kd.R_far (p := ⟨gb329, 5, none⟩) (Kd.R_far (p := ⟨gb329, 4, none⟩) (Kd.R_far (p := ⟨gb329, 3, none⟩) (Kd.R_far (p := ⟨gb329, 2, none⟩) (Kd.R_far (p := ⟨gb329, 1, none⟩) (Kd.R_far (p := ⟨gb329, 0, none⟩) (Kd.R_types HO327.out BK329.out (by decide)) (fun _ hk => by first | exact hk.2 | exact hk | grind) (.int .i64 t316)) (fun _ hk => by first | exact hk.2 | exact hk | grind) (.int .i64 t317)) (fun _ hk => by first | exact hk.2 | exact hk | grind) (.int .i64 t318)) (fun _ hk => by first | exact hk.2 | exact hk | grind) (.int .i64 t319)) (fun _ hk => by first | exact hk.2 | exact hk | grind) (.int .i64 t320)) (fun _ hk => by first | exact hk.2 | exact hk | grind) (.int .i64 t321)) (fun _ hk => by first | exact hk.2 | exact hk | grind) (.int .i64 t322)) (fun _ hk => by first | exact hk.2 | exact hk | grind) (.bool t323)) (fun _ hk => by first | exact hk.2 | exact hk | grind) (.int .i64 t324)) (fun _ hk => by first | exact hk.2 | exact hk | grind) (.slice Ao34 t325.length co34)) (fun _ hk => by first | exact ⟨hk.1.1.1.2, ⟨hk.1.1.2, hk.1.2⟩⟩ | exact hk | grind)⟩
         have n4_ : Aside0 (((((((((((w30.setCell ⟨gb329, 0, none⟩ (.int .i64 t316)).setCell ⟨gb329, 1, none⟩ (.int .i64 t317)).setCell ⟨gb329, 2, none⟩ (.int .i64 t318)).setCell ⟨gb329, 3, none⟩ (.int .i64 t319)).setCell ⟨gb329, 4, none⟩ (.int .i64 t320)).setCell ⟨gb329, 5, none⟩ (.int .i64 t321)).setCell ⟨gb329, 6, none⟩ (.int .i64 t322)).setCell ⟨gb329, 7, none⟩ (.bool t323)).setCell ⟨gb329, 8, none⟩ (.int .i64 t324)).setCell ⟨gb329, 9, none⟩ (.slice Ao34 t325.length co34)).heap[gb293]? = some (.cells #[.int .i64 a0_0, .int .i64 a0_1, .int .i64 a0_2, .int .i64 a0_3, .int .i64 a0_4, .int .i64 a0_5, .int .i64 a0_6, .bool a0_7, .int .i64 a0_8, .slice A0_9 l0_9.length c0_9] 28 (0, 0))) := ⟨by (with_reducible repeat (first | refine blk_drewN ?_ _ | refine blk_drew ?_ | refine blk_alloc ?_ _)); refine blk_far ?_ NB293_329.out _; (with_reducible repeat (first | refine blk_drewN ?_ _ | refine blk_drew ?_ | refine blk_alloc ?_ _)); refine blk_far ?_ NB293_329.out _; (with_reducible repeat (first | refine blk_drewN ?_ _ | refine blk_drew ?_ | refine blk_alloc ?_ _)); refine blk_far ?_ NB293_329.out _; (with_reducible repeat (first | refine blk_drewN ?_ _ | refine blk_drew ?_ | refine blk_alloc ?_ _)); refine blk_far ?_ NB293_329.out _; (with_reducible repeat (first | refine blk_drewN ?_ _ | refine blk_drew ?_ | refine blk_alloc ?_ _)); refine blk_far ?_ NB293_329.out _; (with_reducible repeat (first | refine blk_drewN ?_ _ | refine blk_drew ?_ | refine blk_alloc ?_ _)); refine blk_far ?_ NB293_329.out _; (with_reducible repeat (first | refine blk_drewN ?_ _ | refine blk_drew ?_ | refine blk_alloc ?_ _)); refine blk_far ?_ NB293_329.out _; (with_reducible repeat (first | refine blk_drewN ?_ _ | refine blk_drew ?_ | refine blk_alloc ?_ _)); refine blk_far ?_ NB293_329.out _; (with_reducible repeat (first | refine blk_drewN ?_ _ | refine blk_drew ?_ | refine blk_alloc ?_ _)); refine blk_far ?_ NB293_329.out _; (with_reducible repeat (first | refine blk_drewN ?_ _ | refine blk_drew ?_ | refine blk_alloc ?_ _)); refine blk_far ?_ NB293_329.out _; (with_reducible repeat (first | refine blk_drewN ?_ _ | refine blk_drew ?_ | refine blk_alloc ?_ _)); exact BK293.out⟩
         have n5_ : Aside0 (((((((((((w30.setCell ⟨gb329, 0, none⟩ (.int .i64 t316)).setCell ⟨gb329, 1, none⟩ (.int .i64 t317)).setCell ⟨gb329, 2, none⟩ (.int .i64 t318)).setCell ⟨gb329, 3, none⟩ (.int .i64 t319)).setCell ⟨gb329, 4, none⟩ (.int .i64 t320)).setCell ⟨gb329, 5, none⟩ (.int .i64 t321)).setCell ⟨gb329, 6, none⟩ (.int .i64 t322)).setCell ⟨gb329, 7, none⟩ (.bool t323)).setCell ⟨gb329, 8, none⟩ (.int .i64 t324)).setCell ⟨gb329, 9, none⟩ (.slice Ao34 t325.length co34)).heap[gb315]? = some (.cells #[.int .i64 t302, .int .i64 t303, .int .i64 t304, .int .i64 t305, .int .i64 t306, .int .i64 t307, .int .i64 t308, .bool t309, .int .i64 t310, .slice Ao28 t311.length co28] 28 (0, 0))) := ⟨by (with_reducible repeat (first | refine blk_drewN ?_ _ | refine blk_drew ?_ | refine blk_alloc ?_ _)); refine blk_far ?_ NB315_329.out _; (with_reducible repeat (first | refine blk_drewN ?_ _ | refine blk_drew ?_ | refine blk_alloc ?_ _)); refine blk_far ?_ NB315_329.out _; (with_reducible repeat (first | refine blk_drewN ?_ _ | refine blk_drew ?_ | refine blk_alloc ?_ _)); refine blk_far ?_ NB315_329.out _; (with_reducible repeat (first | refine blk_drewN ?_ _ | refine blk_drew ?_ | refine blk_alloc ?_ _)); refine blk_far ?_ NB315_329.out _; (with_reducible repeat (first | refine blk_drewN ?_ _ | refine blk_drew ?_ | refine blk_alloc ?_ _)); refine blk_far ?_ NB315_329.out _; (with_reducible repeat (first | refine blk_drewN ?_ _ | refine blk_drew ?_ | refine blk_alloc ?_ _)); refine blk_far ?_ NB315_329.out _; (with_reducible repeat (first | refine blk_drewN ?_ _ | refine blk_drew ?_ | refine blk_alloc ?_ _)); refine blk_far ?_ NB315_329.out _; (with_reducible repeat (first | refine blk_drewN ?_ _ | refine blk_drew ?_ | refine blk_alloc ?_ _)); refine blk_far ?_ NB315_329.out _; (with_reducible repeat (first | refine blk_drewN ?_ _ | refine blk_drew ?_ | refine blk_alloc ?_ _)); refine blk_far ?_ NB315_329.out _; (with_reducible repeat (first | refine blk_drewN ?_ _ | refine blk_drew ?_ | refine blk_alloc ?_ _)); refine blk_far ?_ NB315_329.out _; (with_reducible repeat (first | refine blk_drewN ?_ _ | refine blk_drew ?_ | refine blk_alloc ?_ _)); exact BK315.out⟩
         have n6_ : Aside0 (((((((((((w30.setCell ⟨gb329, 0, none⟩ (.int .i64 t316)).setCell ⟨gb329, 1, none⟩ (.int .i64 t317)).setCell ⟨gb329, 2, none⟩ (.int .i64 t318)).setCell ⟨gb329, 3, none⟩ (.int .i64 t319)).setCell ⟨gb329, 4, none⟩ (.int .i64 t320)).setCell ⟨gb329, 5, none⟩ (.int .i64 t321)).setCell ⟨gb329, 6, none⟩ (.int .i64 t322)).setCell ⟨gb329, 7, none⟩ (.bool t323)).setCell ⟨gb329, 8, none⟩ (.int .i64 t324)).setCell ⟨gb329, 9, none⟩ (.slice Ao34 t325.length co34)).heap[gb329]? = some (.cells #[.int .i64 t316, .int .i64 t317, .int .i64 t318, .int .i64 t319, .int .i64 t320, .int .i64 t321, .int .i64 t322, .bool t323, .int .i64 t324, .slice Ao34 t325.length co34] 28 (0, 0))) := ⟨by (with_reducible repeat (first | refine blk_drewN ?_ _ | refine blk_drew ?_ | refine blk_alloc ?_ _)); refine blk_put (cs := #[.int .i64 t316, .int .i64 t317, .int .i64 t318, .int .i64 t319, .int .i64 t320, .int .i64 t321, .int .i64 t322, .bool t323, .int .i64 t324, .slice none 0 0]) ?_ 9 _ rfl; (with_reducible repeat (first | refine blk_drewN ?_ _ | refine blk_drew ?_ | refine blk_alloc ?_ _)); refine blk_put (cs := #[.int .i64 t316, .int .i64 t317, .int .i64 t318, .int .i64 t319, .int .i64 t320, .int .i64 t321, .int .i64 t322, .bool t323, .int .i64 0, .slice none 0 0]) ?_ 8 _ rfl; (with_reducible repeat (first | refine blk_drewN ?_ _ | refine blk_drew ?_ | refine blk_alloc ?_ _)); refine blk_put (cs := #[.int .i64 t316, .int .i64 t317, .int .i64 t318, .int .i64 t319, .int .i64 t320, .int .i64 t321, .int .i64 t322, .bool false, .int .i64 0, .slice none 0 0]) ?_ 7 _ rfl; (with_reducible repeat (first | refine blk_drewN ?_ _ | refine blk_drew ?_ | refine blk_alloc ?_ _)); refine blk_put (cs := #[.int .i64 t316, .int .i64 t317, .int .i64 t318, .int .i64 t319, .int .i64 t320, .int .i64 t321, .int .i64 0, .bool false, .int .i64 0, .slice none 0 0]) ?_ 6 _ rfl; (with_reducible repeat (first | refine blk_drewN ?_ _ | refine blk_drew ?_ | refine blk_alloc ?_ _)); refine blk_put (cs := #[.int .i64 t316, .int .i64 t317, .int .i64 t318, .int .i64 t319, .int .i64 t320, .int .i64 0, .int .i64 0, .bool false, .int .i64 0, .slice none 0 0]) ?_ 5 _ rfl; (with_reducible repeat (first | refine blk_drewN ?_ _ | refine blk_drew ?_ | refine blk_alloc ?_ _)); refine blk_put (cs := #[.int .i64 t316, .int .i64 t317, .int .i64 t318, .int .i64 t319, .int .i64 0, .int .i64 0, .int .i64 0, .bool false, .int .i64 0, .slice none 0 0]) ?_ 4 _ rfl; (with_reducible repeat (first | refine blk_drewN ?_ _ | refine blk_drew ?_ | refine blk_alloc ?_ _)); refine blk_put (cs := #[.int .i64 t316, .int .i64 t317, .int .i64 t318, .int .i64 0, .int .i64 0, .int .i64 0, .int .i64 0, .bool false, .int .i64 0, .slice none 0 0]) ?_ 3 _ rfl; (with_reducible repeat (first | refine blk_drewN ?_ _ | refine blk_drew ?_ | refine blk_alloc ?_ _)); refine blk_put (cs := #[.int .i64 t316, .int .i64 t317, .int .i64 0, .int .i64 0, .int .i64 0, .int .i64 0, .int .i64 0, .bool false, .int .i64 0, .slice none 0 0]) ?_ 2 _ rfl; (with_reducible repeat (first | refine blk_drewN ?_ _ | refine blk_drew ?_ | refine blk_alloc ?_ _)); refine blk_put (cs := #[.int .i64 t316, .int .i64 0, .int .i64 0, .int .i64 0, .int .i64 0, .int .i64 0, .int .i64 0, .bool false, .int .i64 0, .slice none 0 0]) ?_ 1 _ rfl; (with_reducible repeat (first | refine blk_drewN ?_ _ | refine blk_drew ?_ | refine blk_alloc ?_ _)); refine blk_put (cs := #[.int .i64 0, .int .i64 0, .int .i64 0, .int .i64 0, .int .i64 0, .int .i64 0, .int .i64 0, .bool false, .int .i64 0, .slice none 0 0]) ?_ 0 _ rfl; (with_reducible repeat (first | refine blk_drewN ?_ _ | refine blk_drew ?_ | refine blk_alloc ?_ _)); exact BK329.out⟩
         have n7_ : Aside0 (Below w.heap.size w ((((((((((w30.setCell ⟨gb329, 0, none⟩ (.int .i64 t316)).setCell ⟨gb329, 1, none⟩ (.int .i64 t317)).setCell ⟨gb329, 2, none⟩ (.int .i64 t318)).setCell ⟨gb329, 3, none⟩ (.int .i64 t319)).setCell ⟨gb329, 4, none⟩ (.int .i64 t320)).setCell ⟨gb329, 5, none⟩ (.int .i64 t321)).setCell ⟨gb329, 6, none⟩ (.int .i64 t322)).setCell ⟨gb329, 7, none⟩ (.bool t323)).setCell ⟨gb329, 8, none⟩ (.int .i64 t324)).setCell ⟨gb329, 9, none⟩ (.slice Ao34 t325.length co34))) := ⟨bel⟩
         (try clear HO298)
         (try clear HO301)
         (try clear HO313)
         (try clear HO327)
         (try clear BK293)
         (try clear BK315)
         (try clear BK329)
         (try clear HB)
         generalize ((((((((((w30.setCell ⟨gb329, 0, none⟩ (.int .i64 t316)).setCell ⟨gb329, 1, none⟩ (.int .i64 t317)).setCell ⟨gb329, 2, none⟩ (.int .i64 t318)).setCell ⟨gb329, 3, none⟩ (.int .i64 t319)).setCell ⟨gb329, 4, none⟩ (.int .i64 t320)).setCell ⟨gb329, 5, none⟩ (.int .i64 t321)).setCell ⟨gb329, 6, none⟩ (.int .i64 t322)).setCell ⟨gb329, 7, none⟩ (.bool t323)).setCell ⟨gb329, 8, none⟩ (.int .i64 t324)).setCell ⟨gb329, 9, none⟩ (.slice Ao34 t325.length co34)) = w51 at n0_ n1_ n2_ n3_ n4_ n5_ n6_ n7_ ⊢
         have HO298 := n0_
         have HO301 := n1_
         have HO313 := n2_
         have HO327 := n3_
         have BK293 := n4_
         have BK315 := n5_
         have BK329 := n6_
         have HB := n7_
         clear n0_ n1_ n2_ n3_ n4_ n5_ n6_ n7_
         have n0_ := Aside0.mk (Kd.R_drew HO298.out)
         have n1_ := Aside0.mk (Kd.R_drew HO301.out)
         have n2_ := Aside0.mk (Kd.R_drew HO313.out)
         have n3_ := Aside0.mk (Kd.R_drew HO327.out)
         have n4_ := Aside0.mk (blk_drew BK293.out)
         have n5_ := Aside0.mk (blk_drew BK315.out)
         have n6_ := Aside0.mk (blk_drew BK329.out)
         have n7_ := Aside0.mk (below_drew1 HB.out)
         clear HO298
         clear HO301
         clear HO313
         clear HO327
         clear BK293
         clear BK315
         clear BK329
         clear HB
         have HO298 := n0_
         have HO301 := n1_
         have HO313 := n2_
         have HO327 := n3_
         have BK293 := n4_
         have BK315 := n5_
         have BK329 := n6_
         have HB := n7_
         clear n0_ n1_ n2_ n3_ n4_ n5_ n6_ n7_
         refine start_ (n := 24) (S := fun w' => w'.cell? ⟨gb293, 0, none⟩ = some (.int .i64 a0_0) ∧ w'.cell? ⟨gb293, 1, none⟩ = some (.int .i64 a0_1) ∧ w'.cell? ⟨gb293, 2, none⟩ = some (.int .i64 a0_2) ∧ w'.cell? ⟨gb293, 3, none⟩ = some (.int .i64 a0_3) ∧ w'.cell? ⟨gb293, 4, none⟩ = some (.int .i64 a0_4) ∧ w'.cell? ⟨gb293, 5, none⟩ = some (.int .i64 a0_5) ∧ w'.cell? ⟨gb293, 6, none⟩ = some (.int .i64 a0_6) ∧ w'.cell? ⟨gb293, 7, none⟩ = some (.bool a0_7) ∧ w'.cell? ⟨gb293, 8, none⟩ = some (.int .i64 a0_8) ∧ w'.cell? ⟨gb293, 9, none⟩ = some (.slice A0_9 l0_9.length c0_9) ∧ w'.cell? ⟨gb315, 0, none⟩ = some (.int .i64 t302) ∧ w'.cell? ⟨gb315, 1, none⟩ = some (.int .i64 t303) ∧ w'.cell? ⟨gb315, 2, none⟩ = some (.int .i64 t304) ∧ w'.cell? ⟨gb315, 3, none⟩ = some (.int .i64 t305) ∧ w'.cell? ⟨gb315, 4, none⟩ = some (.int .i64 t306) ∧ w'.cell? ⟨gb315, 5, none⟩ = some (.int .i64 t307) ∧ w'.cell? ⟨gb315, 6, none⟩ = some (.int .i64 t308) ∧ w'.cell? ⟨gb315, 7, none⟩ = some (.bool t309) ∧ w'.cell? ⟨gb315, 8, none⟩ = some (.int .i64 t310) ∧ w'.cell? ⟨gb315, 9, none⟩ = some (.slice Ao28 t311.length co28) ∧ w'.cell? ⟨gb329, 0, none⟩ = some (.int .i64 t316) ∧ w'.cell? ⟨gb329, 1, none⟩ = some (.int .i64 t317) ∧ w'.cell? ⟨gb329, 2, none⟩ = some (.int .i64 t318) ∧ w'.cell? ⟨gb329, 3, none⟩ = some (.int .i64 t319) ∧ w'.cell? ⟨gb329, 4, none⟩ = some (.int .i64 t320) ∧ w'.cell? ⟨gb329, 5, none⟩ = some (.int .i64 t321) ∧ w'.cell? ⟨gb329, 6, none⟩ = some (.int .i64 t322) ∧ w'.cell? ⟨gb329, 7, none⟩ = some (.bool t323) ∧ w'.cell? ⟨gb329, 8, none⟩ = some (.int .i64 t324) ∧ w'.cell? ⟨gb329, 9, none⟩ = some (.slice Ao34 t325.length co34) ∧ Xr.Rd w' (v297) t296 ∧ (convert 26 9 (v297)).run Try.prog w' = .ok (.string (strOfNums t296)) w') (ds := []) (ms 24 0) (by kernel_rfl) rfl rfl ⟨(blk_cell BK293.out 0).trans rfl, (blk_cell BK293.out 1).trans rfl, (blk_cell BK293.out 2).trans rfl, (blk_cell BK293.out 3).trans rfl, (blk_cell BK293.out 4).trans rfl, (blk_cell BK293.out 5).trans rfl, (blk_cell BK293.out 6).trans rfl, (blk_cell BK293.out 7).trans rfl, (blk_cell BK293.out 8).trans rfl, (blk_cell BK293.out 9).trans rfl, (blk_cell BK315.out 0).trans rfl, (blk_cell BK315.out 1).trans rfl, (blk_cell BK315.out 2).trans rfl, (blk_cell BK315.out 3).trans rfl, (blk_cell BK315.out 4).trans rfl, (blk_cell BK315.out 5).trans rfl, (blk_cell BK315.out 6).trans rfl, (blk_cell BK315.out 7).trans rfl, (blk_cell BK315.out 8).trans rfl, (blk_cell BK315.out 9).trans rfl, (blk_cell BK329.out 0).trans rfl, (blk_cell BK329.out 1).trans rfl, (blk_cell BK329.out 2).trans rfl, (blk_cell BK329.out 3).trans rfl, (blk_cell BK329.out 4).trans rfl, (blk_cell BK329.out 5).trans rfl, (blk_cell BK329.out 6).trans rfl, (blk_cell BK329.out 7).trans rfl, (blk_cell BK329.out 8).trans rfl, (blk_cell BK329.out 9).trans rfl, (Xr.Rd_R (by (with_reducible repeat (first | apply Kd.R_alloc | apply Kd.R_drewN | apply Kd.R_drew)); first | exact HO298.out | exact Kd.R_mono HO298.out (fun _ hk => by grind))), (Xr.Rd_string (P := Try.prog) Try.underlying26 Try.underlying5 Try.underlying9 (Xr.Rd_R (by (with_reducible repeat (first | apply Kd.R_alloc | apply Kd.R_drewN | apply Kd.R_drew)); first | exact HO298.out | exact Kd.R_mono HO298.out (fun _ hk => by grind))))⟩ (fun hHeld => ?_); refine with_tabW fountainlaw14_RecordTells.tab8 fountainlaw14_RecordTells.bits8 (fun HT_ HW_ => ?_)
         generalize w51.drew = w52 at HO298 HO301 HO313 HO327 BK293 BK315 BK329 HB hHeld ⊢
         refine run_ [(2, false, some 46), (0, true, some 44)] (n := 2) (ms 24 5) rfl HT_.out HW_.out (by kernel_rfl) (fun _ _ _ _ h => h) hHeld ?_
         repeat (first | (refine Run.p (v := ?_) (a' := ?_) rfl rfl (Or.inl ⟨by rfl, ?_⟩) ?_ ?_; rotate_left; (focus intro w'; go_simp; with_reducible rfl); rotate_left; (focus simp only [Act.put, List.setIfInBounds_toArray, List.set_cons_zero, List.set_cons_succ, i64_w, i32_w]; rfl)) | (refine Run.t (v := ?_) (a' := ?_) rfl rfl (Or.inl ⟨by rfl, ?_⟩) ?_ ?_; rotate_left; (focus rintro w' ⟨s0, s1, s2, s3, s4, s5, s6, s7, s8, s9, s10, s11, s12, s13, s14, s15, s16, s17, s18, s19, s20, s21, s22, s23, s24, s25, s26, s27, s28, s29, s30, s31⟩; go_simp; with_reducible rfl); rotate_left; (focus simp only [Act.put, List.setIfInBounds_toArray, List.set_cons_zero, List.set_cons_succ, i64_w, i32_w]; rfl)))
         refine Run.nil ?_
         refine one_ (i := 1) (N := some 45) (ms 24 7) rfl rfl (one_of HT_.out (by kernel_rfl)) (by decide) (fun K hK => ?_)
         refine goes_ Try.func14 (by kernel_rfl) rfl #[.agg #[.int .i64 a0_0, .int .i64 a0_1, .int .i64 a0_2, .int .i64 a0_3, .int .i64 a0_4, .int .i64 a0_5, .int .i64 a0_6, .bool a0_7, .int .i64 a0_8, .slice A0_9 l0_9.length c0_9]] (by rfl) rfl rfl (by (try simp only [List.map_toArray, List.map_cons, List.map_nil]); first | done | rfl | (simp only [List.length_drop, List.length_take]; rfl)) ?_
         with_reducible refine (record_Right.calls kj3 a0_0 a0_1 a0_2 a0_3 a0_4 a0_5 a0_6 a0_7 a0_8 _ _ l0_9 t330 _ ?side1 ?side2 A35.out).mono ?_
         (case side1 => repeat (first | exact (Kd.C_below HR0_9.out HB.out) | (with_reducible refine Kd.C_alloc ?_ _) | (with_reducible refine Kd.C_drewN ?_ _) | (with_reducible refine Kd.C_drew ?_)))
         (case side2 => exact HC0_9.out)
         rintro e w53 ⟨rfl, hb⟩
         have HS30_ := Xr.Rd_below (hHeld.2.2.2.2.2.2.2.2.2.2.2.2.2.2.2.2.2.2.2.2.2.2.2.2.2.2.2.2.2.2.1) hb
         have HS31_ := Xr.Rd_string (P := Try.prog) Try.underlying26 Try.underlying5 Try.underlying9 (Xr.Rd_below (hHeld.2.2.2.2.2.2.2.2.2.2.2.2.2.2.2.2.2.2.2.2.2.2.2.2.2.2.2.2.2.2.1) hb)
         refine ⟨_, rfl, ?_⟩
         have n0_ := Aside0.mk (Kd.R_below (by (with_reducible repeat (first | apply Kd.R_alloc | apply Kd.R_drewN | apply Kd.R_drew)); first | exact HO298.out | exact Kd.R_mono HO298.out (fun _ hk => by grind)) hb)
         have n1_ := Aside0.mk (Kd.R_below (by (with_reducible repeat (first | apply Kd.R_alloc | apply Kd.R_drewN | apply Kd.R_drew)); first | exact HO301.out | exact Kd.R_mono HO301.out (fun _ hk => by grind)) hb)
         have n2_ := Aside0.mk (Kd.R_below (by (with_reducible repeat (first | apply Kd.R_alloc | apply Kd.R_drewN | apply Kd.R_drew)); first | exact HO313.out | exact Kd.R_mono HO313.out (fun _ hk => by grind)) hb)
         have n3_ := Aside0.mk (Kd.R_below (by (with_reducible repeat (first | apply Kd.R_alloc | apply Kd.R_drewN | apply Kd.R_drew)); first | exact HO327.out | exact Kd.R_mono HO327.out (fun _ hk => by grind)) hb)
         have n4_ := Aside0.mk (blk_below (g := gb293) (o := .cells #[.int .i64 a0_0, .int .i64 a0_1, .int .i64 a0_2, .int .i64 a0_3, .int .i64 a0_4, .int .i64 a0_5, .int .i64 a0_6, .bool a0_7, .int .i64 a0_8, .slice A0_9 l0_9.length c0_9] 28 (0, 0)) (blk_g BK293.out) hb)
         have n5_ := Aside0.mk (blk_below (g := gb315) (o := .cells #[.int .i64 t302, .int .i64 t303, .int .i64 t304, .int .i64 t305, .int .i64 t306, .int .i64 t307, .int .i64 t308, .bool t309, .int .i64 t310, .slice Ao28 t311.length co28] 28 (0, 0)) (blk_g BK315.out) hb)
         have n6_ := Aside0.mk (blk_below (g := gb329) (o := .cells #[.int .i64 t316, .int .i64 t317, .int .i64 t318, .int .i64 t319, .int .i64 t320, .int .i64 t321, .int .i64 t322, .bool t323, .int .i64 t324, .slice Ao34 t325.length co34] 28 (0, 0)) (blk_g BK329.out) hb)
         have n7_ := Aside0.mk (belt hb)
         clear HO298
         clear HO301
         clear HO313
         clear HO327
         clear BK293
         clear BK315
         clear BK329
         clear HB
         have HO298 := n0_
         have HO301 := n1_
         have HO313 := n2_
         have HO327 := n3_
         have BK293 := n4_
         have BK315 := n5_
         have BK329 := n6_
         have HB := n7_
         clear n0_ n1_ n2_ n3_ n4_ n5_ n6_ n7_
         (try clear hb)
         (try clear hb2)
         (try clear hk)
         (try clear hi)
         refine hK.out _ _ ⟨(blk_cell BK293.out 0).trans rfl, (blk_cell BK293.out 1).trans rfl, (blk_cell BK293.out 2).trans rfl, (blk_cell BK293.out 3).trans rfl, (blk_cell BK293.out 4).trans rfl, (blk_cell BK293.out 5).trans rfl, (blk_cell BK293.out 6).trans rfl, (blk_cell BK293.out 7).trans rfl, (blk_cell BK293.out 8).trans rfl, (blk_cell BK293.out 9).trans rfl, (blk_cell BK315.out 0).trans rfl, (blk_cell BK315.out 1).trans rfl, (blk_cell BK315.out 2).trans rfl, (blk_cell BK315.out 3).trans rfl, (blk_cell BK315.out 4).trans rfl, (blk_cell BK315.out 5).trans rfl, (blk_cell BK315.out 6).trans rfl, (blk_cell BK315.out 7).trans rfl, (blk_cell BK315.out 8).trans rfl, (blk_cell BK315.out 9).trans rfl, (blk_cell BK329.out 0).trans rfl, (blk_cell BK329.out 1).trans rfl, (blk_cell BK329.out 2).trans rfl, (blk_cell BK329.out 3).trans rfl, (blk_cell BK329.out 4).trans rfl, (blk_cell BK329.out 5).trans rfl, (blk_cell BK329.out 6).trans rfl, (blk_cell BK329.out 7).trans rfl, (blk_cell BK329.out 8).trans rfl, (blk_cell BK329.out 9).trans rfl, HS30_, HS31_⟩ (fun hHeld => ?_)
         clear hK K
         refine norm_ (a' := ?_) ?_ ?_
         rotate_left
         ·show Act.put _ (some 45) _ = _
          simp only [Act.put, List.setIfInBounds_toArray, List.set_cons_zero, List.set_cons_succ, i64_w, i32_w]
          rfl
         refine run_ [(3, false, some 47), (4, false, some 48), (5, false, some 49), (6, true, some 50), (7, true, some 51)] (n := 5) (ms 24 255) rfl HT_.out HW_.out (by kernel_rfl) (fun _ _ _ _ h => h) hHeld ?_
         repeat (first | (refine Run.p (v := ?_) (a' := ?_) rfl rfl (Or.inl ⟨by rfl, ?_⟩) ?_ ?_; rotate_left; (focus intro w'; go_simp; with_reducible rfl); rotate_left; (focus simp only [Act.put, List.setIfInBounds_toArray, List.set_cons_zero, List.set_cons_succ, i64_w, i32_w]; rfl)) | (refine Run.t (v := ?_) (a' := ?_) rfl rfl (Or.inl ⟨by rfl, ?_⟩) ?_ ?_; rotate_left; (focus rintro w' ⟨s0, s1, s2, s3, s4, s5, s6, s7, s8, s9, s10, s11, s12, s13, s14, s15, s16, s17, s18, s19, s20, s21, s22, s23, s24, s25, s26, s27, s28, s29, s30, s31⟩; go_simp; with_reducible rfl); rotate_left; (focus simp only [Act.put, List.setIfInBounds_toArray, List.set_cons_zero, List.set_cons_succ, i64_w, i32_w]; rfl)))
         refine Run.nil ?_
         refine one_ (i := 8) (N := some 52) (ms 24 511) rfl rfl (one_of HT_.out (by kernel_rfl)) (by decide) (fun K hK => ?_)
         refine goes_ Try.func15 (by kernel_rfl) rfl #[.agg #[.int .i64 a0_0, .int .i64 a0_1, .int .i64 a0_2, .int .i64 a0_3, .int .i64 a0_4, .int .i64 a0_5, .int .i64 a0_6, .bool a0_7, .int .i64 a0_8, .slice A0_9 l0_9.length c0_9]] (by rfl) rfl rfl (by (try simp only [List.map_toArray, List.map_cons, List.map_nil]); first | done | rfl | (simp only [List.length_drop, List.length_take]; rfl)) ?_
         with_reducible refine (fountainref14_RecordBytes.calls kj3 a0_0 a0_1 a0_2 a0_3 a0_4 a0_5 a0_6 a0_7 a0_8 _ _ l0_9 t331 _ ?side1 ?side2 A40.out).mono ?_
         (case side1 => repeat (first | exact (Kd.C_below HR0_9.out HB.out) | (with_reducible refine Kd.C_alloc ?_ _) | (with_reducible refine Kd.C_drewN ?_ _) | (with_reducible refine Kd.C_drew ?_)))
         (case side2 => exact HC0_9.out)
         rintro e w54 ⟨v332, rfl, ho0, hb⟩
         have HS30_ := Xr.Rd_below (hHeld.2.2.2.2.2.2.2.2.2.2.2.2.2.2.2.2.2.2.2.2.2.2.2.2.2.2.2.2.2.2.1) hb
         have HS31_ := Xr.Rd_string (P := Try.prog) Try.underlying26 Try.underlying5 Try.underlying9 (Xr.Rd_below (hHeld.2.2.2.2.2.2.2.2.2.2.2.2.2.2.2.2.2.2.2.2.2.2.2.2.2.2.2.2.2.2.1) hb)
         refine ⟨_, rfl, ?_⟩
         have n0_ := Aside0.mk (Kd.R_elder' (by (with_reducible repeat (first | apply Kd.R_alloc | apply Kd.R_drewN | apply Kd.R_drew)); first | exact HO298.out | exact Kd.R_mono HO298.out (fun _ hk => by grind)) (Kd.R_base ho0) hb)
         have n1_ := Aside0.mk (Kd.R_elder' (by (with_reducible repeat (first | apply Kd.R_alloc | apply Kd.R_drewN | apply Kd.R_drew)); first | exact HO301.out | exact Kd.R_mono HO301.out (fun _ hk => by grind)) (Kd.R_base ho0) hb)
         have n2_ := Aside0.mk (Kd.R_elder' (by (with_reducible repeat (first | apply Kd.R_alloc | apply Kd.R_drewN | apply Kd.R_drew)); first | exact HO313.out | exact Kd.R_mono HO313.out (fun _ hk => by grind)) (Kd.R_base ho0) hb)
         have n3_ := Aside0.mk (Kd.R_elder' (by (with_reducible repeat (first | apply Kd.R_alloc | apply Kd.R_drewN | apply Kd.R_drew)); first | exact HO327.out | exact Kd.R_mono HO327.out (fun _ hk => by grind)) (Kd.R_base ho0) hb)
         have n4_ := Aside0.mk (Kd.R_lower (Kd.R_new' (Kd.R_new' (Kd.R_new' (Kd.R_new' ho0 (Kd.R_lt (by (with_reducible repeat (first | apply Kd.R_alloc | apply Kd.R_drewN | apply Kd.R_drew)); first | exact HO298.out | exact Kd.R_mono HO298.out (fun _ hk => by grind)))) (Kd.R_lt (by (with_reducible repeat (first | apply Kd.R_alloc | apply Kd.R_drewN | apply Kd.R_drew)); first | exact HO301.out | exact Kd.R_mono HO301.out (fun _ hk => by grind)))) (Kd.R_lt (by (with_reducible repeat (first | apply Kd.R_alloc | apply Kd.R_drewN | apply Kd.R_drew)); first | exact HO313.out | exact Kd.R_mono HO313.out (fun _ hk => by grind)))) (Kd.R_lt (by (with_reducible repeat (first | apply Kd.R_alloc | apply Kd.R_drewN | apply Kd.R_drew)); first | exact HO327.out | exact Kd.R_mono HO327.out (fun _ hk => by grind)))) bels)
         have n5_ := Aside0.mk (blk_below (g := gb293) (o := .cells #[.int .i64 a0_0, .int .i64 a0_1, .int .i64 a0_2, .int .i64 a0_3, .int .i64 a0_4, .int .i64 a0_5, .int .i64 a0_6, .bool a0_7, .int .i64 a0_8, .slice A0_9 l0_9.length c0_9] 28 (0, 0)) (blk_g BK293.out) hb)
         have n6_ := Aside0.mk (blk_below (g := gb315) (o := .cells #[.int .i64 t302, .int .i64 t303, .int .i64 t304, .int .i64 t305, .int .i64 t306, .int .i64 t307, .int .i64 t308, .bool t309, .int .i64 t310, .slice Ao28 t311.length co28] 28 (0, 0)) (blk_g BK315.out) hb)
         have n7_ := Aside0.mk (blk_below (g := gb329) (o := .cells #[.int .i64 t316, .int .i64 t317, .int .i64 t318, .int .i64 t319, .int .i64 t320, .int .i64 t321, .int .i64 t322, .bool t323, .int .i64 t324, .slice Ao34 t325.length co34] 28 (0, 0)) (blk_g BK329.out) hb)
         have n8_ := Aside0.mk (belt hb)
         clear HO298
         clear HO301
         clear HO313
         clear HO327
         clear BK293
         clear BK315
         clear BK329
         clear HB
         have HO298 := n0_
         have HO301 := n1_
         have HO313 := n2_
         have HO327 := n3_
         have HO333 := n4_
         have BK293 := n5_
         have BK315 := n6_
         have BK329 := n7_
         have HB := n8_
         clear n0_ n1_ n2_ n3_ n4_ n5_ n6_ n7_ n8_
         (try clear hb)
         (try clear hb2)
         (try clear hk)
         (try clear hi)
         (try clear ho0)
         refine hK.out _ _ ⟨(blk_cell BK293.out 0).trans rfl, (blk_cell BK293.out 1).trans rfl, (blk_cell BK293.out 2).trans rfl, (blk_cell BK293.out 3).trans rfl, (blk_cell BK293.out 4).trans rfl, (blk_cell BK293.out 5).trans rfl, (blk_cell BK293.out 6).trans rfl, (blk_cell BK293.out 7).trans rfl, (blk_cell BK293.out 8).trans rfl, (blk_cell BK293.out 9).trans rfl, (blk_cell BK315.out 0).trans rfl, (blk_cell BK315.out 1).trans rfl, (blk_cell BK315.out 2).trans rfl, (blk_cell BK315.out 3).trans rfl, (blk_cell BK315.out 4).trans rfl, (blk_cell BK315.out 5).trans rfl, (blk_cell BK315.out 6).trans rfl, (blk_cell BK315.out 7).trans rfl, (blk_cell BK315.out 8).trans rfl, (blk_cell BK315.out 9).trans rfl, (blk_cell BK329.out 0).trans rfl, (blk_cell BK329.out 1).trans rfl, (blk_cell BK329.out 2).trans rfl, (blk_cell BK329.out 3).trans rfl, (blk_cell BK329.out 4).trans rfl, (blk_cell BK329.out 5).trans rfl, (blk_cell BK329.out 6).trans rfl, (blk_cell BK329.out 7).trans rfl, (blk_cell BK329.out 8).trans rfl, (blk_cell BK329.out 9).trans rfl, HS30_, HS31_⟩ (fun hHeld => ?_)
         clear hK K
         refine norm_ (a' := ?_) ?_ ?_
         rotate_left
         ·show Act.put _ (some 52) _ = _
          simp only [Act.put, List.setIfInBounds_toArray, List.set_cons_zero, List.set_cons_succ, i64_w, i32_w]
          rfl
         refine one_ (i := 9) (N := some 53) (ms 24 1023) rfl rfl (one_of HT_.out (by kernel_rfl)) (by decide) (fun K hK => ?_)
         have hcv55 := own_string (P := Try.prog) Try.underlying26 Try.underlying5 Try.underlying9 (Kd.own_of_R HO333.out)
         refine value_ (w1 := ?_) (v := ?_) (by rfl) rfl ?_ ?_
         rotate_left 2
         ·go_simp
          constructor
          ·rfl
          ·rfl
         clear hcv55
         refine hK.out _ _ ⟨(blk_cell BK293.out 0).trans rfl, (blk_cell BK293.out 1).trans rfl, (blk_cell BK293.out 2).trans rfl, (blk_cell BK293.out 3).trans rfl, (blk_cell BK293.out 4).trans rfl, (blk_cell BK293.out 5).trans rfl, (blk_cell BK293.out 6).trans rfl, (blk_cell BK293.out 7).trans rfl, (blk_cell BK293.out 8).trans rfl, (blk_cell BK293.out 9).trans rfl, (blk_cell BK315.out 0).trans rfl, (blk_cell BK315.out 1).trans rfl, (blk_cell BK315.out 2).trans rfl, (blk_cell BK315.out 3).trans rfl, (blk_cell BK315.out 4).trans rfl, (blk_cell BK315.out 5).trans rfl, (blk_cell BK315.out 6).trans rfl, (blk_cell BK315.out 7).trans rfl, (blk_cell BK315.out 8).trans rfl, (blk_cell BK315.out 9).trans rfl, (blk_cell BK329.out 0).trans rfl, (blk_cell BK329.out 1).trans rfl, (blk_cell BK329.out 2).trans rfl, (blk_cell BK329.out 3).trans rfl, (blk_cell BK329.out 4).trans rfl, (blk_cell BK329.out 5).trans rfl, (blk_cell BK329.out 6).trans rfl, (blk_cell BK329.out 7).trans rfl, (blk_cell BK329.out 8).trans rfl, (blk_cell BK329.out 9).trans rfl, hHeld.2.2.2.2.2.2.2.2.2.2.2.2.2.2.2.2.2.2.2.2.2.2.2.2.2.2.2.2.2.2.1, hHeld.2.2.2.2.2.2.2.2.2.2.2.2.2.2.2.2.2.2.2.2.2.2.2.2.2.2.2.2.2.2.2⟩ (fun hHeld => ?_)
         clear hK K
         refine norm_ (a' := ?_) ?_ ?_
         rotate_left
         ·show Act.put _ (some 53) _ = _
          simp only [Act.put, List.setIfInBounds_toArray, List.set_cons_zero, List.set_cons_succ, i64_w, i32_w]
          rfl
         refine run_ [(10, false, some 54), (11, false, some 55), (12, false, some 56), (13, true, some 57), (14, true, some 58)] (n := 5) (ms 24 32767) rfl HT_.out HW_.out (by kernel_rfl) (fun _ _ _ _ h => h) hHeld ?_
         repeat (first | (refine Run.p (v := ?_) (a' := ?_) rfl rfl (Or.inl ⟨by rfl, ?_⟩) ?_ ?_; rotate_left; (focus intro w'; go_simp; with_reducible rfl); rotate_left; (focus simp only [Act.put, List.setIfInBounds_toArray, List.set_cons_zero, List.set_cons_succ, i64_w, i32_w]; rfl)) | (refine Run.t (v := ?_) (a' := ?_) rfl rfl (Or.inl ⟨by rfl, ?_⟩) ?_ ?_; rotate_left; (focus rintro w' ⟨s0, s1, s2, s3, s4, s5, s6, s7, s8, s9, s10, s11, s12, s13, s14, s15, s16, s17, s18, s19, s20, s21, s22, s23, s24, s25, s26, s27, s28, s29, s30, s31⟩; go_simp; with_reducible rfl); rotate_left; (focus simp only [Act.put, List.setIfInBounds_toArray, List.set_cons_zero, List.set_cons_succ, i64_w, i32_w]; rfl)))
         refine Run.nil ?_
         refine one_ (i := 15) (N := some 59) (ms 24 65535) rfl rfl (one_of HT_.out (by kernel_rfl)) (by decide) (fun K hK => ?_)
         refine goes_ Try.func16 (by kernel_rfl) rfl #[.agg #[.int .i64 t302, .int .i64 t303, .int .i64 t304, .int .i64 t305, .int .i64 t306, .int .i64 t307, .int .i64 t308, .bool t309, .int .i64 t310, .slice Ao28 t311.length co28], .agg #[.int .i64 t316, .int .i64 t317, .int .i64 t318, .int .i64 t319, .int .i64 t320, .int .i64 t321, .int .i64 t322, .bool t323, .int .i64 t324, .slice Ao34 t325.length co34]] (by rfl) rfl rfl (by (try simp only [List.map_toArray, List.map_cons, List.map_nil]); first | done | rfl | (simp only [List.length_drop, List.length_take]; rfl)) ?_
         with_reducible refine (fountainref14_SameRecord.calls t302 t303 t304 t305 t306 t307 t308 t309 t310 _ _ t311 t316 t317 t318 t319 t320 t321 t322 t323 t324 _ _ t325 false _ ?side1 ?side2 ?side3 ?side4 A42.out).mono ?_
         (case side1 => repeat (first | exact (Kd.R_reads' HO313.out).2.2 | (with_reducible refine Kd.C_alloc ?_ _) | (with_reducible refine Kd.C_drewN ?_ _) | (with_reducible refine Kd.C_drew ?_)))
         (case side2 => exact (Kd.R_reads' HO313.out).2.1)
         (case side3 => repeat (first | exact (Kd.R_reads' HO327.out).2.2 | (with_reducible refine Kd.C_alloc ?_ _) | (with_reducible refine Kd.C_drewN ?_ _) | (with_reducible refine Kd.C_drew ?_)))
         (case side4 => exact (Kd.R_reads' HO327.out).2.1)
         rintro e w56 ⟨rfl, hb⟩
         have HS30_ := Xr.Rd_below (hHeld.2.2.2.2.2.2.2.2.2.2.2.2.2.2.2.2.2.2.2.2.2.2.2.2.2.2.2.2.2.2.1) hb
         have HS31_ := Xr.Rd_string (P := Try.prog) Try.underlying26 Try.underlying5 Try.underlying9 (Xr.Rd_below (hHeld.2.2.2.2.2.2.2.2.2.2.2.2.2.2.2.2.2.2.2.2.2.2.2.2.2.2.2.2.2.2.1) hb)
         refine ⟨_, rfl, ?_⟩
         have n0_ := Aside0.mk (Kd.R_below (by (with_reducible repeat (first | apply Kd.R_alloc | apply Kd.R_drewN | apply Kd.R_drew)); first | exact HO298.out | exact Kd.R_mono HO298.out (fun _ hk => by grind)) hb)
         have n1_ := Aside0.mk (Kd.R_below (by (with_reducible repeat (first | apply Kd.R_alloc | apply Kd.R_drewN | apply Kd.R_drew)); first | exact HO301.out | exact Kd.R_mono HO301.out (fun _ hk => by grind)) hb)
         have n2_ := Aside0.mk (Kd.R_below (by (with_reducible repeat (first | apply Kd.R_alloc | apply Kd.R_drewN | apply Kd.R_drew)); first | exact HO313.out | exact Kd.R_mono HO313.out (fun _ hk => by grind)) hb)
         have n3_ := Aside0.mk (Kd.R_below (by (with_reducible repeat (first | apply Kd.R_alloc | apply Kd.R_drewN | apply Kd.R_drew)); first | exact HO327.out | exact Kd.R_mono HO327.out (fun _ hk => by grind)) hb)
         have n4_ := Aside0.mk (Kd.R_below (by (with_reducible repeat (first | apply Kd.R_alloc | apply Kd.R_drewN | apply Kd.R_drew)); first | exact HO333.out | exact Kd.R_mono HO333.out (fun _ hk => by grind)) hb)
         have n5_ := Aside0.mk (blk_below (g := gb293) (o := .cells #[.int .i64 a0_0, .int .i64 a0_1, .int .i64 a0_2, .int .i64 a0_3, .int .i64 a0_4, .int .i64 a0_5, .int .i64 a0_6, .bool a0_7, .int .i64 a0_8, .slice A0_9 l0_9.length c0_9] 28 (0, 0)) (blk_g BK293.out) hb)
         have n6_ := Aside0.mk (blk_below (g := gb315) (o := .cells #[.int .i64 t302, .int .i64 t303, .int .i64 t304, .int .i64 t305, .int .i64 t306, .int .i64 t307, .int .i64 t308, .bool t309, .int .i64 t310, .slice Ao28 t311.length co28] 28 (0, 0)) (blk_g BK315.out) hb)
         have n7_ := Aside0.mk (blk_below (g := gb329) (o := .cells #[.int .i64 t316, .int .i64 t317, .int .i64 t318, .int .i64 t319, .int .i64 t320, .int .i64 t321, .int .i64 t322, .bool t323, .int .i64 t324, .slice Ao34 t325.length co34] 28 (0, 0)) (blk_g BK329.out) hb)
         have n8_ := Aside0.mk (belt hb)
         clear HO298
         clear HO301
         clear HO313
         clear HO327
         clear HO333
         clear BK293
         clear BK315
         clear BK329
         clear HB
         have HO298 := n0_
         have HO301 := n1_
         have HO313 := n2_
         have HO327 := n3_
         have HO333 := n4_
         have BK293 := n5_
         have BK315 := n6_
         have BK329 := n7_
         have HB := n8_
         clear n0_ n1_ n2_ n3_ n4_ n5_ n6_ n7_ n8_
         (try clear hb)
         (try clear hb2)
         (try clear hk)
         (try clear hi)
         refine hK.out _ _ ⟨(blk_cell BK293.out 0).trans rfl, (blk_cell BK293.out 1).trans rfl, (blk_cell BK293.out 2).trans rfl, (blk_cell BK293.out 3).trans rfl, (blk_cell BK293.out 4).trans rfl, (blk_cell BK293.out 5).trans rfl, (blk_cell BK293.out 6).trans rfl, (blk_cell BK293.out 7).trans rfl, (blk_cell BK293.out 8).trans rfl, (blk_cell BK293.out 9).trans rfl, (blk_cell BK315.out 0).trans rfl, (blk_cell BK315.out 1).trans rfl, (blk_cell BK315.out 2).trans rfl, (blk_cell BK315.out 3).trans rfl, (blk_cell BK315.out 4).trans rfl, (blk_cell BK315.out 5).trans rfl, (blk_cell BK315.out 6).trans rfl, (blk_cell BK315.out 7).trans rfl, (blk_cell BK315.out 8).trans rfl, (blk_cell BK315.out 9).trans rfl, (blk_cell BK329.out 0).trans rfl, (blk_cell BK329.out 1).trans rfl, (blk_cell BK329.out 2).trans rfl, (blk_cell BK329.out 3).trans rfl, (blk_cell BK329.out 4).trans rfl, (blk_cell BK329.out 5).trans rfl, (blk_cell BK329.out 6).trans rfl, (blk_cell BK329.out 7).trans rfl, (blk_cell BK329.out 8).trans rfl, (blk_cell BK329.out 9).trans rfl, HS30_, HS31_⟩ (fun hHeld => ?_)
         clear hK K
         refine norm_ (a' := ?_) ?_ ?_
         rotate_left
         ·show Act.put _ (some 59) _ = _
          simp only [Act.put, List.setIfInBounds_toArray, List.set_cons_zero, List.set_cons_succ, i64_w, i32_w]
          rfl
         refine run_ [(16, false, some 60), (17, false, some 61), (18, false, some 62)] (n := 3) (ms 24 524287) rfl HT_.out HW_.out (by kernel_rfl) (fun _ _ _ _ h => h) hHeld ?_
         repeat (refine Run.p (v := ?_) (a' := ?_) rfl rfl (Or.inl ⟨by rfl, ?_⟩) ?_ ?_; rotate_left; (focus intro w'; go_simp; with_reducible rfl); rotate_left; (focus simp only [Act.put, List.setIfInBounds_toArray, List.set_cons_zero, List.set_cons_succ, i64_w, i32_w]; rfl))
         refine Run.nil ?_
         refine pure_ (i := 19) (N := some 63) (v := undef) (a' := ?_) (ms 24 1048575) rfl rfl (any_of HT_.out (by kernel_rfl)) (fun _ _ _ h => h) (Or.inr ⟨by rfl, rfl⟩) ?_ ?_
         rotate_left
         ·simp only [Act.put, List.setIfInBounds_toArray, List.set_cons_zero, List.set_cons_succ, i64_w, i32_w]
          rfl
         refine pure_ (i := 20) (N := some 64) (v := undef) (a' := ?_) (ms 24 2097151) rfl rfl (any_of HT_.out (by kernel_rfl)) (fun _ _ _ h => h) (Or.inr ⟨by rfl, rfl⟩) ?_ ?_
         rotate_left
         ·simp only [Act.put, List.setIfInBounds_toArray, List.set_cons_zero, List.set_cons_succ, i64_w, i32_w]
          rfl
         refine pure_ (i := 21) (N := some 65) (v := undef) (a' := ?_) (ms 24 4194303) rfl rfl (any_of HT_.out (by kernel_rfl)) (fun _ _ _ h => h) (Or.inr ⟨by rfl, rfl⟩) ?_ ?_
         rotate_left
         ·simp only [Act.put, List.setIfInBounds_toArray, List.set_cons_zero, List.set_cons_succ, i64_w, i32_w]
          rfl
         refine pure_ (i := 22) (N := some 66) (v := undef) (a' := ?_) (ms 24 8388607) rfl rfl (any_of HT_.out (by kernel_rfl)) (fun _ _ _ h => h) (Or.inr ⟨by rfl, rfl⟩) ?_ ?_
         rotate_left
         ·simp only [Act.put, List.setIfInBounds_toArray, List.set_cons_zero, List.set_cons_succ, i64_w, i32_w]
          rfl
         refine pure_ (i := 23) (N := some 67) (v := ?_) (a' := ?_) (ms 24 16777215) rfl rfl (any_of HT_.out (by kernel_rfl)) (fun _ _ _ h => h) (Or.inl ⟨by rfl, ?_⟩) ?_ ?_
         rotate_left
         ·intro w'
          go_simp
          with_reducible rfl
         rotate_left
         ·simp only [Act.put, List.setIfInBounds_toArray, List.set_cons_zero, List.set_cons_succ, i64_w, i32_w]
          rfl
         refine done_ (done_of HT_.out (by kernel_rfl)) ?_
         try go_wp2
         go_meet
         case rel => exact ⟨_, (true), (by first | rfl | (simp; done) | (simp [*]; done)), H', ⟨by have := HJ3.out; first | omega | exact Nat.le_refl _⟩, ⟨by (with_reducible repeat (first | apply Kd.R_alloc | apply Kd.R_drewN | apply Kd.R_drew)); exact Kd.R_mono HO298.out (fun _ hk => by first | exact ⟨hk.1.2.1, hk.1.2.2⟩ | exact hk | grind)⟩, ⟨by (with_reducible repeat (first | apply Kd.R_alloc | apply Kd.R_drewN | apply Kd.R_drew)); exact Kd.R_mono HO313.out (fun _ hk => by first | exact ⟨hk.1.1, hk.1.2.2⟩ | exact hk | grind)⟩, ⟨by (with_reducible repeat (first | apply Kd.R_alloc | apply Kd.R_drewN | apply Kd.R_drew)); exact Kd.R_mono HO327.out (fun _ hk => by first | exact ⟨hk.1.1, hk.1.2.2⟩ | exact hk | grind)⟩, ⟨by (with_reducible repeat (first | refine blk_drewN ?_ _ | refine blk_drew ?_ | refine blk_alloc ?_ _)); exact BK293.out⟩, ⟨by (with_reducible repeat (first | refine blk_drewN ?_ _ | refine blk_drew ?_ | refine blk_alloc ?_ _)); exact BK315.out⟩, ⟨by (with_reducible repeat (first | refine blk_drewN ?_ _ | refine blk_drew ?_ | refine blk_alloc ?_ _)); exact BK329.out⟩, ⟨bel⟩⟩
       ·rw [if_neg c41] at H
        have c41b0 : ((strOfNums t296).toList == (strOfNums t331).toList) = false := beq_eq_false_iff_ne.mpr c41
        have c41b1 : ((strOfNums t296).toList != (strOfNums t331).toList) = true := bne_iff_ne.mpr c41
        have H' := Aside0.mk H
        clear H
        try go_wp2
        have n0_ : Aside0 (Kd.R (Kd.int .u8) 5 ((((((((((w30.setCell ⟨gb329, 0, none⟩ (.int .i64 t316)).setCell ⟨gb329, 1, none⟩ (.int .i64 t317)).setCell ⟨gb329, 2, none⟩ (.int .i64 t318)).setCell ⟨gb329, 3, none⟩ (.int .i64 t319)).setCell ⟨gb329, 4, none⟩ (.int .i64 t320)).setCell ⟨gb329, 5, none⟩ (.int .i64 t321)).setCell ⟨gb329, 6, none⟩ (.int .i64 t322)).setCell ⟨gb329, 7, none⟩ (.bool t323)).setCell ⟨gb329, 8, none⟩ (.int .i64 t324)).setCell ⟨gb329, 9, none⟩ (.slice Ao34 t325.length co34)) w.heap.size (fun k_ => some k_ ≠ (.slice Ao23 y299.length co23 : Value).ownBlock ∧ some k_ ≠ (.slice Ao28 t311.length co28 : Value).ownBlock ∧ some k_ ≠ (.slice Ao34 t325.length co34 : Value).ownBlock) v297 t296) := ⟨by (with_reducible repeat (first | apply Kd.R_alloc | apply Kd.R_drewN | apply Kd.R_drew)); exact Kd.R_mono (Kd.R_far (p := ⟨gb329, 9, none⟩) (Kd.R_far (p := ⟨gb329, 8, none⟩) (Kd.R_far (p := ⟨gb329, 7, none⟩) (Kd.R_far (p := ⟨gb329, 6, none⟩) (Kd.R_far (p := ⟨gb329, 5, none⟩) (Kd.R_far (p := ⟨gb329, 4, none⟩) (Kd.R_far (p := ⟨gb329, 3, none⟩) (Kd.R_far (p := ⟨gb329, 2, none⟩) (Kd.R_far (p := ⟨gb329, 1, none⟩) (Kd.R_far (p := ⟨gb329, 0, none⟩) (Kd.R_types HO298.out BK329.out (by decide)) (fun _ hk => by first | exact hk.2 | exact hk | grind) (.int .i64 t316)) (fun _ hk => by first | exact hk.2 | exact hk | grind) (.int .i64 t317)) (fun _ hk => by first | exact hk.2 | exact hk | grind) (.int .i64 t318)) (fun _ hk => by first | exact hk.2 | exact hk | grind) (.int .i64 t319)) (fun _ hk => by first | exact hk.2 | exact hk | grind) (.int .i64 t320)) (fun _ hk => by first | exact hk.2 | exact hk | grind) (.int .i64 t321)) (fun _ hk => by first | exact hk.2 | exact hk | grind) (.int .i64 t322)) (fun _ hk => by first | exact hk.2 | exact hk | grind) (.bool t323)) (fun _ hk => by first | exact hk.2 | exact hk | grind) (.int .i64 t324)) (fun _ hk => by first | exact hk.2 | exact hk | grind) (.slice Ao34 t325.length co34)) (fun _ hk => by first | exact ⟨hk.1.1.1.2, ⟨hk.1.1.2, hk.1.2⟩⟩ | exact hk | grind)⟩
        have n1_ : Aside0 (Kd.R (Kd.int .u8) 5 ((((((((((w30.setCell ⟨gb329, 0, none⟩ (.int .i64 t316)).setCell ⟨gb329, 1, none⟩ (.int .i64 t317)).setCell ⟨gb329, 2, none⟩ (.int .i64 t318)).setCell ⟨gb329, 3, none⟩ (.int .i64 t319)).setCell ⟨gb329, 4, none⟩ (.int .i64 t320)).setCell ⟨gb329, 5, none⟩ (.int .i64 t321)).setCell ⟨gb329, 6, none⟩ (.int .i64 t322)).setCell ⟨gb329, 7, none⟩ (.bool t323)).setCell ⟨gb329, 8, none⟩ (.int .i64 t324)).setCell ⟨gb329, 9, none⟩ (.slice Ao34 t325.length co34)) w.heap.size (fun k_ => some k_ ≠ (v297 : Value).ownBlock ∧ some k_ ≠ (.slice Ao28 t311.length co28 : Value).ownBlock ∧ some k_ ≠ (.slice Ao34 t325.length co34 : Value).ownBlock) (.slice Ao23 y299.length co23) y299) := ⟨by (with_reducible repeat (first | apply Kd.R_alloc | apply Kd.R_drewN | apply Kd.R_drew)); exact Kd.R_mono (Kd.R_far (p := ⟨gb329, 9, none⟩) (Kd.R_far (p := ⟨gb329, 8, none⟩) (Kd.R_far (p := ⟨gb329, 7, none⟩) (Kd.R_far (p := ⟨gb329, 6, none⟩) (Kd.R_far (p := ⟨gb329, 5, none⟩) (Kd.R_far (p := ⟨gb329, 4, none⟩) (Kd.R_far (p := ⟨gb329, 3, none⟩) (Kd.R_far (p := ⟨gb329, 2, none⟩) (Kd.R_far (p := ⟨gb329, 1, none⟩) (Kd.R_far (p := ⟨gb329, 0, none⟩) (Kd.R_types HO301.out BK329.out (by decide)) (fun _ hk => by first | exact hk.2 | exact hk | grind) (.int .i64 t316)) (fun _ hk => by first | exact hk.2 | exact hk | grind) (.int .i64 t317)) (fun _ hk => by first | exact hk.2 | exact hk | grind) (.int .i64 t318)) (fun _ hk => by first | exact hk.2 | exact hk | grind) (.int .i64 t319)) (fun _ hk => by first | exact hk.2 | exact hk | grind) (.int .i64 t320)) (fun _ hk => by first | exact hk.2 | exact hk | grind) (.int .i64 t321)) (fun _ hk => by first | exact hk.2 | exact hk | grind) (.int .i64 t322)) (fun _ hk => by first | exact hk.2 | exact hk | grind) (.bool t323)) (fun _ hk => by first | exact hk.2 | exact hk | grind) (.int .i64 t324)) (fun _ hk => by first | exact hk.2 | exact hk | grind) (.slice Ao34 t325.length co34)) (fun _ hk => by first | exact ⟨hk.1.1.1, ⟨hk.1.1.2, hk.1.2⟩⟩ | exact hk | grind)⟩
        have n2_ : Aside0 (Kd.R (Kd.int .u8) 5 ((((((((((w30.setCell ⟨gb329, 0, none⟩ (.int .i64 t316)).setCell ⟨gb329, 1, none⟩ (.int .i64 t317)).setCell ⟨gb329, 2, none⟩ (.int .i64 t318)).setCell ⟨gb329, 3, none⟩ (.int .i64 t319)).setCell ⟨gb329, 4, none⟩ (.int .i64 t320)).setCell ⟨gb329, 5, none⟩ (.int .i64 t321)).setCell ⟨gb329, 6, none⟩ (.int .i64 t322)).setCell ⟨gb329, 7, none⟩ (.bool t323)).setCell ⟨gb329, 8, none⟩ (.int .i64 t324)).setCell ⟨gb329, 9, none⟩ (.slice Ao34 t325.length co34)) w.heap.size (fun k_ => some k_ ≠ (v297 : Value).ownBlock ∧ some k_ ≠ (.slice Ao23 y299.length co23 : Value).ownBlock ∧ some k_ ≠ (.slice Ao34 t325.length co34 : Value).ownBlock) (.slice Ao28 t311.length co28) t311) := ⟨by (with_reducible repeat (first | apply Kd.R_alloc | apply Kd.R_drewN | apply Kd.R_drew)); exact Kd.R_mono (Kd.R_far (p := ⟨gb329, 9, none⟩) (Kd.R_far (p := ⟨gb329, 8, none⟩) (Kd.R_far (p := ⟨gb329, 7, none⟩) (Kd.R_far (p := ⟨gb329, 6, none⟩) (Kd.R_far (p := ⟨gb329, 5, none⟩) (Kd.R_far (p := ⟨gb329, 4, none⟩) (Kd.R_far (p := ⟨gb329, 3, none⟩) (Kd.R_far (p := ⟨gb329, 2, none⟩) (Kd.R_far (p := ⟨gb329, 1, none⟩) (Kd.R_far (p := ⟨gb329, 0, none⟩) (Kd.R_types HO313.out BK329.out (by decide)) (fun _ hk => by first | exact hk.2 | exact hk | grind) (.int .i64 t316)) (fun _ hk => by first | exact hk.2 | exact hk | grind) (.int .i64 t317)) (fun _ hk => by first | exact hk.2 | exact hk | grind) (.int .i64 t318)) (fun _ hk => by first | exact hk.2 | exact hk | grind) (.int .i64 t319)) (fun _ hk => by first | exact hk.2 | exact hk | grind) (.int .i64 t320)) (fun _ hk => by first | exact hk.2 | exact hk | grind) (.int .i64 t321)) (fun _ hk => by first | exact hk.2 | exact hk | grind) (.int .i64 t322)) (fun _ hk => by first | exact hk.2 | exact hk | grind) (.bool t323)) (fun _ hk => by first | exact hk.2 | exact hk | grind) (.int .i64 t324)) (fun _ hk => by first | exact hk.2 | exact hk | grind) (.slice Ao34 t325.length co34)) (fun _ hk => by first | exact ⟨hk.1.1.1.2, ⟨hk.1.1.2, hk.1.2⟩⟩ | exact hk | grind)⟩
        have n3_ : Aside0 (Kd.R (Kd.int .u8) 5 ((((((((((w30.setCell ⟨gb329, 0, none⟩ (.int .i64 t316)).setCell ⟨gb329, 1, none⟩ (.int .i64 t317)).setCell ⟨gb329, 2, none⟩ (.int .i64 t318)).setCell ⟨gb329, 3, none⟩ (.int .i64 t319)).setCell ⟨gb329, 4, none⟩ (.int .i64 t320)).setCell ⟨gb329, 5, none⟩ (.int .i64 t321)).setCell ⟨gb329, 6, none⟩ (.int .i64 t322)).setCell ⟨gb329, 7, none⟩ (.bool t323)).setCell ⟨gb329, 8, none⟩ (.int .i64 t324)).setCell ⟨gb329, 9, none⟩ (.slice Ao34 t325.length co34)) w.heap.size (fun k_ => some k_ ≠ (v297 : Value).ownBlock ∧ some k_ ≠ (.slice Ao23 y299.length co23 : Value).ownBlock ∧ some k_ ≠ (.slice Ao28 t311.length co28 : Value).ownBlock) (.slice Ao34 t325.length co34) t325) := ⟨by (with_reducible repeat (first | apply Kd.R_alloc | apply Kd.R_drewN | apply Kd.R_drew)); exact Kd.R_mono (Kd.R_far (p := ⟨gb329, 9, none⟩) (Kd.R_far (p := ⟨gb329, 8, none⟩) (Kd.R_far (p := ⟨gb329, 7, none⟩) (Kd.R_far (p := ⟨gb329, 6, none⟩) (Kd.R_far (p := ⟨gb329, 5, none⟩) (Kd.R_far (p := ⟨gb329, 4, none⟩) (Kd.R_far (p := ⟨gb329, 3, none⟩) (Kd.R_far (p := ⟨gb329, 2, none⟩) (Kd.R_far (p := ⟨gb329, 1, none⟩) (Kd.R_far (p := ⟨gb329, 0, none⟩) (Kd.R_types HO327.out BK329.out (by decide)) (fun _ hk => by first | exact hk.2 | exact hk | grind) (.int .i64 t316)) (fun _ hk => by first | exact hk.2 | exact hk | grind) (.int .i64 t317)) (fun _ hk => by first | exact hk.2 | exact hk | grind) (.int .i64 t318)) (fun _ hk => by first | exact hk.2 | exact hk | grind) (.int .i64 t319)) (fun _ hk => by first | exact hk.2 | exact hk | grind) (.int .i64 t320)) (fun _ hk => by first | exact hk.2 | exact hk | grind) (.int .i64 t321)) (fun _ hk => by first | exact hk.2 | exact hk | grind) (.int .i64 t322)) (fun _ hk => by first | exact hk.2 | exact hk | grind) (.bool t323)) (fun _ hk => by first | exact hk.2 | exact hk | grind) (.int .i64 t324)) (fun _ hk => by first | exact hk.2 | exact hk | grind) (.slice Ao34 t325.length co34)) (fun _ hk => by first | exact ⟨hk.1.1.1.2, ⟨hk.1.1.2, hk.1.2⟩⟩ | exact hk | grind)⟩
        have n4_ : Aside0 (((((((((((w30.setCell ⟨gb329, 0, none⟩ (.int .i64 t316)).setCell ⟨gb329, 1, none⟩ (.int .i64 t317)).setCell ⟨gb329, 2, none⟩ (.int .i64 t318)).setCell ⟨gb329, 3, none⟩ (.int .i64 t319)).setCell ⟨gb329, 4, none⟩ (.int .i64 t320)).setCell ⟨gb329, 5, none⟩ (.int .i64 t321)).setCell ⟨gb329, 6, none⟩ (.int .i64 t322)).setCell ⟨gb329, 7, none⟩ (.bool t323)).setCell ⟨gb329, 8, none⟩ (.int .i64 t324)).setCell ⟨gb329, 9, none⟩ (.slice Ao34 t325.length co34)).heap[gb293]? = some (.cells #[.int .i64 a0_0, .int .i64 a0_1, .int .i64 a0_2, .int .i64 a0_3, .int .i64 a0_4, .int .i64 a0_5, .int .i64 a0_6, .bool a0_7, .int .i64 a0_8, .slice A0_9 l0_9.length c0_9] 28 (0, 0))) := ⟨by (with_reducible repeat (first | refine blk_drewN ?_ _ | refine blk_drew ?_ | refine blk_alloc ?_ _)); refine blk_far ?_ NB293_329.out _; (with_reducible repeat (first | refine blk_drewN ?_ _ | refine blk_drew ?_ | refine blk_alloc ?_ _)); refine blk_far ?_ NB293_329.out _; (with_reducible repeat (first | refine blk_drewN ?_ _ | refine blk_drew ?_ | refine blk_alloc ?_ _)); refine blk_far ?_ NB293_329.out _; (with_reducible repeat (first | refine blk_drewN ?_ _ | refine blk_drew ?_ | refine blk_alloc ?_ _)); refine blk_far ?_ NB293_329.out _; (with_reducible repeat (first | refine blk_drewN ?_ _ | refine blk_drew ?_ | refine blk_alloc ?_ _)); refine blk_far ?_ NB293_329.out _; (with_reducible repeat (first | refine blk_drewN ?_ _ | refine blk_drew ?_ | refine blk_alloc ?_ _)); refine blk_far ?_ NB293_329.out _; (with_reducible repeat (first | refine blk_drewN ?_ _ | refine blk_drew ?_ | refine blk_alloc ?_ _)); refine blk_far ?_ NB293_329.out _; (with_reducible repeat (first | refine blk_drewN ?_ _ | refine blk_drew ?_ | refine blk_alloc ?_ _)); refine blk_far ?_ NB293_329.out _; (with_reducible repeat (first | refine blk_drewN ?_ _ | refine blk_drew ?_ | refine blk_alloc ?_ _)); refine blk_far ?_ NB293_329.out _; (with_reducible repeat (first | refine blk_drewN ?_ _ | refine blk_drew ?_ | refine blk_alloc ?_ _)); refine blk_far ?_ NB293_329.out _; (with_reducible repeat (first | refine blk_drewN ?_ _ | refine blk_drew ?_ | refine blk_alloc ?_ _)); exact BK293.out⟩
        have n5_ : Aside0 (((((((((((w30.setCell ⟨gb329, 0, none⟩ (.int .i64 t316)).setCell ⟨gb329, 1, none⟩ (.int .i64 t317)).setCell ⟨gb329, 2, none⟩ (.int .i64 t318)).setCell ⟨gb329, 3, none⟩ (.int .i64 t319)).setCell ⟨gb329, 4, none⟩ (.int .i64 t320)).setCell ⟨gb329, 5, none⟩ (.int .i64 t321)).setCell ⟨gb329, 6, none⟩ (.int .i64 t322)).setCell ⟨gb329, 7, none⟩ (.bool t323)).setCell ⟨gb329, 8, none⟩ (.int .i64 t324)).setCell ⟨gb329, 9, none⟩ (.slice Ao34 t325.length co34)).heap[gb315]? = some (.cells #[.int .i64 t302, .int .i64 t303, .int .i64 t304, .int .i64 t305, .int .i64 t306, .int .i64 t307, .int .i64 t308, .bool t309, .int .i64 t310, .slice Ao28 t311.length co28] 28 (0, 0))) := ⟨by (with_reducible repeat (first | refine blk_drewN ?_ _ | refine blk_drew ?_ | refine blk_alloc ?_ _)); refine blk_far ?_ NB315_329.out _; (with_reducible repeat (first | refine blk_drewN ?_ _ | refine blk_drew ?_ | refine blk_alloc ?_ _)); refine blk_far ?_ NB315_329.out _; (with_reducible repeat (first | refine blk_drewN ?_ _ | refine blk_drew ?_ | refine blk_alloc ?_ _)); refine blk_far ?_ NB315_329.out _; (with_reducible repeat (first | refine blk_drewN ?_ _ | refine blk_drew ?_ | refine blk_alloc ?_ _)); refine blk_far ?_ NB315_329.out _; (with_reducible repeat (first | refine blk_drewN ?_ _ | refine blk_drew ?_ | refine blk_alloc ?_ _)); refine blk_far ?_ NB315_329.out _; (with_reducible repeat (first | refine blk_drewN ?_ _ | refine blk_drew ?_ | refine blk_alloc ?_ _)); refine blk_far ?_ NB315_329.out _; (with_reducible repeat (first | refine blk_drewN ?_ _ | refine blk_drew ?_ | refine blk_alloc ?_ _)); refine blk_far ?_ NB315_329.out _; (with_reducible repeat (first | refine blk_drewN ?_ _ | refine blk_drew ?_ | refine blk_alloc ?_ _)); refine blk_far ?_ NB315_329.out _; (with_reducible repeat (first | refine blk_drewN ?_ _ | refine blk_drew ?_ | refine blk_alloc ?_ _)); refine blk_far ?_ NB315_329.out _; (with_reducible repeat (first | refine blk_drewN ?_ _ | refine blk_drew ?_ | refine blk_alloc ?_ _)); refine blk_far ?_ NB315_329.out _; (with_reducible repeat (first | refine blk_drewN ?_ _ | refine blk_drew ?_ | refine blk_alloc ?_ _)); exact BK315.out⟩
        have n6_ : Aside0 (((((((((((w30.setCell ⟨gb329, 0, none⟩ (.int .i64 t316)).setCell ⟨gb329, 1, none⟩ (.int .i64 t317)).setCell ⟨gb329, 2, none⟩ (.int .i64 t318)).setCell ⟨gb329, 3, none⟩ (.int .i64 t319)).setCell ⟨gb329, 4, none⟩ (.int .i64 t320)).setCell ⟨gb329, 5, none⟩ (.int .i64 t321)).setCell ⟨gb329, 6, none⟩ (.int .i64 t322)).setCell ⟨gb329, 7, none⟩ (.bool t323)).setCell ⟨gb329, 8, none⟩ (.int .i64 t324)).setCell ⟨gb329, 9, none⟩ (.slice Ao34 t325.length co34)).heap[gb329]? = some (.cells #[.int .i64 t316, .int .i64 t317, .int .i64 t318, .int .i64 t319, .int .i64 t320, .int .i64 t321, .int .i64 t322, .bool t323, .int .i64 t324, .slice Ao34 t325.length co34] 28 (0, 0))) := ⟨by (with_reducible repeat (first | refine blk_drewN ?_ _ | refine blk_drew ?_ | refine blk_alloc ?_ _)); refine blk_put (cs := #[.int .i64 t316, .int .i64 t317, .int .i64 t318, .int .i64 t319, .int .i64 t320, .int .i64 t321, .int .i64 t322, .bool t323, .int .i64 t324, .slice none 0 0]) ?_ 9 _ rfl; (with_reducible repeat (first | refine blk_drewN ?_ _ | refine blk_drew ?_ | refine blk_alloc ?_ _)); refine blk_put (cs := #[.int .i64 t316, .int .i64 t317, .int .i64 t318, .int .i64 t319, .int .i64 t320, .int .i64 t321, .int .i64 t322, .bool t323, .int .i64 0, .slice none 0 0]) ?_ 8 _ rfl; (with_reducible repeat (first | refine blk_drewN ?_ _ | refine blk_drew ?_ | refine blk_alloc ?_ _)); refine blk_put (cs := #[.int .i64 t316, .int .i64 t317, .int .i64 t318, .int .i64 t319, .int .i64 t320, .int .i64 t321, .int .i64 t322, .bool false, .int .i64 0, .slice none 0 0]) ?_ 7 _ rfl; (with_reducible repeat (first | refine blk_drewN ?_ _ | refine blk_drew ?_ | refine blk_alloc ?_ _)); refine blk_put (cs := #[.int .i64 t316, .int .i64 t317, .int .i64 t318, .int .i64 t319, .int .i64 t320, .int .i64 t321, .int .i64 0, .bool false, .int .i64 0, .slice none 0 0]) ?_ 6 _ rfl; (with_reducible repeat (first | refine blk_drewN ?_ _ | refine blk_drew ?_ | refine blk_alloc ?_ _)); refine blk_put (cs := #[.int .i64 t316, .int .i64 t317, .int .i64 t318, .int .i64 t319, .int .i64 t320, .int .i64 0, .int .i64 0, .bool false, .int .i64 0, .slice none 0 0]) ?_ 5 _ rfl; (with_reducible repeat (first | refine blk_drewN ?_ _ | refine blk_drew ?_ | refine blk_alloc ?_ _)); refine blk_put (cs := #[.int .i64 t316, .int .i64 t317, .int .i64 t318, .int .i64 t319, .int .i64 0, .int .i64 0, .int .i64 0, .bool false, .int .i64 0, .slice none 0 0]) ?_ 4 _ rfl; (with_reducible repeat (first | refine blk_drewN ?_ _ | refine blk_drew ?_ | refine blk_alloc ?_ _)); refine blk_put (cs := #[.int .i64 t316, .int .i64 t317, .int .i64 t318, .int .i64 0, .int .i64 0, .int .i64 0, .int .i64 0, .bool false, .int .i64 0, .slice none 0 0]) ?_ 3 _ rfl; (with_reducible repeat (first | refine blk_drewN ?_ _ | refine blk_drew ?_ | refine blk_alloc ?_ _)); refine blk_put (cs := #[.int .i64 t316, .int .i64 t317, .int .i64 0, .int .i64 0, .int .i64 0, .int .i64 0, .int .i64 0, .bool false, .int .i64 0, .slice none 0 0]) ?_ 2 _ rfl; (with_reducible repeat (first | refine blk_drewN ?_ _ | refine blk_drew ?_ | refine blk_alloc ?_ _)); refine blk_put (cs := #[.int .i64 t316, .int .i64 0, .int .i64 0, .int .i64 0, .int .i64 0, .int .i64 0, .int .i64 0, .bool false, .int .i64 0, .slice none 0 0]) ?_ 1 _ rfl; (with_reducible repeat (first | refine blk_drewN ?_ _ | refine blk_drew ?_ | refine blk_alloc ?_ _)); refine blk_put (cs := #[.int .i64 0, .int .i64 0, .int .i64 0, .int .i64 0, .int .i64 0, .int .i64 0, .int .i64 0, .bool false, .int .i64 0, .slice none 0 0]) ?_ 0 _ rfl; (with_reducible repeat (first | refine blk_drewN ?_ _ | refine blk_drew ?_ | refine blk_alloc ?_ _)); exact BK329.out⟩
        have n7_ : Aside0 (Below w.heap.size w ((((((((((w30.setCell ⟨gb329, 0, none⟩ (.int .i64 t316)).setCell ⟨gb329, 1, none⟩ (.int .i64 t317)).setCell ⟨gb329, 2, none⟩ (.int .i64 t318)).setCell ⟨gb329, 3, none⟩ (.int .i64 t319)).setCell ⟨gb329, 4, none⟩ (.int .i64 t320)).setCell ⟨gb329, 5, none⟩ (.int .i64 t321)).setCell ⟨gb329, 6, none⟩ (.int .i64 t322)).setCell ⟨gb329, 7, none⟩ (.bool t323)).setCell ⟨gb329, 8, none⟩ (.int .i64 t324)).setCell ⟨gb329, 9, none⟩ (.slice Ao34 t325.length co34))) := ⟨bel⟩
        (try clear HO298)
        (try clear HO301)
        (try clear HO313)
        (try clear HO327)
        (try clear BK293)
        (try clear BK315)
        (try clear BK329)
        (try clear HB)
        generalize ((((((((((w30.setCell ⟨gb329, 0, none⟩ (.int .i64 t316)).setCell ⟨gb329, 1, none⟩ (.int .i64 t317)).setCell ⟨gb329, 2, none⟩ (.int .i64 t318)).setCell ⟨gb329, 3, none⟩ (.int .i64 t319)).setCell ⟨gb329, 4, none⟩ (.int .i64 t320)).setCell ⟨gb329, 5, none⟩ (.int .i64 t321)).setCell ⟨gb329, 6, none⟩ (.int .i64 t322)).setCell ⟨gb329, 7, none⟩ (.bool t323)).setCell ⟨gb329, 8, none⟩ (.int .i64 t324)).setCell ⟨gb329, 9, none⟩ (.slice Ao34 t325.length co34)) = w57 at n0_ n1_ n2_ n3_ n4_ n5_ n6_ n7_ ⊢
        have HO298 := n0_
        have HO301 := n1_
        have HO313 := n2_
        have HO327 := n3_
        have BK293 := n4_
        have BK315 := n5_
        have BK329 := n6_
        have HB := n7_
        clear n0_ n1_ n2_ n3_ n4_ n5_ n6_ n7_
        have n0_ := Aside0.mk (Kd.R_drew HO298.out)
        have n1_ := Aside0.mk (Kd.R_drew HO301.out)
        have n2_ := Aside0.mk (Kd.R_drew HO313.out)
        have n3_ := Aside0.mk (Kd.R_drew HO327.out)
        have n4_ := Aside0.mk (blk_drew BK293.out)
        have n5_ := Aside0.mk (blk_drew BK315.out)
        have n6_ := Aside0.mk (blk_drew BK329.out)
        have n7_ := Aside0.mk (below_drew1 HB.out)
        clear HO298
        clear HO301
        clear HO313
        clear HO327
        clear BK293
        clear BK315
        clear BK329
        clear HB
        have HO298 := n0_
        have HO301 := n1_
        have HO313 := n2_
        have HO327 := n3_
        have BK293 := n4_
        have BK315 := n5_
        have BK329 := n6_
        have HB := n7_
        clear n0_ n1_ n2_ n3_ n4_ n5_ n6_ n7_
        refine start_ (n := 24) (S := fun w' => w'.cell? ⟨gb293, 0, none⟩ = some (.int .i64 a0_0) ∧ w'.cell? ⟨gb293, 1, none⟩ = some (.int .i64 a0_1) ∧ w'.cell? ⟨gb293, 2, none⟩ = some (.int .i64 a0_2) ∧ w'.cell? ⟨gb293, 3, none⟩ = some (.int .i64 a0_3) ∧ w'.cell? ⟨gb293, 4, none⟩ = some (.int .i64 a0_4) ∧ w'.cell? ⟨gb293, 5, none⟩ = some (.int .i64 a0_5) ∧ w'.cell? ⟨gb293, 6, none⟩ = some (.int .i64 a0_6) ∧ w'.cell? ⟨gb293, 7, none⟩ = some (.bool a0_7) ∧ w'.cell? ⟨gb293, 8, none⟩ = some (.int .i64 a0_8) ∧ w'.cell? ⟨gb293, 9, none⟩ = some (.slice A0_9 l0_9.length c0_9) ∧ Xr.Rd w' (v297) t296 ∧ (convert 26 9 (v297)).run Try.prog w' = .ok (.string (strOfNums t296)) w') (ds := []) (ms 24 0) (by kernel_rfl) rfl rfl ⟨(blk_cell BK293.out 0).trans rfl, (blk_cell BK293.out 1).trans rfl, (blk_cell BK293.out 2).trans rfl, (blk_cell BK293.out 3).trans rfl, (blk_cell BK293.out 4).trans rfl, (blk_cell BK293.out 5).trans rfl, (blk_cell BK293.out 6).trans rfl, (blk_cell BK293.out 7).trans rfl, (blk_cell BK293.out 8).trans rfl, (blk_cell BK293.out 9).trans rfl, (Xr.Rd_R (by (with_reducible repeat (first | apply Kd.R_alloc | apply Kd.R_drewN | apply Kd.R_drew)); first | exact HO298.out | exact Kd.R_mono HO298.out (fun _ hk => by grind))), (Xr.Rd_string (P := Try.prog) Try.underlying26 Try.underlying5 Try.underlying9 (Xr.Rd_R (by (with_reducible repeat (first | apply Kd.R_alloc | apply Kd.R_drewN | apply Kd.R_drew)); first | exact HO298.out | exact Kd.R_mono HO298.out (fun _ hk => by grind))))⟩ (fun hHeld => ?_); refine with_tabW fountainlaw14_RecordTells.tab8 fountainlaw14_RecordTells.bits8 (fun HT_ HW_ => ?_)
        generalize w57.drew = w58 at HO298 HO301 HO313 HO327 BK293 BK315 BK329 HB hHeld ⊢
        refine run_ [(2, false, some 46), (0, true, some 44)] (n := 2) (ms 24 5) rfl HT_.out HW_.out (by kernel_rfl) (fun _ _ _ _ h => h) hHeld ?_
        repeat (first | (refine Run.p (v := ?_) (a' := ?_) rfl rfl (Or.inl ⟨by rfl, ?_⟩) ?_ ?_; rotate_left; (focus intro w'; go_simp; with_reducible rfl); rotate_left; (focus simp only [Act.put, List.setIfInBounds_toArray, List.set_cons_zero, List.set_cons_succ, i64_w, i32_w]; rfl)) | (refine Run.t (v := ?_) (a' := ?_) rfl rfl (Or.inl ⟨by rfl, ?_⟩) ?_ ?_; rotate_left; (focus rintro w' ⟨s0, s1, s2, s3, s4, s5, s6, s7, s8, s9, s10, s11⟩; go_simp; with_reducible rfl); rotate_left; (focus simp only [Act.put, List.setIfInBounds_toArray, List.set_cons_zero, List.set_cons_succ, i64_w, i32_w]; rfl)))
        refine Run.nil ?_
        refine one_ (i := 1) (N := some 45) (ms 24 7) rfl rfl (one_of HT_.out (by kernel_rfl)) (by decide) (fun K hK => ?_)
        refine goes_ Try.func14 (by kernel_rfl) rfl #[.agg #[.int .i64 a0_0, .int .i64 a0_1, .int .i64 a0_2, .int .i64 a0_3, .int .i64 a0_4, .int .i64 a0_5, .int .i64 a0_6, .bool a0_7, .int .i64 a0_8, .slice A0_9 l0_9.length c0_9]] (by rfl) rfl rfl (by (try simp only [List.map_toArray, List.map_cons, List.map_nil]); first | done | rfl | (simp only [List.length_drop, List.length_take]; rfl)) ?_
        with_reducible refine (record_Right.calls kj3 a0_0 a0_1 a0_2 a0_3 a0_4 a0_5 a0_6 a0_7 a0_8 _ _ l0_9 t330 _ ?side1 ?side2 A35.out).mono ?_
        (case side1 => repeat (first | exact (Kd.C_below HR0_9.out HB.out) | (with_reducible refine Kd.C_alloc ?_ _) | (with_reducible refine Kd.C_drewN ?_ _) | (with_reducible refine Kd.C_drew ?_)))
        (case side2 => exact HC0_9.out)
        rintro e w59 ⟨rfl, hb⟩
        have HS10_ := Xr.Rd_below (hHeld.2.2.2.2.2.2.2.2.2.2.1) hb
        have HS11_ := Xr.Rd_string (P := Try.prog) Try.underlying26 Try.underlying5 Try.underlying9 (Xr.Rd_below (hHeld.2.2.2.2.2.2.2.2.2.2.1) hb)
        refine ⟨_, rfl, ?_⟩
        have n0_ := Aside0.mk (Kd.R_below (by (with_reducible repeat (first | apply Kd.R_alloc | apply Kd.R_drewN | apply Kd.R_drew)); first | exact HO298.out | exact Kd.R_mono HO298.out (fun _ hk => by grind)) hb)
        have n1_ := Aside0.mk (Kd.R_below (by (with_reducible repeat (first | apply Kd.R_alloc | apply Kd.R_drewN | apply Kd.R_drew)); first | exact HO301.out | exact Kd.R_mono HO301.out (fun _ hk => by grind)) hb)
        have n2_ := Aside0.mk (Kd.R_below (by (with_reducible repeat (first | apply Kd.R_alloc | apply Kd.R_drewN | apply Kd.R_drew)); first | exact HO313.out | exact Kd.R_mono HO313.out (fun _ hk => by grind)) hb)
        have n3_ := Aside0.mk (Kd.R_below (by (with_reducible repeat (first | apply Kd.R_alloc | apply Kd.R_drewN | apply Kd.R_drew)); first | exact HO327.out | exact Kd.R_mono HO327.out (fun _ hk => by grind)) hb)
        have n4_ := Aside0.mk (blk_below (g := gb293) (o := .cells #[.int .i64 a0_0, .int .i64 a0_1, .int .i64 a0_2, .int .i64 a0_3, .int .i64 a0_4, .int .i64 a0_5, .int .i64 a0_6, .bool a0_7, .int .i64 a0_8, .slice A0_9 l0_9.length c0_9] 28 (0, 0)) (blk_g BK293.out) hb)
        have n5_ := Aside0.mk (blk_below (g := gb315) (o := .cells #[.int .i64 t302, .int .i64 t303, .int .i64 t304, .int .i64 t305, .int .i64 t306, .int .i64 t307, .int .i64 t308, .bool t309, .int .i64 t310, .slice Ao28 t311.length co28] 28 (0, 0)) (blk_g BK315.out) hb)
        have n6_ := Aside0.mk (blk_below (g := gb329) (o := .cells #[.int .i64 t316, .int .i64 t317, .int .i64 t318, .int .i64 t319, .int .i64 t320, .int .i64 t321, .int .i64 t322, .bool t323, .int .i64 t324, .slice Ao34 t325.length co34] 28 (0, 0)) (blk_g BK329.out) hb)
        have n7_ := Aside0.mk (belt hb)
        clear HO298
        clear HO301
        clear HO313
        clear HO327
        clear BK293
        clear BK315
        clear BK329
        clear HB
        have HO298 := n0_
        have HO301 := n1_
        have HO313 := n2_
        have HO327 := n3_
        have BK293 := n4_
        have BK315 := n5_
        have BK329 := n6_
        have HB := n7_
        clear n0_ n1_ n2_ n3_ n4_ n5_ n6_ n7_
        (try clear hb)
        (try clear hb2)
        (try clear hk)
        (try clear hi)
        refine hK.out _ _ ⟨(blk_cell BK293.out 0).trans rfl, (blk_cell BK293.out 1).trans rfl, (blk_cell BK293.out 2).trans rfl, (blk_cell BK293.out 3).trans rfl, (blk_cell BK293.out 4).trans rfl, (blk_cell BK293.out 5).trans rfl, (blk_cell BK293.out 6).trans rfl, (blk_cell BK293.out 7).trans rfl, (blk_cell BK293.out 8).trans rfl, (blk_cell BK293.out 9).trans rfl, HS10_, HS11_⟩ (fun hHeld => ?_)
        clear hK K
        refine norm_ (a' := ?_) ?_ ?_
        rotate_left
        ·show Act.put _ (some 45) _ = _
         simp only [Act.put, List.setIfInBounds_toArray, List.set_cons_zero, List.set_cons_succ, i64_w, i32_w]
         rfl
        refine run_ [(3, false, some 47), (4, false, some 48), (5, false, some 49), (6, true, some 50), (7, true, some 51)] (n := 5) (ms 24 255) rfl HT_.out HW_.out (by kernel_rfl) (fun _ _ _ _ h => h) hHeld ?_
        repeat (first | (refine Run.p (v := ?_) (a' := ?_) rfl rfl (Or.inl ⟨by rfl, ?_⟩) ?_ ?_; rotate_left; (focus intro w'; go_simp; with_reducible rfl); rotate_left; (focus simp only [Act.put, List.setIfInBounds_toArray, List.set_cons_zero, List.set_cons_succ, i64_w, i32_w]; rfl)) | (refine Run.t (v := ?_) (a' := ?_) rfl rfl (Or.inl ⟨by rfl, ?_⟩) ?_ ?_; rotate_left; (focus rintro w' ⟨s0, s1, s2, s3, s4, s5, s6, s7, s8, s9, s10, s11⟩; go_simp; with_reducible rfl); rotate_left; (focus simp only [Act.put, List.setIfInBounds_toArray, List.set_cons_zero, List.set_cons_succ, i64_w, i32_w]; rfl)))
        refine Run.nil ?_
        refine one_ (i := 8) (N := some 52) (ms 24 511) rfl rfl (one_of HT_.out (by kernel_rfl)) (by decide) (fun K hK => ?_)
        refine goes_ Try.func15 (by kernel_rfl) rfl #[.agg #[.int .i64 a0_0, .int .i64 a0_1, .int .i64 a0_2, .int .i64 a0_3, .int .i64 a0_4, .int .i64 a0_5, .int .i64 a0_6, .bool a0_7, .int .i64 a0_8, .slice A0_9 l0_9.length c0_9]] (by rfl) rfl rfl (by (try simp only [List.map_toArray, List.map_cons, List.map_nil]); first | done | rfl | (simp only [List.length_drop, List.length_take]; rfl)) ?_
        with_reducible refine (fountainref14_RecordBytes.calls kj3 a0_0 a0_1 a0_2 a0_3 a0_4 a0_5 a0_6 a0_7 a0_8 _ _ l0_9 t331 _ ?side1 ?side2 A40.out).mono ?_
        (case side1 => repeat (first | exact (Kd.C_below HR0_9.out HB.out) | (with_reducible refine Kd.C_alloc ?_ _) | (with_reducible refine Kd.C_drewN ?_ _) | (with_reducible refine Kd.C_drew ?_)))
        (case side2 => exact HC0_9.out)
        rintro e w60 ⟨v332, rfl, ho0, hb⟩
        have HS10_ := Xr.Rd_below (hHeld.2.2.2.2.2.2.2.2.2.2.1) hb
        have HS11_ := Xr.Rd_string (P := Try.prog) Try.underlying26 Try.underlying5 Try.underlying9 (Xr.Rd_below (hHeld.2.2.2.2.2.2.2.2.2.2.1) hb)
        refine ⟨_, rfl, ?_⟩
        have n0_ := Aside0.mk (Kd.R_elder' (by (with_reducible repeat (first | apply Kd.R_alloc | apply Kd.R_drewN | apply Kd.R_drew)); first | exact HO298.out | exact Kd.R_mono HO298.out (fun _ hk => by grind)) (Kd.R_base ho0) hb)
        have n1_ := Aside0.mk (Kd.R_elder' (by (with_reducible repeat (first | apply Kd.R_alloc | apply Kd.R_drewN | apply Kd.R_drew)); first | exact HO301.out | exact Kd.R_mono HO301.out (fun _ hk => by grind)) (Kd.R_base ho0) hb)
        have n2_ := Aside0.mk (Kd.R_elder' (by (with_reducible repeat (first | apply Kd.R_alloc | apply Kd.R_drewN | apply Kd.R_drew)); first | exact HO313.out | exact Kd.R_mono HO313.out (fun _ hk => by grind)) (Kd.R_base ho0) hb)
        have n3_ := Aside0.mk (Kd.R_elder' (by (with_reducible repeat (first | apply Kd.R_alloc | apply Kd.R_drewN | apply Kd.R_drew)); first | exact HO327.out | exact Kd.R_mono HO327.out (fun _ hk => by grind)) (Kd.R_base ho0) hb)
        have n4_ := Aside0.mk (Kd.R_lower (Kd.R_new' (Kd.R_new' (Kd.R_new' (Kd.R_new' ho0 (Kd.R_lt (by (with_reducible repeat (first | apply Kd.R_alloc | apply Kd.R_drewN | apply Kd.R_drew)); first | exact HO298.out | exact Kd.R_mono HO298.out (fun _ hk => by grind)))) (Kd.R_lt (by (with_reducible repeat (first | apply Kd.R_alloc | apply Kd.R_drewN | apply Kd.R_drew)); first | exact HO301.out | exact Kd.R_mono HO301.out (fun _ hk => by grind)))) (Kd.R_lt (by (with_reducible repeat (first | apply Kd.R_alloc | apply Kd.R_drewN | apply Kd.R_drew)); first | exact HO313.out | exact Kd.R_mono HO313.out (fun _ hk => by grind)))) (Kd.R_lt (by (with_reducible repeat (first | apply Kd.R_alloc | apply Kd.R_drewN | apply Kd.R_drew)); first | exact HO327.out | exact Kd.R_mono HO327.out (fun _ hk => by grind)))) bels)
        have n5_ := Aside0.mk (blk_below (g := gb293) (o := .cells #[.int .i64 a0_0, .int .i64 a0_1, .int .i64 a0_2, .int .i64 a0_3, .int .i64 a0_4, .int .i64 a0_5, .int .i64 a0_6, .bool a0_7, .int .i64 a0_8, .slice A0_9 l0_9.length c0_9] 28 (0, 0)) (blk_g BK293.out) hb)
        have n6_ := Aside0.mk (blk_below (g := gb315) (o := .cells #[.int .i64 t302, .int .i64 t303, .int .i64 t304, .int .i64 t305, .int .i64 t306, .int .i64 t307, .int .i64 t308, .bool t309, .int .i64 t310, .slice Ao28 t311.length co28] 28 (0, 0)) (blk_g BK315.out) hb)
        have n7_ := Aside0.mk (blk_below (g := gb329) (o := .cells #[.int .i64 t316, .int .i64 t317, .int .i64 t318, .int .i64 t319, .int .i64 t320, .int .i64 t321, .int .i64 t322, .bool t323, .int .i64 t324, .slice Ao34 t325.length co34] 28 (0, 0)) (blk_g BK329.out) hb)
        have n8_ := Aside0.mk (belt hb)
        clear HO298
        clear HO301
        clear HO313
        clear HO327
        clear BK293
        clear BK315
        clear BK329
        clear HB
        have HO298 := n0_
        have HO301 := n1_
        have HO313 := n2_
        have HO327 := n3_
        have HO333 := n4_
        have BK293 := n5_
        have BK315 := n6_
        have BK329 := n7_
        have HB := n8_
        clear n0_ n1_ n2_ n3_ n4_ n5_ n6_ n7_ n8_
        (try clear hb)
        (try clear hb2)
        (try clear hk)
        (try clear hi)
        (try clear ho0)
        refine hK.out _ _ ⟨(blk_cell BK293.out 0).trans rfl, (blk_cell BK293.out 1).trans rfl, (blk_cell BK293.out 2).trans rfl, (blk_cell BK293.out 3).trans rfl, (blk_cell BK293.out 4).trans rfl, (blk_cell BK293.out 5).trans rfl, (blk_cell BK293.out 6).trans rfl, (blk_cell BK293.out 7).trans rfl, (blk_cell BK293.out 8).trans rfl, (blk_cell BK293.out 9).trans rfl, HS10_, HS11_⟩ (fun hHeld => ?_)
        clear hK K
        refine norm_ (a' := ?_) ?_ ?_
        rotate_left
        ·show Act.put _ (some 52) _ = _
         simp only [Act.put, List.setIfInBounds_toArray, List.set_cons_zero, List.set_cons_succ, i64_w, i32_w]
         rfl
        refine one_ (i := 9) (N := some 53) (ms 24 1023) rfl rfl (one_of HT_.out (by kernel_rfl)) (by decide) (fun K hK => ?_)
        have hcv61 := own_string (P := Try.prog) Try.underlying26 Try.underlying5 Try.underlying9 (Kd.own_of_R HO333.out)
        refine value_ (w1 := ?_) (v := ?_) (by rfl) rfl ?_ ?_
        rotate_left 2
        ·go_simp
         constructor
         ·rfl
         ·rfl
        clear hcv61
        refine hK.out _ _ ⟨(blk_cell BK293.out 0).trans rfl, (blk_cell BK293.out 1).trans rfl, (blk_cell BK293.out 2).trans rfl, (blk_cell BK293.out 3).trans rfl, (blk_cell BK293.out 4).trans rfl, (blk_cell BK293.out 5).trans rfl, (blk_cell BK293.out 6).trans rfl, (blk_cell BK293.out 7).trans rfl, (blk_cell BK293.out 8).trans rfl, (blk_cell BK293.out 9).trans rfl, hHeld.2.2.2.2.2.2.2.2.2.2.1, hHeld.2.2.2.2.2.2.2.2.2.2.2⟩ (fun hHeld => ?_)
        clear hK K
        refine norm_ (a' := ?_) ?_ ?_
        rotate_left
        ·show Act.put _ (some 53) _ = _
         simp only [Act.put, List.setIfInBounds_toArray, List.set_cons_zero, List.set_cons_succ, i64_w, i32_w]
         rfl
        refine run_ [(10, false, some 54), (11, false, some 55), (12, false, some 56)] (n := 3) (ms 24 8191) rfl HT_.out HW_.out (by kernel_rfl) (fun _ _ _ _ h => h) hHeld ?_
        repeat (refine Run.p (v := ?_) (a' := ?_) rfl rfl (Or.inl ⟨by rfl, ?_⟩) ?_ ?_; rotate_left; (focus intro w'; go_simp; with_reducible rfl); rotate_left; (focus simp only [Act.put, List.setIfInBounds_toArray, List.set_cons_zero, List.set_cons_succ, i64_w, i32_w]; rfl))
        refine Run.nil ?_
        refine pure_ (i := 13) (N := some 57) (v := undef) (a' := ?_) (ms 24 16383) rfl rfl (any_of HT_.out (by kernel_rfl)) (fun _ _ _ h => h) (Or.inr ⟨by rfl, rfl⟩) ?_ ?_
        rotate_left
        ·simp only [Act.put, List.setIfInBounds_toArray, List.set_cons_zero, List.set_cons_succ, i64_w, i32_w]
         rfl
        refine pure_ (i := 14) (N := some 58) (v := undef) (a' := ?_) (ms 24 32767) rfl rfl (any_of HT_.out (by kernel_rfl)) (fun _ _ _ h => h) (Or.inr ⟨by rfl, rfl⟩) ?_ ?_
        rotate_left
        ·simp only [Act.put, List.setIfInBounds_toArray, List.set_cons_zero, List.set_cons_succ, i64_w, i32_w]
         rfl
        refine pure_ (i := 15) (N := some 59) (v := undef) (a' := ?_) (ms 24 65535) rfl rfl (any_of HT_.out (by kernel_rfl)) (fun _ _ _ h => h) (Or.inr ⟨by rfl, rfl⟩) ?_ ?_
        rotate_left
        ·simp only [Act.put, List.setIfInBounds_toArray, List.set_cons_zero, List.set_cons_succ, i64_w, i32_w]
         rfl
        refine pure_ (i := 16) (N := some 60) (v := undef) (a' := ?_) (ms 24 131071) rfl rfl (any_of HT_.out (by kernel_rfl)) (fun _ _ _ h => h) (Or.inr ⟨by rfl, rfl⟩) ?_ ?_
        rotate_left
        ·simp only [Act.put, List.setIfInBounds_toArray, List.set_cons_zero, List.set_cons_succ, i64_w, i32_w]
         rfl
        refine run_ [(17, false, some 61), (18, false, some 62)] (n := 2) (ms 24 524287) rfl HT_.out HW_.out (by kernel_rfl) (fun _ _ _ _ h => h) hHeld ?_
        repeat (refine Run.p (v := ?_) (a' := ?_) rfl rfl (Or.inl ⟨by rfl, ?_⟩) ?_ ?_; rotate_left; (focus intro w'; go_simp; with_reducible rfl); rotate_left; (focus simp only [Act.put, List.setIfInBounds_toArray, List.set_cons_zero, List.set_cons_succ, i64_w, i32_w]; rfl))
        refine Run.nil ?_
        refine pure_ (i := 19) (N := some 63) (v := undef) (a' := ?_) (ms 24 1048575) rfl rfl (any_of HT_.out (by kernel_rfl)) (fun _ _ _ h => h) (Or.inr ⟨by rfl, rfl⟩) ?_ ?_
        rotate_left
        ·simp only [Act.put, List.setIfInBounds_toArray, List.set_cons_zero, List.set_cons_succ, i64_w, i32_w]
         rfl
        refine pure_ (i := 20) (N := some 64) (v := undef) (a' := ?_) (ms 24 2097151) rfl rfl (any_of HT_.out (by kernel_rfl)) (fun _ _ _ h => h) (Or.inr ⟨by rfl, rfl⟩) ?_ ?_
        rotate_left
        ·simp only [Act.put, List.setIfInBounds_toArray, List.set_cons_zero, List.set_cons_succ, i64_w, i32_w]
         rfl
        refine pure_ (i := 21) (N := some 65) (v := undef) (a' := ?_) (ms 24 4194303) rfl rfl (any_of HT_.out (by kernel_rfl)) (fun _ _ _ h => h) (Or.inr ⟨by rfl, rfl⟩) ?_ ?_
        rotate_left
        ·simp only [Act.put, List.setIfInBounds_toArray, List.set_cons_zero, List.set_cons_succ, i64_w, i32_w]
         rfl
        refine pure_ (i := 22) (N := some 66) (v := undef) (a' := ?_) (ms 24 8388607) rfl rfl (any_of HT_.out (by kernel_rfl)) (fun _ _ _ h => h) (Or.inr ⟨by rfl, rfl⟩) ?_ ?_
        rotate_left
        ·simp only [Act.put, List.setIfInBounds_toArray, List.set_cons_zero, List.set_cons_succ, i64_w, i32_w]
         rfl
        refine pure_ (i := 23) (N := some 67) (v := ?_) (a' := ?_) (ms 24 16777215) rfl rfl (any_of HT_.out (by kernel_rfl)) (fun _ _ _ h => h) (Or.inl ⟨by rfl, ?_⟩) ?_ ?_
        rotate_left
        ·intro w'
         go_simp
         with_reducible rfl
        rotate_left
        ·simp only [Act.put, List.setIfInBounds_toArray, List.set_cons_zero, List.set_cons_succ, i64_w, i32_w]
         rfl
        refine done_ (done_of HT_.out (by kernel_rfl)) ?_
        try go_wp2
        go_meet
        case rel => exact ⟨_, (true), (by first | rfl | (simp; done) | (simp [*]; done)), H', ⟨by have := HJ3.out; first | omega | exact Nat.le_refl _⟩, ⟨by (with_reducible repeat (first | apply Kd.R_alloc | apply Kd.R_drewN | apply Kd.R_drew)); exact Kd.R_mono HO298.out (fun _ hk => by first | exact ⟨hk.1.2.1, hk.1.2.2⟩ | exact hk | grind)⟩, ⟨by (with_reducible repeat (first | apply Kd.R_alloc | apply Kd.R_drewN | apply Kd.R_drew)); exact Kd.R_mono HO313.out (fun _ hk => by first | exact ⟨hk.1.1, hk.1.2.2⟩ | exact hk | grind)⟩, ⟨by (with_reducible repeat (first | apply Kd.R_alloc | apply Kd.R_drewN | apply Kd.R_drew)); exact Kd.R_mono HO327.out (fun _ hk => by first | exact ⟨hk.1.1, hk.1.2.2⟩ | exact hk | grind)⟩, ⟨by (with_reducible repeat (first | refine blk_drewN ?_ _ | refine blk_drew ?_ | refine blk_alloc ?_ _)); exact BK293.out⟩, ⟨by (with_reducible repeat (first | refine blk_drewN ?_ _ | refine blk_drew ?_ | refine blk_alloc ?_ _)); exact BK315.out⟩, ⟨by (with_reducible repeat (first | refine blk_drewN ?_ _ | refine blk_drew ?_ | refine blk_alloc ?_ _)); exact BK329.out⟩, ⟨bel⟩⟩
     case rest =>
      clear HC17
      try clear c1
      try clear p2
      try clear c4
      try clear hcv5
      try clear hcv6
      try clear c14
      try clear c15
      try clear c16
      try clear c41
      try clear c41b0
      try clear c41b1
      try clear hcv55
      try clear hcv61
      obtain ⟨kq, x67_16, rfl, HA, HJ16, HO_7, HO_316009, HO_330009, BK293, BK315, BK329, HB⟩ := hcut
      cases kq with
      | zero => exact absurd HA.out (by simp [fountainlaw14_RecordTells.j1])
      | succ kj16 =>
       have H := HA.out
       clear HA
       simp only [fountainlaw14_RecordTells.j1] at H
       by_cases c62 : x67_16 = true
       ·subst c62
        have H1 : (some false) = some r := by rw [if_pos rfl] at H; exact H
        clear H
        have H := H1
        clear H1
        exact absurd ((Option.some.inj H).trans HRT.out) (by decide)
       ·replace c62 := Bool.eq_false_iff.mpr c62
        subst c62
        have H1 : ((record_Read.f kj16 t296).bind fun bt336 => (if t295 = true then ((fountainlaw14_num.f bt336.2.2.2.2.2.2.2.2.2.2).bind fun t350 => (if t350 = 0 then ((fountainref14_SameRecord.f bt336.1 bt336.2.1 bt336.2.2.1 bt336.2.2.2.1 bt336.2.2.2.2.1 bt336.2.2.2.2.2.1 bt336.2.2.2.2.2.2.1 bt336.2.2.2.2.2.2.2.1 bt336.2.2.2.2.2.2.2.2.1 bt336.2.2.2.2.2.2.2.2.2.1 a0_0 a0_1 a0_2 a0_3 a0_4 a0_5 a0_6 a0_7 a0_8 l0_9).bind fun t351 => (some t351)) else (some false))) else (if (t296.length : Int) = 0 then (some true) else (some false)))) = some r := by rw [if_neg (show ¬ (false = true) by decide)] at H; exact H
        clear H
        have H := H1
        clear H1
        replace H := Option.bind_eq_some_iff.mp H
        obtain ⟨⟨t336, t337, t338, t339, t340, t341, t342, t343, t344, t345, t348⟩, A630, H⟩ := H
        replace H : (if t295 = true then ((fountainlaw14_num.f t348).bind fun t350 => (if t350 = 0 then ((fountainref14_SameRecord.f t336 t337 t338 t339 t340 t341 t342 t343 t344 t345 a0_0 a0_1 a0_2 a0_3 a0_4 a0_5 a0_6 a0_7 a0_8 l0_9).bind fun t351 => (some t351)) else (some false))) else (if (t296.length : Int) = 0 then (some true) else (some false))) = some r := H
        have A63 := Aside0.mk A630
        clear A630
        by_cases c64 : t295 = true
        ·subst c64
         have H1 : ((fountainlaw14_num.f t348).bind fun t350 => (if t350 = 0 then ((fountainref14_SameRecord.f t336 t337 t338 t339 t340 t341 t342 t343 t344 t345 a0_0 a0_1 a0_2 a0_3 a0_4 a0_5 a0_6 a0_7 a0_8 l0_9).bind fun t351 => (some t351)) else (some false))) = some r := by rw [if_pos rfl] at H; exact H
         clear H
         have H := H1
         clear H1
         replace H := Option.bind_eq_some_iff.mp H
         obtain ⟨t350, A650, H⟩ := H
         replace H : (if t350 = 0 then ((fountainref14_SameRecord.f t336 t337 t338 t339 t340 t341 t342 t343 t344 t345 a0_0 a0_1 a0_2 a0_3 a0_4 a0_5 a0_6 a0_7 a0_8 l0_9).bind fun t351 => (some t351)) else (some false)) = some r := H
         have A65 := Aside0.mk A650
         clear A650
         by_cases c66 : t350 = 0
         ·rw [if_pos c66] at H
          have c66b0 : (t350 == 0) = true := beq_iff_eq.mpr c66
          have c66b1 : (t350 != 0) = false := bne_eq_false_iff_eq.mpr c66
          clear c66
          replace H := Option.bind_eq_some_iff.mp H
          obtain ⟨t351, A670, H⟩ := H
          replace H : (some t351) = some r := H
          have A67 := Aside0.mk A670
          clear A670
          obtain rfl := Option.some.inj H
          obtain ⟨Ao68, co68, eo68⟩ := Kd.R_slice HO_7.out
          subst eo68
          go_wp2_with (first | ((with_reducible refine gate_callee (f := 12) rfl ?_); refine goesL_ (some 70) rfl rfl Try.func12 (by kernel_rfl) rfl #[.slice Ao68 t296.length co68] rfl (by (try simp only [List.map_toArray, List.map_cons, List.map_nil]); first | done | rfl | (simp only [List.length_drop, List.length_take]; rfl)) ?_; (with_reducible refine (record_Read.calls kj16 _ _ t296 t336 t337 t338 t339 t340 t341 t342 t343 t344 t345 t348 _ ?side1 ?side2 A63.out).mono ?_); (case side1 => repeat (first | exact (Kd.R_reads' HO_7.out).2.2 | (with_reducible refine Kd.C_alloc ?_ _) | (with_reducible refine Kd.C_drewN ?_ _) | (with_reducible refine Kd.C_drew ?_))); (case side2 => exact (Kd.R_reads' HO_7.out).2.1); rintro e w69 ⟨v346, rfl, ho0, hb⟩; refine ⟨_, rfl, ?_⟩; have n0_ := Aside0.mk (Kd.R_elder' (by (with_reducible repeat (first | apply Kd.R_alloc | apply Kd.R_drewN | apply Kd.R_drew)); first | exact HO_7.out | exact Kd.R_mono HO_7.out (fun _ hk => by grind)) (Kd.R_base ho0) hb); have n1_ := Aside0.mk (Kd.R_elder' (by (with_reducible repeat (first | apply Kd.R_alloc | apply Kd.R_drewN | apply Kd.R_drew)); first | exact HO_316009.out | exact Kd.R_mono HO_316009.out (fun _ hk => by grind)) (Kd.R_base ho0) hb); have n2_ := Aside0.mk (Kd.R_elder' (by (with_reducible repeat (first | apply Kd.R_alloc | apply Kd.R_drewN | apply Kd.R_drew)); first | exact HO_330009.out | exact Kd.R_mono HO_330009.out (fun _ hk => by grind)) (Kd.R_base ho0) hb); have n3_ := Aside0.mk (Kd.R_lower (Kd.R_new' (Kd.R_new' (Kd.R_new' ho0 (Kd.R_lt (by (with_reducible repeat (first | apply Kd.R_alloc | apply Kd.R_drewN | apply Kd.R_drew)); first | exact HO_7.out | exact Kd.R_mono HO_7.out (fun _ hk => by grind)))) (Kd.R_lt (by (with_reducible repeat (first | apply Kd.R_alloc | apply Kd.R_drewN | apply Kd.R_drew)); first | exact HO_316009.out | exact Kd.R_mono HO_316009.out (fun _ hk => by grind)))) (Kd.R_lt (by (with_reducible repeat (first | apply Kd.R_alloc | apply Kd.R_drewN | apply Kd.R_drew)); first | exact HO_330009.out | exact Kd.R_mono HO_330009.out (fun _ hk => by grind)))) bels); have n4_ := Aside0.mk (blk_below (g := gb293) (o := .cells #[.int .i64 a0_0, .int .i64 a0_1, .int .i64 a0_2, .int .i64 a0_3, .int .i64 a0_4, .int .i64 a0_5, .int .i64 a0_6, .bool a0_7, .int .i64 a0_8, .slice A0_9 l0_9.length c0_9] 28 (0, 0)) (blk_g BK293.out) hb); have n5_ := Aside0.mk (blk_below (g := gb315) (o := .cells #[.int .i64 t302, .int .i64 t303, .int .i64 t304, .int .i64 t305, .int .i64 t306, .int .i64 t307, .int .i64 t308, .bool t309, .int .i64 t310, .slice Ao28 t311.length co28] 28 (0, 0)) (blk_g BK315.out) hb); have n6_ := Aside0.mk (blk_below (g := gb329) (o := .cells #[.int .i64 t316, .int .i64 t317, .int .i64 t318, .int .i64 t319, .int .i64 t320, .int .i64 t321, .int .i64 t322, .bool t323, .int .i64 t324, .slice Ao34 t325.length co34] 28 (0, 0)) (blk_g BK329.out) hb); have n7_ := Aside0.mk (belt hb); clear HO_7; clear HO_316009; clear HO_330009; clear BK293; clear BK315; clear BK329; clear HB; have HO_7 := n0_; have HO_316009 := n1_; have HO_330009 := n2_; have HO347 := n3_; have BK293 := n4_; have BK315 := n5_; have BK329 := n6_; have HB := n7_; clear n0_ n1_ n2_ n3_ n4_ n5_ n6_ n7_; (try clear hb); (try clear hb2); (try clear hk); (try clear hi); (try clear ho0)) | ((with_reducible refine gate_dst (N := 12) rfl ?_); (try (refine gate_guard (by rfl) ?_; dsimp only)); refine box_event ?hg (N := 12) ?hd (cs := #[.int .i64 0, .int .i64 0, .int .i64 0, .int .i64 0, .int .i64 0, .int .i64 0, .int .i64 0, .bool false, .int .i64 0, .slice none 0 0]) (t := 28) ?hr ?_; (case hd => rfl); (case hg => rfl); (case hr => first | (go_simp; done) | (go_simp; rfl)); intro gb349 hg w70 hbox hb; have n0_ := Aside0.mk (Kd.R_below (by (with_reducible repeat (first | apply Kd.R_alloc | apply Kd.R_drewN | apply Kd.R_drew)); first | exact HO_7.out | exact Kd.R_mono HO_7.out (fun _ hk => by grind)) hb); have n1_ := Aside0.mk (Kd.R_below (by (with_reducible repeat (first | apply Kd.R_alloc | apply Kd.R_drewN | apply Kd.R_drew)); first | exact HO_316009.out | exact Kd.R_mono HO_316009.out (fun _ hk => by grind)) hb); have n2_ := Aside0.mk (Kd.R_below (by (with_reducible repeat (first | apply Kd.R_alloc | apply Kd.R_drewN | apply Kd.R_drew)); first | exact HO_330009.out | exact Kd.R_mono HO_330009.out (fun _ hk => by grind)) hb); have n3_ := Aside0.mk (Kd.R_below (by (with_reducible repeat (first | apply Kd.R_alloc | apply Kd.R_drewN | apply Kd.R_drew)); first | exact HO347.out | exact Kd.R_mono HO347.out (fun _ hk => by grind)) hb); have n4_ := Aside0.mk (blk_below (g := gb293) (o := .cells #[.int .i64 a0_0, .int .i64 a0_1, .int .i64 a0_2, .int .i64 a0_3, .int .i64 a0_4, .int .i64 a0_5, .int .i64 a0_6, .bool a0_7, .int .i64 a0_8, .slice A0_9 l0_9.length c0_9] 28 (0, 0)) (blk_g BK293.out) hb); have n5_ := Aside0.mk (blk_below (g := gb315) (o := .cells #[.int .i64 t302, .int .i64 t303, .int .i64 t304, .int .i64 t305, .int .i64 t306, .int .i64 t307, .int .i64 t308, .bool t309, .int .i64 t310, .slice Ao28 t311.length co28] 28 (0, 0)) (blk_g BK315.out) hb); have n6_ := Aside0.mk (blk_below (g := gb329) (o := .cells #[.int .i64 t316, .int .i64 t317, .int .i64 t318, .int .i64 t319, .int .i64 t320, .int .i64 t321, .int .i64 t322, .bool t323, .int .i64 t324, .slice Ao34 t325.length co34] 28 (0, 0)) (blk_g BK329.out) hb); have n7_ := Aside0.mk (belt hb); have n8_ := Aside0.mk (hbox); have n9_ := Aside0.mk ((by rw [hg]; exact bels : w.heap.size ≤ gb349)); have n10_ := Aside0.mk ((by rw [hg]; exact bels : w.heap.size ≤ gb349)); have n11_ := Aside0.mk ((by rw [hg]; exact Nat.ne_of_lt (blk_lt (g := gb293) (o := .cells #[.int .i64 a0_0, .int .i64 a0_1, .int .i64 a0_2, .int .i64 a0_3, .int .i64 a0_4, .int .i64 a0_5, .int .i64 a0_6, .bool a0_7, .int .i64 a0_8, .slice A0_9 l0_9.length c0_9] 28 (0, 0)) (blk_g BK293.out)) : gb293 ≠ gb349)); have n12_ := Aside0.mk ((by rw [hg]; exact Nat.ne_of_gt (blk_lt (g := gb293) (o := .cells #[.int .i64 a0_0, .int .i64 a0_1, .int .i64 a0_2, .int .i64 a0_3, .int .i64 a0_4, .int .i64 a0_5, .int .i64 a0_6, .bool a0_7, .int .i64 a0_8, .slice A0_9 l0_9.length c0_9] 28 (0, 0)) (blk_g BK293.out)) : gb349 ≠ gb293)); have n13_ := Aside0.mk ((by rw [hg]; exact Nat.ne_of_lt (blk_lt (g := gb315) (o := .cells #[.int .i64 t302, .int .i64 t303, .int .i64 t304, .int .i64 t305, .int .i64 t306, .int .i64 t307, .int .i64 t308, .bool t309, .int .i64 t310, .slice Ao28 t311.length co28] 28 (0, 0)) (blk_g BK315.out)) : gb315 ≠ gb349)); have n14_ := Aside0.mk ((by rw [hg]; exact Nat.ne_of_gt (blk_lt (g := gb315) (o := .cells #[.int .i64 t302, .int .i64 t303, .int .i64 t304, .int .i64 t305, .int .i64 t306, .int .i64 t307, .int .i64 t308, .bool t309, .int .i64 t310, .slice Ao28 t311.length co28] 28 (0, 0)) (blk_g BK315.out)) : gb349 ≠ gb315)); have n15_ := Aside0.mk ((by rw [hg]; exact Nat.ne_of_lt (blk_lt (g := gb329) (o := .cells #[.int .i64 t316, .int .i64 t317, .int .i64 t318, .int .i64 t319, .int .i64 t320, .int .i64 t321, .int .i64 t322, .bool t323, .int .i64 t324, .slice Ao34 t325.length co34] 28 (0, 0)) (blk_g BK329.out)) : gb329 ≠ gb349)); have n16_ := Aside0.mk ((by rw [hg]; exact Nat.ne_of_gt (blk_lt (g := gb329) (o := .cells #[.int .i64 t316, .int .i64 t317, .int .i64 t318, .int .i64 t319, .int .i64 t320, .int .i64 t321, .int .i64 t322, .bool t323, .int .i64 t324, .slice Ao34 t325.length co34] 28 (0, 0)) (blk_g BK329.out)) : gb349 ≠ gb329)); clear HO_7; clear HO_316009; clear HO_330009; clear HO347; clear BK293; clear BK315; clear BK329; clear HB; have HO_7 := n0_; have HO_316009 := n1_; have HO_330009 := n2_; have HO347 := n3_; have BK293 := n4_; have BK315 := n5_; have BK329 := n6_; have HB := n7_; have BK349 := n8_; have GW349 := n9_; have GE349 := n10_; have NB293_349 := n11_; have NB349_293 := n12_; have NB315_349 := n13_; have NB349_315 := n14_; have NB329_349 := n15_; have NB349_329 := n16_; clear n0_ n1_ n2_ n3_ n4_ n5_ n6_ n7_ n8_ n9_ n10_ n11_ n12_ n13_ n14_ n15_ n16_; clear hb hbox hg; have hnb71 := NB349_293.out; have hnc71 := NB293_349.out; have hnb72 := NB349_315.out; have hnc72 := NB315_349.out; have hnb73 := NB349_329.out; have hnc73 := NB329_349.out; have hcz74_0 : w70.cell? ⟨gb349, 0, none⟩ = some (.int .i64 0) := (blk_cell BK349.out 0).trans rfl; have hcz74_1 : w70.cell? ⟨gb349, 1, none⟩ = some (.int .i64 0) := (blk_cell BK349.out 1).trans rfl; have hcz74_2 : w70.cell? ⟨gb349, 2, none⟩ = some (.int .i64 0) := (blk_cell BK349.out 2).trans rfl; have hcz74_3 : w70.cell? ⟨gb349, 3, none⟩ = some (.int .i64 0) := (blk_cell BK349.out 3).trans rfl; have hcz74_4 : w70.cell? ⟨gb349, 4, none⟩ = some (.int .i64 0) := (blk_cell BK349.out 4).trans rfl; have hcz74_5 : w70.cell? ⟨gb349, 5, none⟩ = some (.int .i64 0) := (blk_cell BK349.out 5).trans rfl; have hcz74_6 : w70.cell? ⟨gb349, 6, none⟩ = some (.int .i64 0) := (blk_cell BK349.out 6).trans rfl; have hcz74_7 : w70.cell? ⟨gb349, 7, none⟩ = some (.bool false) := (blk_cell BK349.out 7).trans rfl; have hcz74_8 : w70.cell? ⟨gb349, 8, none⟩ = some (.int .i64 0) := (blk_cell BK349.out 8).trans rfl; have hcz74_9 : w70.cell? ⟨gb349, 9, none⟩ = some (.slice none 0 0) := (blk_cell BK349.out 9).trans rfl; have hfz74_0 := blk_frozen BK349.out 0; have hfz74_1 := blk_frozen BK349.out 1; have hfz74_2 := blk_frozen BK349.out 2; have hfz74_3 := blk_frozen BK349.out 3; have hfz74_4 := blk_frozen BK349.out 4; have hfz74_5 := blk_frozen BK349.out 5; have hfz74_6 := blk_frozen BK349.out 6; have hfz74_7 := blk_frozen BK349.out 7; have hfz74_8 := blk_frozen BK349.out 8; have hfz74_9 := blk_frozen BK349.out 9; obtain ⟨Ao75, co75, eo75⟩ := Kd.R_slice HO347.out; subst eo75) | (go_at_call 17; (with_reducible refine (fountainlaw14_num.calls t348 t350 _ A65.out).mono ?_); rintro e w' ⟨rfl, ⟨nd, rfl⟩⟩; have hnb76 := NB293_315.out; have hnc76 := NB315_293.out; have hnb77 := NB293_329.out; have hnc77 := NB329_293.out; have hcz78_0 : w70.cell? ⟨gb293, 0, none⟩ = some (.int .i64 a0_0) := (blk_cell BK293.out 0).trans rfl; have hcz78_1 : w70.cell? ⟨gb293, 1, none⟩ = some (.int .i64 a0_1) := (blk_cell BK293.out 1).trans rfl; have hcz78_2 : w70.cell? ⟨gb293, 2, none⟩ = some (.int .i64 a0_2) := (blk_cell BK293.out 2).trans rfl; have hcz78_3 : w70.cell? ⟨gb293, 3, none⟩ = some (.int .i64 a0_3) := (blk_cell BK293.out 3).trans rfl; have hcz78_4 : w70.cell? ⟨gb293, 4, none⟩ = some (.int .i64 a0_4) := (blk_cell BK293.out 4).trans rfl; have hcz78_5 : w70.cell? ⟨gb293, 5, none⟩ = some (.int .i64 a0_5) := (blk_cell BK293.out 5).trans rfl; have hcz78_6 : w70.cell? ⟨gb293, 6, none⟩ = some (.int .i64 a0_6) := (blk_cell BK293.out 6).trans rfl; have hcz78_7 : w70.cell? ⟨gb293, 7, none⟩ = some (.bool a0_7) := (blk_cell BK293.out 7).trans rfl; have hcz78_8 : w70.cell? ⟨gb293, 8, none⟩ = some (.int .i64 a0_8) := (blk_cell BK293.out 8).trans rfl; have hcz78_9 : w70.cell? ⟨gb293, 9, none⟩ = some (.slice A0_9 l0_9.length c0_9) := (blk_cell BK293.out 9).trans rfl; have hfz78_0 := blk_frozen BK293.out 0; have hfz78_1 := blk_frozen BK293.out 1; have hfz78_2 := blk_frozen BK293.out 2; have hfz78_3 := blk_frozen BK293.out 3; have hfz78_4 := blk_frozen BK293.out 4; have hfz78_5 := blk_frozen BK293.out 5; have hfz78_6 := blk_frozen BK293.out 6; have hfz78_7 := blk_frozen BK293.out 7; have hfz78_8 := blk_frozen BK293.out 8; have hfz78_9 := blk_frozen BK293.out 9) | (go_at_call 16; (with_reducible refine (fountainref14_SameRecord.calls t336 t337 t338 t339 t340 t341 t342 t343 t344 _ _ t345 a0_0 a0_1 a0_2 a0_3 a0_4 a0_5 a0_6 a0_7 a0_8 _ _ l0_9 t351 _ ?side1 ?side2 ?side3 ?side4 A67.out).mono ?_); (case side1 => refine (Kd.R_reads' (e := 5) (base := w.heap.size) (ok := fun k_ => (((True ∧ some k_ ≠ (.slice Ao68 t296.length co68 : Value).ownBlock) ∧ some k_ ≠ (.slice Ao28 t311.length co28 : Value).ownBlock) ∧ some k_ ≠ (.slice Ao34 t325.length co34 : Value).ownBlock)) (n := t345.length) (c := co75) ?_).2.2; exact (R_g (Kd.R_mono (Kd.R_far (p := ⟨gb349, 9, none⟩) (Kd.R_far (p := ⟨gb349, 8, none⟩) (Kd.R_far (p := ⟨gb349, 7, none⟩) (Kd.R_far (p := ⟨gb349, 6, none⟩) (Kd.R_far (p := ⟨gb349, 5, none⟩) (Kd.R_far (p := ⟨gb349, 4, none⟩) (Kd.R_far (p := ⟨gb349, 3, none⟩) (Kd.R_far (p := ⟨gb349, 2, none⟩) (Kd.R_far (p := ⟨gb349, 1, none⟩) (Kd.R_far (p := ⟨gb349, 0, none⟩) (Kd.R_types HO347.out BK349.out (by decide)) (fun _ hk => by first | exact hk.2 | exact hk | grind) (.int .i64 t336)) (fun _ hk => by first | exact hk.2 | exact hk | grind) (.int .i64 t337)) (fun _ hk => by first | exact hk.2 | exact hk | grind) (.int .i64 t338)) (fun _ hk => by first | exact hk.2 | exact hk | grind) (.int .i64 t339)) (fun _ hk => by first | exact hk.2 | exact hk | grind) (.int .i64 t340)) (fun _ hk => by first | exact hk.2 | exact hk | grind) (.int .i64 t341)) (fun _ hk => by first | exact hk.2 | exact hk | grind) (.int .i64 t342)) (fun _ hk => by first | exact hk.2 | exact hk | grind) (.bool t343)) (fun _ hk => by first | exact hk.2 | exact hk | grind) (.int .i64 t344)) (fun _ hk => by first | exact hk.2 | exact hk | grind) (.slice Ao75 t345.length co75)) (fun _ h_ => h_.1)))); (case side2 => exact (Kd.R_reads' HO347.out).2.1); (case side3 => exact Kd.C_below HR0_9.out bel); (case side4 => exact HC0_9.out); rintro e w79 ⟨rfl, hb⟩; have n0_ := Aside0.mk (Kd.R_below (R_g (Kd.R_mono (Kd.R_far (p := ⟨gb349, 9, none⟩) (Kd.R_far (p := ⟨gb349, 8, none⟩) (Kd.R_far (p := ⟨gb349, 7, none⟩) (Kd.R_far (p := ⟨gb349, 6, none⟩) (Kd.R_far (p := ⟨gb349, 5, none⟩) (Kd.R_far (p := ⟨gb349, 4, none⟩) (Kd.R_far (p := ⟨gb349, 3, none⟩) (Kd.R_far (p := ⟨gb349, 2, none⟩) (Kd.R_far (p := ⟨gb349, 1, none⟩) (Kd.R_far (p := ⟨gb349, 0, none⟩) (Kd.R_types HO_7.out BK349.out (by decide)) (fun _ hk => by first | exact hk.2 | exact hk | grind) (.int .i64 t336)) (fun _ hk => by first | exact hk.2 | exact hk | grind) (.int .i64 t337)) (fun _ hk => by first | exact hk.2 | exact hk | grind) (.int .i64 t338)) (fun _ hk => by first | exact hk.2 | exact hk | grind) (.int .i64 t339)) (fun _ hk => by first | exact hk.2 | exact hk | grind) (.int .i64 t340)) (fun _ hk => by first | exact hk.2 | exact hk | grind) (.int .i64 t341)) (fun _ hk => by first | exact hk.2 | exact hk | grind) (.int .i64 t342)) (fun _ hk => by first | exact hk.2 | exact hk | grind) (.bool t343)) (fun _ hk => by first | exact hk.2 | exact hk | grind) (.int .i64 t344)) (fun _ hk => by first | exact hk.2 | exact hk | grind) (.slice Ao75 t345.length co75)) (fun _ h_ => h_.1))) hb); have n1_ := Aside0.mk (Kd.R_below (R_g (Kd.R_mono (Kd.R_far (p := ⟨gb349, 9, none⟩) (Kd.R_far (p := ⟨gb349, 8, none⟩) (Kd.R_far (p := ⟨gb349, 7, none⟩) (Kd.R_far (p := ⟨gb349, 6, none⟩) (Kd.R_far (p := ⟨gb349, 5, none⟩) (Kd.R_far (p := ⟨gb349, 4, none⟩) (Kd.R_far (p := ⟨gb349, 3, none⟩) (Kd.R_far (p := ⟨gb349, 2, none⟩) (Kd.R_far (p := ⟨gb349, 1, none⟩) (Kd.R_far (p := ⟨gb349, 0, none⟩) (Kd.R_types HO_316009.out BK349.out (by decide)) (fun _ hk => by first | exact hk.2 | exact hk | grind) (.int .i64 t336)) (fun _ hk => by first | exact hk.2 | exact hk | grind) (.int .i64 t337)) (fun _ hk => by first | exact hk.2 | exact hk | grind) (.int .i64 t338)) (fun _ hk => by first | exact hk.2 | exact hk | grind) (.int .i64 t339)) (fun _ hk => by first | exact hk.2 | exact hk | grind) (.int .i64 t340)) (fun _ hk => by first | exact hk.2 | exact hk | grind) (.int .i64 t341)) (fun _ hk => by first | exact hk.2 | exact hk | grind) (.int .i64 t342)) (fun _ hk => by first | exact hk.2 | exact hk | grind) (.bool t343)) (fun _ hk => by first | exact hk.2 | exact hk | grind) (.int .i64 t344)) (fun _ hk => by first | exact hk.2 | exact hk | grind) (.slice Ao75 t345.length co75)) (fun _ h_ => h_.1))) hb); have n2_ := Aside0.mk (Kd.R_below (R_g (Kd.R_mono (Kd.R_far (p := ⟨gb349, 9, none⟩) (Kd.R_far (p := ⟨gb349, 8, none⟩) (Kd.R_far (p := ⟨gb349, 7, none⟩) (Kd.R_far (p := ⟨gb349, 6, none⟩) (Kd.R_far (p := ⟨gb349, 5, none⟩) (Kd.R_far (p := ⟨gb349, 4, none⟩) (Kd.R_far (p := ⟨gb349, 3, none⟩) (Kd.R_far (p := ⟨gb349, 2, none⟩) (Kd.R_far (p := ⟨gb349, 1, none⟩) (Kd.R_far (p := ⟨gb349, 0, none⟩) (Kd.R_types HO_330009.out BK349.out (by decide)) (fun _ hk => by first | exact hk.2 | exact hk | grind) (.int .i64 t336)) (fun _ hk => by first | exact hk.2 | exact hk | grind) (.int .i64 t337)) (fun _ hk => by first | exact hk.2 | exact hk | grind) (.int .i64 t338)) (fun _ hk => by first | exact hk.2 | exact hk | grind) (.int .i64 t339)) (fun _ hk => by first | exact hk.2 | exact hk | grind) (.int .i64 t340)) (fun _ hk => by first | exact hk.2 | exact hk | grind) (.int .i64 t341)) (fun _ hk => by first | exact hk.2 | exact hk | grind) (.int .i64 t342)) (fun _ hk => by first | exact hk.2 | exact hk | grind) (.bool t343)) (fun _ hk => by first | exact hk.2 | exact hk | grind) (.int .i64 t344)) (fun _ hk => by first | exact hk.2 | exact hk | grind) (.slice Ao75 t345.length co75)) (fun _ h_ => h_.1))) hb); have n3_ := Aside0.mk (Kd.R_below (R_g (Kd.R_mono (Kd.R_far (p := ⟨gb349, 9, none⟩) (Kd.R_far (p := ⟨gb349, 8, none⟩) (Kd.R_far (p := ⟨gb349, 7, none⟩) (Kd.R_far (p := ⟨gb349, 6, none⟩) (Kd.R_far (p := ⟨gb349, 5, none⟩) (Kd.R_far (p := ⟨gb349, 4, none⟩) (Kd.R_far (p := ⟨gb349, 3, none⟩) (Kd.R_far (p := ⟨gb349, 2, none⟩) (Kd.R_far (p := ⟨gb349, 1, none⟩) (Kd.R_far (p := ⟨gb349, 0, none⟩) (Kd.R_types HO347.out BK349.out (by decide)) (fun _ hk => by first | exact hk.2 | exact hk | grind) (.int .i64 t336)) (fun _ hk => by first | exact hk.2 | exact hk | grind) (.int .i64 t337)) (fun _ hk => by first | exact hk.2 | exact hk | grind) (.int .i64 t338)) (fun _ hk => by first | exact hk.2 | exact hk | grind) (.int .i64 t339)) (fun _ hk => by first | exact hk.2 | exact hk | grind) (.int .i64 t340)) (fun _ hk => by first | exact hk.2 | exact hk | grind) (.int .i64 t341)) (fun _ hk => by first | exact hk.2 | exact hk | grind) (.int .i64 t342)) (fun _ hk => by first | exact hk.2 | exact hk | grind) (.bool t343)) (fun _ hk => by first | exact hk.2 | exact hk | grind) (.int .i64 t344)) (fun _ hk => by first | exact hk.2 | exact hk | grind) (.slice Ao75 t345.length co75)) (fun _ h_ => h_.1))) hb); have n4_ := Aside0.mk (blk_below (g := gb293) (o := .cells #[.int .i64 a0_0, .int .i64 a0_1, .int .i64 a0_2, .int .i64 a0_3, .int .i64 a0_4, .int .i64 a0_5, .int .i64 a0_6, .bool a0_7, .int .i64 a0_8, .slice A0_9 l0_9.length c0_9] 28 (0, 0)) (by (with_reducible repeat (first | refine blk_drewN ?_ _ | refine blk_drew ?_ | refine blk_alloc ?_ _)); refine blk_far ?_ NB293_349.out _; (with_reducible repeat (first | refine blk_drewN ?_ _ | refine blk_drew ?_ | refine blk_alloc ?_ _)); refine blk_far ?_ NB293_349.out _; (with_reducible repeat (first | refine blk_drewN ?_ _ | refine blk_drew ?_ | refine blk_alloc ?_ _)); refine blk_far ?_ NB293_349.out _; (with_reducible repeat (first | refine blk_drewN ?_ _ | refine blk_drew ?_ | refine blk_alloc ?_ _)); refine blk_far ?_ NB293_349.out _; (with_reducible repeat (first | refine blk_drewN ?_ _ | refine blk_drew ?_ | refine blk_alloc ?_ _)); refine blk_far ?_ NB293_349.out _; (with_reducible repeat (first | refine blk_drewN ?_ _ | refine blk_drew ?_ | refine blk_alloc ?_ _)); refine blk_far ?_ NB293_349.out _; (with_reducible repeat (first | refine blk_drewN ?_ _ | refine blk_drew ?_ | refine blk_alloc ?_ _)); refine blk_far ?_ NB293_349.out _; (with_reducible repeat (first | refine blk_drewN ?_ _ | refine blk_drew ?_ | refine blk_alloc ?_ _)); refine blk_far ?_ NB293_349.out _; (with_reducible repeat (first | refine blk_drewN ?_ _ | refine blk_drew ?_ | refine blk_alloc ?_ _)); refine blk_far ?_ NB293_349.out _; (with_reducible repeat (first | refine blk_drewN ?_ _ | refine blk_drew ?_ | refine blk_alloc ?_ _)); refine blk_far ?_ NB293_349.out _; (with_reducible repeat (first | refine blk_drewN ?_ _ | refine blk_drew ?_ | refine blk_alloc ?_ _)); exact BK293.out) hb); have n5_ := Aside0.mk (blk_below (g := gb315) (o := .cells #[.int .i64 t302, .int .i64 t303, .int .i64 t304, .int .i64 t305, .int .i64 t306, .int .i64 t307, .int .i64 t308, .bool t309, .int .i64 t310, .slice Ao28 t311.length co28] 28 (0, 0)) (by (with_reducible repeat (first | refine blk_drewN ?_ _ | refine blk_drew ?_ | refine blk_alloc ?_ _)); refine blk_far ?_ NB315_349.out _; (with_reducible repeat (first | refine blk_drewN ?_ _ | refine blk_drew ?_ | refine blk_alloc ?_ _)); refine blk_far ?_ NB315_349.out _; (with_reducible repeat (first | refine blk_drewN ?_ _ | refine blk_drew ?_ | refine blk_alloc ?_ _)); refine blk_far ?_ NB315_349.out _; (with_reducible repeat (first | refine blk_drewN ?_ _ | refine blk_drew ?_ | refine blk_alloc ?_ _)); refine blk_far ?_ NB315_349.out _; (with_reducible repeat (first | refine blk_drewN ?_ _ | refine blk_drew ?_ | refine blk_alloc ?_ _)); refine blk_far ?_ NB315_349.out _; (with_reducible repeat (first | refine blk_drewN ?_ _ | refine blk_drew ?_ | refine blk_alloc ?_ _)); refine blk_far ?_ NB315_349.out _; (with_reducible repeat (first | refine blk_drewN ?_ _ | refine blk_drew ?_ | refine blk_alloc ?_ _)); refine blk_far ?_ NB315_349.out _; (with_reducible repeat (first | refine blk_drewN ?_ _ | refine blk_drew ?_ | refine blk_alloc ?_ _)); refine blk_far ?_ NB315_349.out _; (with_reducible repeat (first | refine blk_drewN ?_ _ | refine blk_drew ?_ | refine blk_alloc ?_ _)); refine blk_far ?_ NB315_349.out _; (with_reducible repeat (first | refine blk_drewN ?_ _ | refine blk_drew ?_ | refine blk_alloc ?_ _)); refine blk_far ?_ NB315_349.out _; (with_reducible repeat (first | refine blk_drewN ?_ _ | refine blk_drew ?_ | refine blk_alloc ?_ _)); exact BK315.out) hb); have n6_ := Aside0.mk (blk_below (g := gb329) (o := .cells #[.int .i64 t316, .int .i64 t317, .int .i64 t318, .int .i64 t319, .int .i64 t320, .int .i64 t321, .int .i64 t322, .bool t323, .int .i64 t324, .slice Ao34 t325.length co34] 28 (0, 0)) (by (with_reducible repeat (first | refine blk_drewN ?_ _ | refine blk_drew ?_ | refine blk_alloc ?_ _)); refine blk_far ?_ NB329_349.out _; (with_reducible repeat (first | refine blk_drewN ?_ _ | refine blk_drew ?_ | refine blk_alloc ?_ _)); refine blk_far ?_ NB329_349.out _; (with_reducible repeat (first | refine blk_drewN ?_ _ | refine blk_drew ?_ | refine blk_alloc ?_ _)); refine blk_far ?_ NB329_349.out _; (with_reducible repeat (first | refine blk_drewN ?_ _ | refine blk_drew ?_ | refine blk_alloc ?_ _)); refine blk_far ?_ NB329_349.out _; (with_reducible repeat (first | refine blk_drewN ?_ _ | refine blk_drew ?_ | refine blk_alloc ?_ _)); refine blk_far ?_ NB329_349.out _; (with_reducible repeat (first | refine blk_drewN ?_ _ | refine blk_drew ?_ | refine blk_alloc ?_ _)); refine blk_far ?_ NB329_349.out _; (with_reducible repeat (first | refine blk_drewN ?_ _ | refine blk_drew ?_ | refine blk_alloc ?_ _)); refine blk_far ?_ NB329_349.out _; (with_reducible repeat (first | refine blk_drewN ?_ _ | refine blk_drew ?_ | refine blk_alloc ?_ _)); refine blk_far ?_ NB329_349.out _; (with_reducible repeat (first | refine blk_drewN ?_ _ | refine blk_drew ?_ | refine blk_alloc ?_ _)); refine blk_far ?_ NB329_349.out _; (with_reducible repeat (first | refine blk_drewN ?_ _ | refine blk_drew ?_ | refine blk_alloc ?_ _)); refine blk_far ?_ NB329_349.out _; (with_reducible repeat (first | refine blk_drewN ?_ _ | refine blk_drew ?_ | refine blk_alloc ?_ _)); exact BK329.out) hb); have n7_ := Aside0.mk (blk_below (g := gb349) (o := .cells #[.int .i64 t336, .int .i64 t337, .int .i64 t338, .int .i64 t339, .int .i64 t340, .int .i64 t341, .int .i64 t342, .bool t343, .int .i64 t344, .slice Ao75 t345.length co75] 28 (0, 0)) (by (with_reducible repeat (first | refine blk_drewN ?_ _ | refine blk_drew ?_ | refine blk_alloc ?_ _)); refine blk_put (cs := #[.int .i64 t336, .int .i64 t337, .int .i64 t338, .int .i64 t339, .int .i64 t340, .int .i64 t341, .int .i64 t342, .bool t343, .int .i64 t344, .slice none 0 0]) ?_ 9 _ rfl; (with_reducible repeat (first | refine blk_drewN ?_ _ | refine blk_drew ?_ | refine blk_alloc ?_ _)); refine blk_put (cs := #[.int .i64 t336, .int .i64 t337, .int .i64 t338, .int .i64 t339, .int .i64 t340, .int .i64 t341, .int .i64 t342, .bool t343, .int .i64 0, .slice none 0 0]) ?_ 8 _ rfl; (with_reducible repeat (first | refine blk_drewN ?_ _ | refine blk_drew ?_ | refine blk_alloc ?_ _)); refine blk_put (cs := #[.int .i64 t336, .int .i64 t337, .int .i64 t338, .int .i64 t339, .int .i64 t340, .int .i64 t341, .int .i64 t342, .bool false, .int .i64 0, .slice none 0 0]) ?_ 7 _ rfl; (with_reducible repeat (first | refine blk_drewN ?_ _ | refine blk_drew ?_ | refine blk_alloc ?_ _)); refine blk_put (cs := #[.int .i64 t336, .int .i64 t337, .int .i64 t338, .int .i64 t339, .int .i64 t340, .int .i64 t341, .int .i64 0, .bool false, .int .i64 0, .slice none 0 0]) ?_ 6 _ rfl; (with_reducible repeat (first | refine blk_drewN ?_ _ | refine blk_drew ?_ | refine blk_alloc ?_ _)); refine blk_put (cs := #[.int .i64 t336, .int .i64 t337, .int .i64 t338, .int .i64 t339, .int .i64 t340, .int .i64 0, .int .i64 0, .bool false, .int .i64 0, .slice none 0 0]) ?_ 5 _ rfl; (with_reducible repeat (first | refine blk_drewN ?_ _ | refine blk_drew ?_ | refine blk_alloc ?_ _)); refine blk_put (cs := #[.int .i64 t336, .int .i64 t337, .int .i64 t338, .int .i64 t339, .int .i64 0, .int .i64 0, .int .i64 0, .bool false, .int .i64 0, .slice none 0 0]) ?_ 4 _ rfl; (with_reducible repeat (first | refine blk_drewN ?_ _ | refine blk_drew ?_ | refine blk_alloc ?_ _)); refine blk_put (cs := #[.int .i64 t336, .int .i64 t337, .int .i64 t338, .int .i64 0, .int .i64 0, .int .i64 0, .int .i64 0, .bool false, .int .i64 0, .slice none 0 0]) ?_ 3 _ rfl; (with_reducible repeat (first | refine blk_drewN ?_ _ | refine blk_drew ?_ | refine blk_alloc ?_ _)); refine blk_put (cs := #[.int .i64 t336, .int .i64 t337, .int .i64 0, .int .i64 0, .int .i64 0, .int .i64 0, .int .i64 0, .bool false, .int .i64 0, .slice none 0 0]) ?_ 2 _ rfl; (with_reducible repeat (first | refine blk_drewN ?_ _ | refine blk_drew ?_ | refine blk_alloc ?_ _)); refine blk_put (cs := #[.int .i64 t336, .int .i64 0, .int .i64 0, .int .i64 0, .int .i64 0, .int .i64 0, .int .i64 0, .bool false, .int .i64 0, .slice none 0 0]) ?_ 1 _ rfl; (with_reducible repeat (first | refine blk_drewN ?_ _ | refine blk_drew ?_ | refine blk_alloc ?_ _)); refine blk_put (cs := #[.int .i64 0, .int .i64 0, .int .i64 0, .int .i64 0, .int .i64 0, .int .i64 0, .int .i64 0, .bool false, .int .i64 0, .slice none 0 0]) ?_ 0 _ rfl; (with_reducible repeat (first | refine blk_drewN ?_ _ | refine blk_drew ?_ | refine blk_alloc ?_ _)); exact BK349.out) hb); have n8_ := Aside0.mk (belt hb); clear HO_7; clear HO_316009; clear HO_330009; clear HO347; clear BK293; clear BK315; clear BK329; clear BK349; clear HB; have HO_7 := n0_; have HO_316009 := n1_; have HO_330009 := n2_; have HO347 := n3_; have BK293 := n4_; have BK315 := n5_; have BK329 := n6_; have BK349 := n7_; have HB := n8_; clear n0_ n1_ n2_ n3_ n4_ n5_ n6_ n7_ n8_; (try clear hb); (try clear hb2); (try clear hk); (try clear hi)))
          go_ret
          exact ⟨by first | rfl | (simp [errW_none, errW_some] <;> rfl) | (simp [*, errW_none, errW_some] <;> rfl), bel⟩
         ·rw [if_neg c66] at H
          have c66b0 : (t350 == 0) = false := beq_eq_false_iff_ne.mpr c66
          have c66b1 : (t350 != 0) = true := bne_iff_ne.mpr c66
          exact absurd ((Option.some.inj H).trans HRT.out) (by decide)
        ·replace c64 := Bool.eq_false_iff.mpr c64
         subst c64
         have H1 : (if (t296.length : Int) = 0 then (some true) else (some false)) = some r := by rw [if_neg (show ¬ (false = true) by decide)] at H; exact H
         clear H
         have H := H1
         clear H1
         by_cases c80 : (t296.length : Int) = 0
         ·rw [if_pos c80] at H
          have c80b0 : ((t296.length : Int) == 0) = true := beq_iff_eq.mpr c80
          have c80b1 : ((t296.length : Int) != 0) = false := bne_eq_false_iff_eq.mpr c80
          clear c80
          obtain rfl := Option.some.inj H
          obtain ⟨Ao81, co81, eo81⟩ := Kd.R_slice HO_7.out
          subst eo81
          go_wp2_with (first | ((with_reducible refine gate_callee (f := 12) rfl ?_); refine goesL_ (some 70) rfl rfl Try.func12 (by kernel_rfl) rfl #[.slice Ao81 t296.length co81] rfl (by (try simp only [List.map_toArray, List.map_cons, List.map_nil]); first | done | rfl | (simp only [List.length_drop, List.length_take]; rfl)) ?_; (with_reducible refine (record_Read.calls kj16 _ _ t296 t336 t337 t338 t339 t340 t341 t342 t343 t344 t345 t348 _ ?side1 ?side2 A63.out).mono ?_); (case side1 => repeat (first | exact (Kd.R_reads' HO_7.out).2.2 | (with_reducible refine Kd.C_alloc ?_ _) | (with_reducible refine Kd.C_drewN ?_ _) | (with_reducible refine Kd.C_drew ?_))); (case side2 => exact (Kd.R_reads' HO_7.out).2.1); rintro e w82 ⟨v346, rfl, ho0, hb⟩; refine ⟨_, rfl, ?_⟩; have n0_ := Aside0.mk (Kd.R_elder' (by (with_reducible repeat (first | apply Kd.R_alloc | apply Kd.R_drewN | apply Kd.R_drew)); first | exact HO_7.out | exact Kd.R_mono HO_7.out (fun _ hk => by grind)) (Kd.R_base ho0) hb); have n1_ := Aside0.mk (Kd.R_elder' (by (with_reducible repeat (first | apply Kd.R_alloc | apply Kd.R_drewN | apply Kd.R_drew)); first | exact HO_316009.out | exact Kd.R_mono HO_316009.out (fun _ hk => by grind)) (Kd.R_base ho0) hb); have n2_ := Aside0.mk (Kd.R_elder' (by (with_reducible repeat (first | apply Kd.R_alloc | apply Kd.R_drewN | apply Kd.R_drew)); first | exact HO_330009.out | exact Kd.R_mono HO_330009.out (fun _ hk => by grind)) (Kd.R_base ho0) hb); have n3_ := Aside0.mk (Kd.R_lower (Kd.R_new' (Kd.R_new' (Kd.R_new' ho0 (Kd.R_lt (by (with_reducible repeat (first | apply Kd.R_alloc | apply Kd.R_drewN | apply Kd.R_drew)); first | exact HO_7.out | exact Kd.R_mono HO_7.out (fun _ hk => by grind)))) (Kd.R_lt (by (with_reducible repeat (first | apply Kd.R_alloc | apply Kd.R_drewN | apply Kd.R_drew)); first | exact HO_316009.out | exact Kd.R_mono HO_316009.out (fun _ hk => by grind)))) (Kd.R_lt (by (with_reducible repeat (first | apply Kd.R_alloc | apply Kd.R_drewN | apply Kd.R_drew)); first | exact HO_330009.out | exact Kd.R_mono HO_330009.out (fun _ hk => by grind)))) bels); have n4_ := Aside0.mk (blk_below (g := gb293) (o := .cells #[.int .i64 a0_0, .int .i64 a0_1, .int .i64 a0_2, .int .i64 a0_3, .int .i64 a0_4, .int .i64 a0_5, .int .i64 a0_6, .bool a0_7, .int .i64 a0_8, .slice A0_9 l0_9.length c0_9] 28 (0, 0)) (blk_g BK293.out) hb); have n5_ := Aside0.mk (blk_below (g := gb315) (o := .cells #[.int .i64 t302, .int .i64 t303, .int .i64 t304, .int .i64 t305, .int .i64 t306, .int .i64 t307, .int .i64 t308, .bool t309, .int .i64 t310, .slice Ao28 t311.length co28] 28 (0, 0)) (blk_g BK315.out) hb); have n6_ := Aside0.mk (blk_below (g := gb329) (o := .cells #[.int .i64 t316, .int .i64 t317, .int .i64 t318, .int .i64 t319, .int .i64 t320, .int .i64 t321, .int .i64 t322, .bool t323, .int .i64 t324, .slice Ao34 t325.length co34] 28 (0, 0)) (blk_g BK329.out) hb); have n7_ := Aside0.mk (belt hb); clear HO_7; clear HO_316009; clear HO_330009; clear BK293; clear BK315; clear BK329; clear HB; have HO_7 := n0_; have HO_316009 := n1_; have HO_330009 := n2_; have HO347 := n3_; have BK293 := n4_; have BK315 := n5_; have BK329 := n6_; have HB := n7_; clear n0_ n1_ n2_ n3_ n4_ n5_ n6_ n7_; (try clear hb); (try clear hb2); (try clear hk); (try clear hi); (try clear ho0)) | ((with_reducible refine gate_dst (N := 12) rfl ?_); (try (refine gate_guard (by rfl) ?_; dsimp only)); refine box_event ?hg (N := 12) ?hd (cs := #[.int .i64 0, .int .i64 0, .int .i64 0, .int .i64 0, .int .i64 0, .int .i64 0, .int .i64 0, .bool false, .int .i64 0, .slice none 0 0]) (t := 28) ?hr ?_; (case hd => rfl); (case hg => rfl); (case hr => first | (go_simp; done) | (go_simp; rfl)); intro gb349 hg w83 hbox hb; have n0_ := Aside0.mk (Kd.R_below (by (with_reducible repeat (first | apply Kd.R_alloc | apply Kd.R_drewN | apply Kd.R_drew)); first | exact HO_7.out | exact Kd.R_mono HO_7.out (fun _ hk => by grind)) hb); have n1_ := Aside0.mk (Kd.R_below (by (with_reducible repeat (first | apply Kd.R_alloc | apply Kd.R_drewN | apply Kd.R_drew)); first | exact HO_316009.out | exact Kd.R_mono HO_316009.out (fun _ hk => by grind)) hb); have n2_ := Aside0.mk (Kd.R_below (by (with_reducible repeat (first | apply Kd.R_alloc | apply Kd.R_drewN | apply Kd.R_drew)); first | exact HO_330009.out | exact Kd.R_mono HO_330009.out (fun _ hk => by grind)) hb); have n3_ := Aside0.mk (Kd.R_below (by (with_reducible repeat (first | apply Kd.R_alloc | apply Kd.R_drewN | apply Kd.R_drew)); first | exact HO347.out | exact Kd.R_mono HO347.out (fun _ hk => by grind)) hb); have n4_ := Aside0.mk (blk_below (g := gb293) (o := .cells #[.int .i64 a0_0, .int .i64 a0_1, .int .i64 a0_2, .int .i64 a0_3, .int .i64 a0_4, .int .i64 a0_5, .int .i64 a0_6, .bool a0_7, .int .i64 a0_8, .slice A0_9 l0_9.length c0_9] 28 (0, 0)) (blk_g BK293.out) hb); have n5_ := Aside0.mk (blk_below (g := gb315) (o := .cells #[.int .i64 t302, .int .i64 t303, .int .i64 t304, .int .i64 t305, .int .i64 t306, .int .i64 t307, .int .i64 t308, .bool t309, .int .i64 t310, .slice Ao28 t311.length co28] 28 (0, 0)) (blk_g BK315.out) hb); have n6_ := Aside0.mk (blk_below (g := gb329) (o := .cells #[.int .i64 t316, .int .i64 t317, .int .i64 t318, .int .i64 t319, .int .i64 t320, .int .i64 t321, .int .i64 t322, .bool t323, .int .i64 t324, .slice Ao34 t325.length co34] 28 (0, 0)) (blk_g BK329.out) hb); have n7_ := Aside0.mk (belt hb); have n8_ := Aside0.mk (hbox); have n9_ := Aside0.mk ((by rw [hg]; exact bels : w.heap.size ≤ gb349)); have n10_ := Aside0.mk ((by rw [hg]; exact bels : w.heap.size ≤ gb349)); have n11_ := Aside0.mk ((by rw [hg]; exact Nat.ne_of_lt (blk_lt (g := gb293) (o := .cells #[.int .i64 a0_0, .int .i64 a0_1, .int .i64 a0_2, .int .i64 a0_3, .int .i64 a0_4, .int .i64 a0_5, .int .i64 a0_6, .bool a0_7, .int .i64 a0_8, .slice A0_9 l0_9.length c0_9] 28 (0, 0)) (blk_g BK293.out)) : gb293 ≠ gb349)); have n12_ := Aside0.mk ((by rw [hg]; exact Nat.ne_of_gt (blk_lt (g := gb293) (o := .cells #[.int .i64 a0_0, .int .i64 a0_1, .int .i64 a0_2, .int .i64 a0_3, .int .i64 a0_4, .int .i64 a0_5, .int .i64 a0_6, .bool a0_7, .int .i64 a0_8, .slice A0_9 l0_9.length c0_9] 28 (0, 0)) (blk_g BK293.out)) : gb349 ≠ gb293)); have n13_ := Aside0.mk ((by rw [hg]; exact Nat.ne_of_lt (blk_lt (g := gb315) (o := .cells #[.int .i64 t302, .int .i64 t303, .int .i64 t304, .int .i64 t305, .int .i64 t306, .int .i64 t307, .int .i64 t308, .bool t309, .int .i64 t310, .slice Ao28 t311.length co28] 28 (0, 0)) (blk_g BK315.out)) : gb315 ≠ gb349)); have n14_ := Aside0.mk ((by rw [hg]; exact Nat.ne_of_gt (blk_lt (g := gb315) (o := .cells #[.int .i64 t302, .int .i64 t303, .int .i64 t304, .int .i64 t305, .int .i64 t306, .int .i64 t307, .int .i64 t308, .bool t309, .int .i64 t310, .slice Ao28 t311.length co28] 28 (0, 0)) (blk_g BK315.out)) : gb349 ≠ gb315)); have n15_ := Aside0.mk ((by rw [hg]; exact Nat.ne_of_lt (blk_lt (g := gb329) (o := .cells #[.int .i64 t316, .int .i64 t317, .int .i64 t318, .int .i64 t319, .int .i64 t320, .int .i64 t321, .int .i64 t322, .bool t323, .int .i64 t324, .slice Ao34 t325.length co34] 28 (0, 0)) (blk_g BK329.out)) : gb329 ≠ gb349)); have n16_ := Aside0.mk ((by rw [hg]; exact Nat.ne_of_gt (blk_lt (g := gb329) (o := .cells #[.int .i64 t316, .int .i64 t317, .int .i64 t318, .int .i64 t319, .int .i64 t320, .int .i64 t321, .int .i64 t322, .bool t323, .int .i64 t324, .slice Ao34 t325.length co34] 28 (0, 0)) (blk_g BK329.out)) : gb349 ≠ gb329)); clear HO_7; clear HO_316009; clear HO_330009; clear HO347; clear BK293; clear BK315; clear BK329; clear HB; have HO_7 := n0_; have HO_316009 := n1_; have HO_330009 := n2_; have HO347 := n3_; have BK293 := n4_; have BK315 := n5_; have BK329 := n6_; have HB := n7_; have BK349 := n8_; have GW349 := n9_; have GE349 := n10_; have NB293_349 := n11_; have NB349_293 := n12_; have NB315_349 := n13_; have NB349_315 := n14_; have NB329_349 := n15_; have NB349_329 := n16_; clear n0_ n1_ n2_ n3_ n4_ n5_ n6_ n7_ n8_ n9_ n10_ n11_ n12_ n13_ n14_ n15_ n16_; clear hb hbox hg; have hnb84 := NB349_293.out; have hnc84 := NB293_349.out; have hnb85 := NB349_315.out; have hnc85 := NB315_349.out; have hnb86 := NB349_329.out; have hnc86 := NB329_349.out; have hcz87_0 : w83.cell? ⟨gb349, 0, none⟩ = some (.int .i64 0) := (blk_cell BK349.out 0).trans rfl; have hcz87_1 : w83.cell? ⟨gb349, 1, none⟩ = some (.int .i64 0) := (blk_cell BK349.out 1).trans rfl; have hcz87_2 : w83.cell? ⟨gb349, 2, none⟩ = some (.int .i64 0) := (blk_cell BK349.out 2).trans rfl; have hcz87_3 : w83.cell? ⟨gb349, 3, none⟩ = some (.int .i64 0) := (blk_cell BK349.out 3).trans rfl; have hcz87_4 : w83.cell? ⟨gb349, 4, none⟩ = some (.int .i64 0) := (blk_cell BK349.out 4).trans rfl; have hcz87_5 : w83.cell? ⟨gb349, 5, none⟩ = some (.int .i64 0) := (blk_cell BK349.out 5).trans rfl; have hcz87_6 : w83.cell? ⟨gb349, 6, none⟩ = some (.int .i64 0) := (blk_cell BK349.out 6).trans rfl; have hcz87_7 : w83.cell? ⟨gb349, 7, none⟩ = some (.bool false) := (blk_cell BK349.out 7).trans rfl; have hcz87_8 : w83.cell? ⟨gb349, 8, none⟩ = some (.int .i64 0) := (blk_cell BK349.out 8).trans rfl; have hcz87_9 : w83.cell? ⟨gb349, 9, none⟩ = some (.slice none 0 0) := (blk_cell BK349.out 9).trans rfl; have hfz87_0 := blk_frozen BK349.out 0; have hfz87_1 := blk_frozen BK349.out 1; have hfz87_2 := blk_frozen BK349.out 2; have hfz87_3 := blk_frozen BK349.out 3; have hfz87_4 := blk_frozen BK349.out 4; have hfz87_5 := blk_frozen BK349.out 5; have hfz87_6 := blk_frozen BK349.out 6; have hfz87_7 := blk_frozen BK349.out 7; have hfz87_8 := blk_frozen BK349.out 8; have hfz87_9 := blk_frozen BK349.out 9; obtain ⟨Ao88, co88, eo88⟩ := Kd.R_slice HO347.out; subst eo88))
          go_ret
          exact ⟨by first | rfl | (simp [errW_none, errW_some] <;> rfl) | (simp [*, errW_none, errW_some] <;> rfl), bel⟩
         ·rw [if_neg c80] at H
          have c80b0 : ((t296.length : Int) == 0) = false := beq_eq_false_iff_ne.mpr c80
          have c80b1 : ((t296.length : Int) != 0) = true := bne_iff_ne.mpr c80
          have c80b2 : ¬ (t296 = []) := fun h_ => c80 (by rw [h_]; rfl)
          exact absurd ((Option.some.inj H).trans HRT.out) (by decide)
    ·rw [if_neg c14] at H
     exact absurd H (by simp)

end Go.Proofs.Ytjcfmfdkligmoaa.PRecordTells
