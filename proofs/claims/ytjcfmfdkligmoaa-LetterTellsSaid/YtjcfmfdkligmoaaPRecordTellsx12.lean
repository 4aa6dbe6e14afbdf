/- Written by a program (this session's own): functions that the law reaches, as plain Lean functions, each with the proof that the code comes to it. No conditions but those that stand in the theorems. -/
import Derived.Test.YtjcfmfdkligmoaaPq
import Derived.Test.YtjcfmfdkligmoaaPs
import Derived.Test.YtjcfmfdkligmoaaPRecordTellsx0
import Derived.Test.YtjcfmfdkligmoaaPRecordTellsx10
import Derived.Test.YtjcfmfdkligmoaaPRecordTellsx11
set_option maxHeartbeats 8000000
set_option maxRecDepth 100000
namespace Go.Proofs.Ytjcfmfdkligmoaa.PRecordTells
open Go.RowKit Go.Proofs.YtjcfmfdkligmoaaW.PrintWords Go.Proofs.YtjcfmfdkligmoaaW.PrintLast Go.Proofs.YtjcfmfdkligmoaaW.PrintMore
attribute [local go_sem] max2_int min2_int max_two min_two max_three min_three max_four min_four
set_option linter.unusedVariables false
set_option linter.unusedSimpArgs false
def zq_RecordBytes.j0 : Nat → List Int → Int → Int → Int → Int → Int → Int → Int → Bool → Int → List Int → Option (List Int)
 | 0, _, _, _, _, _, _, _, _, _, _, _ => none
 | k + 1, x3, x256000, x256001, x256002, x256003, x256004, x256005, x256006, x256007, x256008, x256009 => (zq_put.f k x3 x256000 4).bind fun t261 => ((zq_put.f k t261 x256001 4).bind fun t264 => ((zq_put.f k t264 x256008 4).bind fun t267 => (if x256007 = true then (some t267) else ((zq_put.f k t267 x256002 2).bind fun t270 => ((zq_put.f k t270 x256003 2).bind fun t273 => ((zq_put.f k t273 x256004 2).bind fun t276 => ((zq_put.f k t276 x256005 2).bind fun t279 => ((zq_put.f k t279 x256006 3).bind fun t282 => (if t282.length + x256009.length < 140737488355328 then (some (t282 ++ x256009)) else (none))))))))))
def zq_RecordBytes.f (k : Nat) (a0_0 : Int) (a0_1 : Int) (a0_2 : Int) (a0_3 : Int) (a0_4 : Int) (a0_5 : Int) (a0_6 : Int) (a0_7 : Bool) (a0_8 : Int) (l0_9 : List Int) : Option (List Int) := (zq_RightRecord.f k a0_0 a0_1 a0_2 a0_3 a0_4 a0_5 a0_6 a0_7 a0_8 l0_9).bind fun t256 => (if t256 = true then ((some (([0] : List Int) : List Int)).bind fun y257 => (if a0_7 = true then (if 0 < (y257.length : Int) then (zq_RecordBytes.j0 k (y257.set (0 : Int).toNat 1) a0_0 a0_1 a0_2 a0_3 a0_4 a0_5 a0_6 a0_7 a0_8 l0_9) else (none)) else (zq_RecordBytes.j0 k y257 a0_0 a0_1 a0_2 a0_3 a0_4 a0_5 a0_6 a0_7 a0_8 l0_9))) else (some ([] : List Int)))
theorem zq_RecordBytes.mono_l : ∀ k, (∀ y0 y1 y2 y3 y4 y5 y6 y7 y8 y9 y10, LeO (zq_RecordBytes.j0 k y0 y1 y2 y3 y4 y5 y6 y7 y8 y9 y10) (zq_RecordBytes.j0 (k + 1) y0 y1 y2 y3 y4 y5 y6 y7 y8 y9 y10))
 | 0 => fun _ _ _ _ _ _ _ _ _ _ _ r h => by simp [zq_RecordBytes.j0] at h
 | k + 1 => by
  have ih0 := zq_RecordBytes.mono_l k
  ·intro y0 y1 y2 y3 y4 y5 y6 y7 y8 y9 y10
   unfold zq_RecordBytes.j0
   repeat' first
   | (with_reducible exact ih0 _ _ _ _ _ _ _ _ _ _ _)
   | (with_reducible exact zq_RightRecord.mono _ _ _ _ _ _ _ _ _ _ _)
   | (with_reducible exact zq_put.mono _ _ _ _)
   | (with_reducible exact LeO.refl _)
   | (with_reducible exact LeO.none _)
   | (with_reducible refine LeO.ite ?_ ?_)
   | (with_reducible refine LeO.bind ?_ (fun _ => ?_))
   | exact ih0 _ _ _ _ _ _ _ _ _ _ _
   | exact zq_RightRecord.mono _ _ _ _ _ _ _ _ _ _ _
   | exact zq_put.mono _ _ _ _
   | exact LeO.none _
   | refine LeO.ite ?_ ?_
   | refine LeO.bind ?_ (fun _ => ?_)
theorem zq_RecordBytes.mono : ∀ a0 a1 a2 a3 a4 a5 a6 a7 a8 a9 k, LeO (zq_RecordBytes.f k a0 a1 a2 a3 a4 a5 a6 a7 a8 a9) (zq_RecordBytes.f (k + 1) a0 a1 a2 a3 a4 a5 a6 a7 a8 a9) := by
 intro a0 a1 a2 a3 a4 a5 a6 a7 a8 a9 k
 have ih0 := zq_RecordBytes.mono_l k
 unfold zq_RecordBytes.f
 repeat' first
  | (with_reducible exact ih0 _ _ _ _ _ _ _ _ _ _ _)
  | (with_reducible exact zq_RightRecord.mono _ _ _ _ _ _ _ _ _ _ _)
  | (with_reducible exact zq_put.mono _ _ _ _)
  | (with_reducible exact LeO.refl _)
  | (with_reducible exact LeO.none _)
  | (with_reducible refine LeO.ite ?_ ?_)
  | (with_reducible refine LeO.bind ?_ (fun _ => ?_))
  | exact ih0 _ _ _ _ _ _ _ _ _ _ _
  | exact zq_RightRecord.mono _ _ _ _ _ _ _ _ _ _ _
  | exact zq_put.mono _ _ _ _
  | exact LeO.none _
  | refine LeO.ite ?_ ?_
  | refine LeO.bind ?_ (fun _ => ?_)
def zq_RecordBytes.T6 : Bool × List (List Nat × List Nat) := (true, [([], []), ([], []), ([1], [1]), ([2], [2]), ([0, 3], [0, 3]), ([], []), ([5], [5]), ([6], [6]), ([4, 7, 4], [4, 7]), ([], []), ([9], [9]), ([8, 10, 8], [8, 10]), ([11, 11, 0, 1, 2, 3, 4, 5, 6, 7, 8, 9, 10, 11], [0, 11])])
def zq_RecordBytes.B6 : List Nat := [0, 0, 2, 6, 15, 0, 32, 96, 255, 0, 512, 2047, 4095]
theorem zq_RecordBytes.tab6 : rtab .any (opsOf Try.f15 6) = zq_RecordBytes.T6 := by kernel_rfl
theorem zq_RecordBytes.bits6 : waitsOk zq_RecordBytes.T6.2 zq_RecordBytes.B6 = true := by kernel_rfl
def zq_RecordBytes.T9 : Bool × List (List Nat × List Nat) := (true, [([], []), ([], []), ([1], [1]), ([2], [2]), ([0, 3], [0, 3]), ([], []), ([5], [5]), ([6], [6]), ([4, 7, 4], [4, 7]), ([], []), ([9], [9]), ([10], [10]), ([8, 11, 8], [8, 11]), ([], []), ([13], [13]), ([12, 14, 12], [12, 14]), ([], []), ([16], [16]), ([15, 17, 15], [15, 17]), ([18, 18, 0, 1, 2, 3, 4, 5, 6, 7, 8, 9, 10, 11, 12, 13, 14, 15, 16, 17, 18], [0, 18])])
def zq_RecordBytes.B9 : List Nat := [0, 0, 2, 6, 15, 0, 32, 96, 255, 0, 512, 1536, 4095, 0, 8192, 32767, 0, 65536, 262143, 524287]
theorem zq_RecordBytes.tab9 : rtab .any (opsOf Try.f15 9) = zq_RecordBytes.T9 := by kernel_rfl
theorem zq_RecordBytes.bits9 : waitsOk zq_RecordBytes.T9.2 zq_RecordBytes.B9 = true := by kernel_rfl
theorem zq_RecordBytes.calls (k : Nat) (a0_0 : Int) (a0_1 : Int) (a0_2 : Int) (a0_3 : Int) (a0_4 : Int) (a0_5 : Int) (a0_6 : Int) (a0_7 : Bool) (a0_8 : Int) (A0_9 : Option Addr) (c0_9 : Nat) (l0_9 : List Int) (r : List Int) (w : World) (hr0_9 : Kd.C (Kd.int .u8) w A0_9 l0_9.length l0_9) (hc0_9 : l0_9.length ≤ c0_9) (h : zq_RecordBytes.f k a0_0 a0_1 a0_2 a0_3 a0_4 a0_5 a0_6 a0_7 a0_8 l0_9 = some r) :
 Calls Try.prog 15 #[.agg #[.int .i64 a0_0, .int .i64 a0_1, .int .i64 a0_2, .int .i64 a0_3, .int .i64 a0_4, .int .i64 a0_5, .int .i64 a0_6, .bool a0_7, .int .i64 a0_8, .slice A0_9 l0_9.length c0_9]] w fun e w' => ∃ v0_ : Value, e = .returned (v0_) ∧ Kd.R (Kd.int .u8) 5 w' w.heap.size (fun _ => True) v0_ r ∧ Below w.heap.size w w' := by
 have hu28 := Try.underlying28
 have HR0_9 := zA hr0_9
 have HC0_9 := zA hc0_9
 clear hr0_9 hc0_9
 have HB := zA (Below.refl w.heap.size w)
 have H : ((zq_RightRecord.f k a0_0 a0_1 a0_2 a0_3 a0_4 a0_5 a0_6 a0_7 a0_8 l0_9).bind fun t256 => (if t256 = true then ((some (([0] : List Int) : List Int)).bind fun y257 => (if a0_7 = true then (if 0 < (y257.length : Int) then (zq_RecordBytes.j0 k (y257.set (0 : Int).toNat 1) a0_0 a0_1 a0_2 a0_3 a0_4 a0_5 a0_6 a0_7 a0_8 l0_9) else (none)) else (zq_RecordBytes.j0 k y257 a0_0 a0_1 a0_2 a0_3 a0_4 a0_5 a0_6 a0_7 a0_8 l0_9))) else (some ([] : List Int)))) = some r := h
 clear h
 replace H := Option.bind_eq_some_iff.mp H
 obtain ⟨t256, A20, H⟩ := H
 replace H : (if t256 = true then ((some (([0] : List Int) : List Int)).bind fun y257 => (if a0_7 = true then (if 0 < (y257.length : Int) then (zq_RecordBytes.j0 k (y257.set (0 : Int).toNat 1) a0_0 a0_1 a0_2 a0_3 a0_4 a0_5 a0_6 a0_7 a0_8 l0_9) else (none)) else (zq_RecordBytes.j0 k y257 a0_0 a0_1 a0_2 a0_3 a0_4 a0_5 a0_6 a0_7 a0_8 l0_9))) else (some ([] : List Int))) = some r := H
 have A2 := zA A20
 clear A20
 by_cases c3 : t256 = true
 ·subst c3
  have H1 : ((some (([0] : List Int) : List Int)).bind fun y257 => (if a0_7 = true then (if 0 < (y257.length : Int) then (zq_RecordBytes.j0 k (y257.set (0 : Int).toNat 1) a0_0 a0_1 a0_2 a0_3 a0_4 a0_5 a0_6 a0_7 a0_8 l0_9) else (none)) else (zq_RecordBytes.j0 k y257 a0_0 a0_1 a0_2 a0_3 a0_4 a0_5 a0_6 a0_7 a0_8 l0_9))) = some r := by rw [if_pos rfl] at H; exact H
  clear H
  have H := H1
  clear H1
  obtain ⟨y257, hy257⟩ : ∃ y_ : List Int, y_ = (([0] : List Int)) := ⟨_, rfl⟩
  replace H : (if a0_7 = true then (if 0 < (y257.length : Int) then (zq_RecordBytes.j0 k (y257.set (0 : Int).toNat 1) a0_0 a0_1 a0_2 a0_3 a0_4 a0_5 a0_6 a0_7 a0_8 l0_9) else (none)) else (zq_RecordBytes.j0 k y257 a0_0 a0_1 a0_2 a0_3 a0_4 a0_5 a0_6 a0_7 a0_8 l0_9)) = some r := zC H hy257
  have Ny257 := zA hy257
  clear hy257
  have HC4 := zA H
  clear H
  go_enter Try.func15, Try.ntmps15
  go_upto_if 9 with (first | ((with_reducible refine gate_dst (N := 1) rfl ?_); refine box_event ?hg (N := 1) ?hd (cs := #[.int .i64 a0_0, .int .i64 a0_1, .int .i64 a0_2, .int .i64 a0_3, .int .i64 a0_4, .int .i64 a0_5, .int .i64 a0_6, .bool a0_7, .int .i64 a0_8, .slice A0_9 l0_9.length c0_9]) (t := 28) ?hr ?_; (case hd => rfl); (case hg => rfl); (case hr => first | (go_simp; done) | (go_simp; rfl)); intro gb255 hg w5 hbox hb; have BK255 := zA (hbox); have GW255 := zA ((by rw [hg]; exact bels : w.heap.size ≤ gb255)); have GE255 := zA ((by rw [hg]; exact bels : w.heap.size ≤ gb255)); replace HB := zA (belt hb); clear hb hbox hg; obtain ⟨hcz6_0, hcz6_1, hcz6_2, hcz6_3, hcz6_4, hcz6_5, hcz6_6, hcz6_7, hcz6_8, hcz6_9⟩ := bx10 BK255.out; obtain ⟨hfz6_0, hfz6_1, hfz6_2, hfz6_3, hfz6_4, hfz6_5, hfz6_6, hfz6_7, hfz6_8, hfz6_9⟩ := fz10 BK255.out) | ((with_reducible refine gate_callee (f := 10) rfl ?_); refine goesL_ (some 5) rfl rfl Try.func10 (by kernel_rfl) rfl #[.agg #[.int .i64 a0_0, .int .i64 a0_1, .int .i64 a0_2, .int .i64 a0_3, .int .i64 a0_4, .int .i64 a0_5, .int .i64 a0_6, .bool a0_7, .int .i64 a0_8, .slice A0_9 l0_9.length c0_9]] rfl (by (try simp only [List.map_toArray, List.map_cons, List.map_nil]); first | done | rfl | (simp only [List.length_drop, List.length_take]; rfl)) ?_; (with_reducible refine (zq_RightRecord.calls k a0_0 a0_1 a0_2 a0_3 a0_4 a0_5 a0_6 a0_7 a0_8 _ _ l0_9 true _ ?side1 ?side2 A2.out).mono ?_); (case side1 => repeat (first | exact (Kd.C_below HR0_9.out HB.out) | (with_reducible refine Kd.C_alloc ?_ _) | (with_reducible refine Kd.C_drewN ?_ _) | (with_reducible refine Kd.C_drew ?_))); (case side2 => exact HC0_9.out); rintro e w7 ⟨rfl, hb⟩; refine ⟨_, rfl, ?_⟩; replace BK255 := zA (blk_below (g := gb255) (o := .cells #[.int .i64 a0_0, .int .i64 a0_1, .int .i64 a0_2, .int .i64 a0_3, .int .i64 a0_4, .int .i64 a0_5, .int .i64 a0_6, .bool a0_7, .int .i64 a0_8, .slice A0_9 l0_9.length c0_9] 28 (0, 0)) (blk_g BK255.out) hb); replace HB := zA (belt hb)) | ((with_reducible refine gate_dst (N := 7) rfl ?_); refine Kd.R_lit (Kd.int .u8) _ 5 ?hg (N := 7) ?hd (xs := ([0] : List Int)) (inner := [.int .u8 0]) (ok := fun _ => True) (okp := fun _ => True) ?hr ?hp (fun _ hk => hk) trivial (Below.refl _ _) (Nat.le_refl _) (by simp) ?_; (case hd => rfl); (case hg => rfl); (case hr => first | (go_simp; done) | (go_simp; rfl)); (case hp => exact (Reps.one (show Kd.M (Kd.int .u8) _ _ _ 0 [.int .u8 0] from rfl) (Reps.none _ _))); intro v258 w8 ho9 hb hg_ hnew_; clear hg_ hnew_; (first | rw [← Ny257.out] at ho9 | (simp only [Int.reduceToNat] at ho9; rw [← Ny257.out] at ho9)); have HO259 := zA (Kd.R_lower ho9 bels); replace BK255 := zA (blk_below (g := gb255) (o := .cells #[.int .i64 a0_0, .int .i64 a0_1, .int .i64 a0_2, .int .i64 a0_3, .int .i64 a0_4, .int .i64 a0_5, .int .i64 a0_6, .bool a0_7, .int .i64 a0_8, .slice A0_9 l0_9.length c0_9] 28 (0, 0)) (blk_g BK255.out) hb); replace HB := zA (belt hb); clear hb ho9; obtain ⟨hcz10_0, hcz10_1, hcz10_2, hcz10_3, hcz10_4, hcz10_5, hcz10_6, hcz10_7, hcz10_8, hcz10_9⟩ := bx10 BK255.out; obtain ⟨hfz10_0, hfz10_1, hfz10_2, hfz10_3, hfz10_4, hfz10_5, hfz10_6, hfz10_7, hfz10_8, hfz10_9⟩ := fz10 BK255.out))
  (try simp only [Act.put, List.setIfInBounds_toArray, List.set_cons_zero, List.set_cons_succ])
  go_cut [] (fun wc => ∃ (kq : Nat) (x3_3 : List Int), Aside0 (zq_RecordBytes.j0 kq x3_3 a0_0 a0_1 a0_2 a0_3 a0_4 a0_5 a0_6 a0_7 a0_8 l0_9 = some r) ∧ Aside0 (kq ≤ k) ∧ Aside0 (Kd.R (Kd.int .u8) 5 wc w.heap.size (fun _ => True) v258 x3_3) ∧ Aside0 (wc.heap[gb255]? = some (.cells #[.int .i64 a0_0, .int .i64 a0_1, .int .i64 a0_2, .int .i64 a0_3, .int .i64 a0_4, .int .i64 a0_5, .int .i64 a0_6, .bool a0_7, .int .i64 a0_8, (.slice A0_9 l0_9.length c0_9)] 28 (0, 0))) ∧ Aside0 (Below w.heap.size w wc))
  case first =>
   have H := HC4.out
   clear HC4
   by_cases c11 : a0_7 = true
   ·subst c11
    have H1 : (if 0 < (y257.length : Int) then (zq_RecordBytes.j0 k (y257.set (0 : Int).toNat 1) a0_0 a0_1 a0_2 a0_3 a0_4 a0_5 a0_6 true a0_8 l0_9) else (none)) = some r := by rw [if_pos rfl] at H; exact H
    clear H
    have H := H1
    clear H1
    by_cases c12 : 0 < (y257.length : Int)
    ·rw [if_pos c12] at H
     have c12b0 : decide (0 < (y257.length : Int)) = true := decide_eq_true c12
     have c12b1 : decide (0 < y257.length) = true := decide_eq_true (by omega)
     clear c12
     (first | rw [c12b0] | (simp only [i64_w, i32_w]; rw [c12b0]) | rw [c12b1] | skip)
     obtain ⟨y260, hy260⟩ : ∃ y_ : List Int, y_ = (y257.set (0 : Int).toNat 1) := ⟨_, rfl⟩
     replace H : (zq_RecordBytes.j0 k y260 a0_0 a0_1 a0_2 a0_3 a0_4 a0_5 a0_6 true a0_8 l0_9) = some r := zC H hy260
     have Ny260 := zA hy260
     clear hy260
     have H' := zA H
     clear H
     have p13 : 0 ≤ (0 : Int) := (by omega)
     have q13 : (0 : Int) < ((y257.length : Int) : Int) := of_decide_eq_true (by first | (with_reducible assumption) | assumption)
     have qi13 : (0 < y257.length) = True := eq_true (by omega)
     obtain ⟨go13, co13, eo13, gb13, gl13, cl13, HG13⟩ := Kd.R_form HO259.out (by omega)
     (first | cases eo13 | (injection eo13 with ea_ en_ ec_; (first | subst ea_ | (injection ea_ with ea_; subst ea_)); subst ec_; clear en_))
     have GB13 := zA gb13
     have GG13 := zA HG13
     clear gb13 gl13 HG13
     obtain ⟨hx13_0, hf13_0⟩ := Kd.R_celln 0 HO259.out (0 : Int) p13 q13
     (try rw [show ((0 : Int)).toNat = 0 from rfl] at hx13_0)
     (try simp only [Nat.reduceMul, Nat.zero_mul, Nat.zero_add, Nat.reduceAdd] at hx13_0)
     (try rw [show ((0 : Int)).toNat = 0 from rfl] at hf13_0)
     (try simp only [Nat.reduceMul, Nat.zero_mul, Nat.zero_add, Nat.reduceAdd] at hf13_0)
     replace p13 := eq_true p13
     replace q13 := eq_true q13
     have HP14 := Kd.R_putg HO259.out (0 : Int) 1
     go_wp2_with (first | ((with_reducible refine gate_store (t := 5) (p := 11) rfl ?_); refine store_event (t := 5) (p := 11) (v := ?vo_w15) (w1 := (w8.setCell ⟨go13, (0 : Int).toNat, none⟩ (.int .u8 1))) ?hg ?ho ?hn ?hr ?_; (case ho => rfl); (case hg => rfl); (case hn => rfl); (case hr => first | (go_simp; done) | (go_simp; rfl)); intro w15 hw; have hg : w8.grownBy w15 (some go13) := (by rw [hw]; exact HP14.2); have hp_ : Kd.R (Kd.int .u8) 5 w15 w.heap.size (fun _ => True) (.slice (some ⟨go13, 0, none⟩) y257.length co13) y260 := (by rw [hw, Ny260.out]; exact HP14.1); clear HP14; replace BK255 := zA (blk_grown (g := gb255) (o := .cells #[.int .i64 a0_0, .int .i64 a0_1, .int .i64 a0_2, .int .i64 a0_3, .int .i64 a0_4, .int .i64 a0_5, .int .i64 a0_6, .bool true, .int .i64 a0_8, .slice A0_9 l0_9.length c0_9] 28 (0, 0)) (blk_g BK255.out) hg (Kd.R_ne HO259.out BK255.out (by decide))); replace HO259 := zA (hp_); replace HB := zA ((by rw [hw]; exact below_set (HB.out) GB13.out : Below w.heap.size w w15)); clear hg hw hp_))
     go_meet
     case rel => exact ⟨_, (y260), H', ⟨by first | omega | exact Nat.le_refl _⟩, ⟨rdR HO259.out⟩, ⟨rdB BK255.out⟩, ⟨bel⟩⟩
    ·rw [if_neg c12] at H
     exact absurd H (by simp)
   ·replace c11 := Bool.eq_false_iff.mpr c11
    subst c11
    have H1 : (zq_RecordBytes.j0 k y257 a0_0 a0_1 a0_2 a0_3 a0_4 a0_5 a0_6 false a0_8 l0_9) = some r := by rw [if_neg (show ¬ (false = true) by decide)] at H; exact H
    clear H
    have H := H1
    clear H1
    have H' := zA H
    clear H
    go_wp2
    go_meet
    case rel => exact ⟨_, (y257), H', ⟨by first | omega | exact Nat.le_refl _⟩, ⟨rdR HO259.out⟩, ⟨rdB BK255.out⟩, ⟨bel⟩⟩
  case rest =>
   clear HC4
   obtain ⟨kq, x3_3, HA, HJ3, HO_3, BK255, HB⟩ := hcut
   cases kq with
   | zero => exact absurd HA.out (by simp [zq_RecordBytes.j0])
   | succ kj3 =>
    have H := HA.out
    clear HA
    simp only [zq_RecordBytes.j0] at H
    replace H := Option.bind_eq_some_iff.mp H
    obtain ⟨t261, A160, H⟩ := H
    replace H : ((zq_put.f kj3 t261 a0_1 4).bind fun t264 => ((zq_put.f kj3 t264 a0_8 4).bind fun t267 => (if a0_7 = true then (some t267) else ((zq_put.f kj3 t267 a0_2 2).bind fun t270 => ((zq_put.f kj3 t270 a0_3 2).bind fun t273 => ((zq_put.f kj3 t273 a0_4 2).bind fun t276 => ((zq_put.f kj3 t276 a0_5 2).bind fun t279 => ((zq_put.f kj3 t279 a0_6 3).bind fun t282 => (if t282.length + l0_9.length < 140737488355328 then (some (t282 ++ l0_9)) else (none)))))))))) = some r := H
    have A16 := zA A160
    clear A160
    replace H := Option.bind_eq_some_iff.mp H
    obtain ⟨t264, A170, H⟩ := H
    replace H : ((zq_put.f kj3 t264 a0_8 4).bind fun t267 => (if a0_7 = true then (some t267) else ((zq_put.f kj3 t267 a0_2 2).bind fun t270 => ((zq_put.f kj3 t270 a0_3 2).bind fun t273 => ((zq_put.f kj3 t273 a0_4 2).bind fun t276 => ((zq_put.f kj3 t276 a0_5 2).bind fun t279 => ((zq_put.f kj3 t279 a0_6 3).bind fun t282 => (if t282.length + l0_9.length < 140737488355328 then (some (t282 ++ l0_9)) else (none))))))))) = some r := H
    have A17 := zA A170
    clear A170
    replace H := Option.bind_eq_some_iff.mp H
    obtain ⟨t267, A180, H⟩ := H
    replace H : (if a0_7 = true then (some t267) else ((zq_put.f kj3 t267 a0_2 2).bind fun t270 => ((zq_put.f kj3 t270 a0_3 2).bind fun t273 => ((zq_put.f kj3 t273 a0_4 2).bind fun t276 => ((zq_put.f kj3 t276 a0_5 2).bind fun t279 => ((zq_put.f kj3 t279 a0_6 3).bind fun t282 => (if t282.length + l0_9.length < 140737488355328 then (some (t282 ++ l0_9)) else (none)))))))) = some r := H
    have A18 := zA A180
    clear A180
    by_cases c19 : a0_7 = true
    ·subst c19
     have H1 : (some t267) = some r := by rw [if_pos rfl] at H; exact H
     clear H
     have H := H1
     clear H1
     obtain rfl := Option.some.inj H
     try go_wp2
     replace HO_3 := zA (Kd.R_drew HO_3.out)
     replace BK255 := zA (blk_drew BK255.out)
     replace HB := zA (below_drew1 HB.out)
     obtain ⟨Ao21, co21, eo21⟩ := Kd.R_slice HO_3.out
     (first | subst eo21 | (injection eo21 with f1_ f2_ f3_; have f4_ := f1_.symm; have f5_ := f3_.symm; clear f1_ f2_ f3_; subst f4_; subst f5_))
     refine start_ (n := 13) (S := fun w' => E10 w' gb255 (.int .i64 a0_0) (.int .i64 a0_1) (.int .i64 a0_2) (.int .i64 a0_3) (.int .i64 a0_4) (.int .i64 a0_5) (.int .i64 a0_6) (.bool true) (.int .i64 a0_8) (.slice A0_9 l0_9.length c0_9)) (ds := []) (ms 13 0) (by kernel_rfl) rfl rfl (bx10 BK255.out) (fun hHeld => ?_); refine with_tabW zq_RecordBytes.tab6 zq_RecordBytes.bits6 (fun HT_ HW_ => ?_)
     generalize wc.drew = w20 at HO_3 BK255 HB hHeld ⊢
     refine run_ [(0, false, some 12), (1, false, some 13), (2, false, some 14), (5, false, some 17), (6, false, some 18), (9, false, some 21), (3, true, some 15), (7, true, some 19), (10, true, some 22)] (n := 9) (ms 13 1775) rfl HT_.out HW_.out (by kernel_rfl) (fun _ _ _ _ h => h) hHeld ?_
     repeat (first | (refine Run.p (v := ?_) (a' := ?_) rfl rfl (Or.inl ⟨by rfl, ?_⟩) ?_ ?_; rotate_left; (focus intro w'; go_simp; with_reducible rfl); rotate_left; (focus simp only [Act.put, sx]; rfl)) | (refine Run.t (v := ?_) (a' := ?_) rfl rfl (Or.inl ⟨by rfl, ?_⟩) ?_ ?_; rotate_left; (focus rintro w' ⟨s0, s1, s2, s3, s4, s5, s6, s7, s8, s9⟩; go_simp; with_reducible rfl); rotate_left; (focus simp only [Act.put, sx]; rfl)))
     refine Run.nil ?_
     refine one_ (i := 4) (N := some 16) (ms 13 1791) rfl rfl (one_of HT_.out (by kernel_rfl)) (by decide) (fun K hK => ?_)
     refine goes_ Try.func38 (by kernel_rfl) rfl #[.slice Ao21 x3_3.length co21, .int .i64 a0_0, .int .i64 4] (by rfl) rfl rfl (by (try simp only [List.map_toArray, List.map_cons, List.map_nil]); first | done | rfl | (simp only [List.length_drop, List.length_take]; rfl)) ?_
     with_reducible refine (zq_put.calls kj3 (fun k_ => some k_ = (.slice Ao21 x3_3.length co21 : Value).ownBlock) (.slice Ao21 x3_3.length co21) x3_3 a0_0 4 t261 w _ ?side1 ?side2 A16.out).mono ?_
     (case side1 => repeat (first | (with_reducible first | exact HB.out | apply below_alloc | apply pw_below_drewN | apply below_drew1 | refine below_set ?_ GE255.out) | exact HB.out))
     (case side2 => exact Kd.R_tight rfl HO_3.out)
     rintro e w22 ⟨v262, rfl, ho0, hb, hkp⟩
     refine ⟨_, rfl, ?_⟩
     replace BK255 := zA (blk_kept (blk_g BK255.out) hkp (fun hs_ => (fun e_ => (Kd.R_ne HO_3.out BK255.out (by decide)) e_) hs_))
     have HO263 := zA (Kd.R_mono (ok' := fun k_ => True) ho0 (fun k_ hk_ => by first | exact trivial | exact hk_ | grind))
     replace HB := zA (hb)
     clear HO_3
     (try clear hb)
     (try clear hkp)
     (try clear ho0)
     obtain ⟨Ao23, co23, eo23⟩ := Kd.R_slice HO263.out
     (first | subst eo23 | (injection eo23 with f1_ f2_ f3_; have f4_ := f1_.symm; have f5_ := f3_.symm; clear f1_ f2_ f3_; subst f4_; subst f5_))
     refine hK.out _ _ (bx10 BK255.out) (fun hHeld => ?_)
     clear hK K
     refine norm_ (a' := ?_) ?_ ?_
     rotate_left
     ·show Act.put _ (some 16) _ = _
      simp only [Act.put, sx]
      rfl
     refine one_ (i := 8) (N := some 20) (ms 13 2047) rfl rfl (one_of HT_.out (by kernel_rfl)) (by decide) (fun K hK => ?_)
     refine goes_ Try.func38 (by kernel_rfl) rfl #[.slice Ao23 t261.length co23, .int .i64 a0_1, .int .i64 4] (by rfl) rfl rfl (by (try simp only [List.map_toArray, List.map_cons, List.map_nil]); first | done | rfl | (simp only [List.length_drop, List.length_take]; rfl)) ?_
     with_reducible refine (zq_put.calls kj3 (fun k_ => some k_ = (.slice Ao23 t261.length co23 : Value).ownBlock) (.slice Ao23 t261.length co23) t261 a0_1 4 t264 w _ ?side1 ?side2 A17.out).mono ?_
     (case side1 => repeat (first | (with_reducible first | exact HB.out | apply below_alloc | apply pw_below_drewN | apply below_drew1 | refine below_set ?_ GE255.out) | exact HB.out))
     (case side2 => exact Kd.R_tight rfl HO263.out)
     rintro e w24 ⟨v265, rfl, ho0, hb, hkp⟩
     refine ⟨_, rfl, ?_⟩
     replace BK255 := zA (blk_kept (blk_g BK255.out) hkp (fun hs_ => (fun e_ => (Kd.R_ne HO263.out BK255.out (by decide)) e_) hs_))
     have HO266 := zA (Kd.R_mono (ok' := fun k_ => True) ho0 (fun k_ hk_ => by first | exact trivial | exact hk_ | grind))
     replace HB := zA (hb)
     clear HO263
     (try clear hb)
     (try clear hkp)
     (try clear ho0)
     obtain ⟨Ao25, co25, eo25⟩ := Kd.R_slice HO266.out
     (first | subst eo25 | (injection eo25 with f1_ f2_ f3_; have f4_ := f1_.symm; have f5_ := f3_.symm; clear f1_ f2_ f3_; subst f4_; subst f5_))
     refine hK.out _ _ (bx10 BK255.out) (fun hHeld => ?_)
     clear hK K
     refine norm_ (a' := ?_) ?_ ?_
     rotate_left
     ·show Act.put _ (some 20) _ = _
      simp only [Act.put, sx]
      rfl
     refine one_ (i := 11) (N := some 23) (ms 13 4095) rfl rfl (one_of HT_.out (by kernel_rfl)) (by decide) (fun K hK => ?_)
     refine goes_ Try.func38 (by kernel_rfl) rfl #[.slice Ao25 t264.length co25, .int .i64 a0_8, .int .i64 4] (by rfl) rfl rfl (by (try simp only [List.map_toArray, List.map_cons, List.map_nil]); first | done | rfl | (simp only [List.length_drop, List.length_take]; rfl)) ?_
     with_reducible refine (zq_put.calls kj3 (fun k_ => some k_ = (.slice Ao25 t264.length co25 : Value).ownBlock) (.slice Ao25 t264.length co25) t264 a0_8 4 t267 w _ ?side1 ?side2 A18.out).mono ?_
     (case side1 => repeat (first | (with_reducible first | exact HB.out | apply below_alloc | apply pw_below_drewN | apply below_drew1 | refine below_set ?_ GE255.out) | exact HB.out))
     (case side2 => exact Kd.R_tight rfl HO266.out)
     rintro e w26 ⟨v268, rfl, ho0, hb, hkp⟩
     refine ⟨_, rfl, ?_⟩
     replace BK255 := zA (blk_kept (blk_g BK255.out) hkp (fun hs_ => (fun e_ => (Kd.R_ne HO266.out BK255.out (by decide)) e_) hs_))
     have HO269 := zA (Kd.R_mono (ok' := fun k_ => True) ho0 (fun k_ hk_ => by first | exact trivial | exact hk_ | grind))
     replace HB := zA (hb)
     clear HO266
     (try clear hb)
     (try clear hkp)
     (try clear ho0)
     refine hK.out _ _ (bx10 BK255.out) (fun hHeld => ?_)
     clear hK K
     refine norm_ (a' := ?_) ?_ ?_
     rotate_left
     ·show Act.put _ (some 23) _ = _
      simp only [Act.put, sx]
      rfl
     refine pure_ (i := 12) (N := some 3) (v := ?_) (a' := ?_) (ms 13 8191) rfl rfl (any_of HT_.out (by kernel_rfl)) (fun _ _ _ h => h) (Or.inl ⟨by rfl, ?_⟩) ?_ ?_
     rotate_left
     ·intro w'
      go_simp
      with_reducible rfl
     rotate_left
     ·simp only [Act.put, sx]
      rfl
     refine done_ (done_of HT_.out (by kernel_rfl)) ?_
     obtain ⟨hcz27_0, hcz27_1, hcz27_2, hcz27_3, hcz27_4, hcz27_5, hcz27_6, hcz27_7, hcz27_8, hcz27_9⟩ := bx10 BK255.out
     obtain ⟨hfz27_0, hfz27_1, hfz27_2, hfz27_3, hfz27_4, hfz27_5, hfz27_6, hfz27_7, hfz27_8, hfz27_9⟩ := fz10 BK255.out
     try go_wp2
     go_ret
     exact ⟨_, by first | rfl | (simp [errW_none, errW_some] <;> rfl) | (simp [*, errW_none, errW_some] <;> rfl), rdR HO269.out, bel⟩
    ·replace c19 := Bool.eq_false_iff.mpr c19
     subst c19
     have H1 : ((zq_put.f kj3 t267 a0_2 2).bind fun t270 => ((zq_put.f kj3 t270 a0_3 2).bind fun t273 => ((zq_put.f kj3 t273 a0_4 2).bind fun t276 => ((zq_put.f kj3 t276 a0_5 2).bind fun t279 => ((zq_put.f kj3 t279 a0_6 3).bind fun t282 => (if t282.length + l0_9.length < 140737488355328 then (some (t282 ++ l0_9)) else (none))))))) = some r := by rw [if_neg (show ¬ (false = true) by decide)] at H; exact H
     clear H
     have H := H1
     clear H1
     replace H := Option.bind_eq_some_iff.mp H
     obtain ⟨t270, A280, H⟩ := H
     replace H : ((zq_put.f kj3 t270 a0_3 2).bind fun t273 => ((zq_put.f kj3 t273 a0_4 2).bind fun t276 => ((zq_put.f kj3 t276 a0_5 2).bind fun t279 => ((zq_put.f kj3 t279 a0_6 3).bind fun t282 => (if t282.length + l0_9.length < 140737488355328 then (some (t282 ++ l0_9)) else (none)))))) = some r := H
     have A28 := zA A280
     clear A280
     replace H := Option.bind_eq_some_iff.mp H
     obtain ⟨t273, A290, H⟩ := H
     replace H : ((zq_put.f kj3 t273 a0_4 2).bind fun t276 => ((zq_put.f kj3 t276 a0_5 2).bind fun t279 => ((zq_put.f kj3 t279 a0_6 3).bind fun t282 => (if t282.length + l0_9.length < 140737488355328 then (some (t282 ++ l0_9)) else (none))))) = some r := H
     have A29 := zA A290
     clear A290
     replace H := Option.bind_eq_some_iff.mp H
     obtain ⟨t276, A300, H⟩ := H
     replace H : ((zq_put.f kj3 t276 a0_5 2).bind fun t279 => ((zq_put.f kj3 t279 a0_6 3).bind fun t282 => (if t282.length + l0_9.length < 140737488355328 then (some (t282 ++ l0_9)) else (none)))) = some r := H
     have A30 := zA A300
     clear A300
     replace H := Option.bind_eq_some_iff.mp H
     obtain ⟨t279, A310, H⟩ := H
     replace H : ((zq_put.f kj3 t279 a0_6 3).bind fun t282 => (if t282.length + l0_9.length < 140737488355328 then (some (t282 ++ l0_9)) else (none))) = some r := H
     have A31 := zA A310
     clear A310
     replace H := Option.bind_eq_some_iff.mp H
     obtain ⟨t282, A320, H⟩ := H
     replace H : (if t282.length + l0_9.length < 140737488355328 then (some (t282 ++ l0_9)) else (none)) = some r := H
     have A32 := zA A320
     clear A320
     by_cases c33 : t282.length + l0_9.length < 140737488355328
     ·rw [if_pos c33] at H
      have LMc33 := zA c33
      clear c33
      obtain ⟨y285, hy285⟩ : ∃ y_ : List Int, y_ = (t282 ++ l0_9) := ⟨_, rfl⟩
      replace H : (some y285) = some r := zC H hy285
      have Ny285 := zA hy285
      clear hy285
      obtain rfl := Option.some.inj H
      try go_wp2
      replace HO_3 := zA (Kd.R_drew HO_3.out)
      replace BK255 := zA (blk_drew BK255.out)
      replace HB := zA (below_drew1 HB.out)
      obtain ⟨Ao35, co35, eo35⟩ := Kd.R_slice HO_3.out
      (first | subst eo35 | (injection eo35 with f1_ f2_ f3_; have f4_ := f1_.symm; have f5_ := f3_.symm; clear f1_ f2_ f3_; subst f4_; subst f5_))
      refine start_ (n := 13) (S := fun w' => E10 w' gb255 (.int .i64 a0_0) (.int .i64 a0_1) (.int .i64 a0_2) (.int .i64 a0_3) (.int .i64 a0_4) (.int .i64 a0_5) (.int .i64 a0_6) (.bool false) (.int .i64 a0_8) (.slice A0_9 l0_9.length c0_9)) (ds := []) (ms 13 0) (by kernel_rfl) rfl rfl (bx10 BK255.out) (fun hHeld => ?_); refine with_tabW zq_RecordBytes.tab6 zq_RecordBytes.bits6 (fun HT_ HW_ => ?_)
      generalize wc.drew = w34 at HO_3 BK255 HB hHeld ⊢
      refine run_ [(0, false, some 12), (1, false, some 13), (2, false, some 14), (5, false, some 17), (6, false, some 18), (9, false, some 21), (3, true, some 15), (7, true, some 19), (10, true, some 22)] (n := 9) (ms 13 1775) rfl HT_.out HW_.out (by kernel_rfl) (fun _ _ _ _ h => h) hHeld ?_
      repeat (first | (refine Run.p (v := ?_) (a' := ?_) rfl rfl (Or.inl ⟨by rfl, ?_⟩) ?_ ?_; rotate_left; (focus intro w'; go_simp; with_reducible rfl); rotate_left; (focus simp only [Act.put, sx]; rfl)) | (refine Run.t (v := ?_) (a' := ?_) rfl rfl (Or.inl ⟨by rfl, ?_⟩) ?_ ?_; rotate_left; (focus rintro w' ⟨s0, s1, s2, s3, s4, s5, s6, s7, s8, s9⟩; go_simp; with_reducible rfl); rotate_left; (focus simp only [Act.put, sx]; rfl)))
      refine Run.nil ?_
      refine one_ (i := 4) (N := some 16) (ms 13 1791) rfl rfl (one_of HT_.out (by kernel_rfl)) (by decide) (fun K hK => ?_)
      refine goes_ Try.func38 (by kernel_rfl) rfl #[.slice Ao35 x3_3.length co35, .int .i64 a0_0, .int .i64 4] (by rfl) rfl rfl (by (try simp only [List.map_toArray, List.map_cons, List.map_nil]); first | done | rfl | (simp only [List.length_drop, List.length_take]; rfl)) ?_
      with_reducible refine (zq_put.calls kj3 (fun k_ => some k_ = (.slice Ao35 x3_3.length co35 : Value).ownBlock) (.slice Ao35 x3_3.length co35) x3_3 a0_0 4 t261 w _ ?side1 ?side2 A16.out).mono ?_
      (case side1 => repeat (first | (with_reducible first | exact HB.out | apply below_alloc | apply pw_below_drewN | apply below_drew1 | refine below_set ?_ GE255.out) | exact HB.out))
      (case side2 => exact Kd.R_tight rfl HO_3.out)
      rintro e w36 ⟨v262, rfl, ho0, hb, hkp⟩
      refine ⟨_, rfl, ?_⟩
      replace BK255 := zA (blk_kept (blk_g BK255.out) hkp (fun hs_ => (fun e_ => (Kd.R_ne HO_3.out BK255.out (by decide)) e_) hs_))
      have HO263 := zA (Kd.R_mono (ok' := fun k_ => True) ho0 (fun k_ hk_ => by first | exact trivial | exact hk_ | grind))
      replace HB := zA (hb)
      clear HO_3
      (try clear hb)
      (try clear hkp)
      (try clear ho0)
      obtain ⟨Ao37, co37, eo37⟩ := Kd.R_slice HO263.out
      (first | subst eo37 | (injection eo37 with f1_ f2_ f3_; have f4_ := f1_.symm; have f5_ := f3_.symm; clear f1_ f2_ f3_; subst f4_; subst f5_))
      refine hK.out _ _ (bx10 BK255.out) (fun hHeld => ?_)
      clear hK K
      refine norm_ (a' := ?_) ?_ ?_
      rotate_left
      ·show Act.put _ (some 16) _ = _
       simp only [Act.put, sx]
       rfl
      refine one_ (i := 8) (N := some 20) (ms 13 2047) rfl rfl (one_of HT_.out (by kernel_rfl)) (by decide) (fun K hK => ?_)
      refine goes_ Try.func38 (by kernel_rfl) rfl #[.slice Ao37 t261.length co37, .int .i64 a0_1, .int .i64 4] (by rfl) rfl rfl (by (try simp only [List.map_toArray, List.map_cons, List.map_nil]); first | done | rfl | (simp only [List.length_drop, List.length_take]; rfl)) ?_
      with_reducible refine (zq_put.calls kj3 (fun k_ => some k_ = (.slice Ao37 t261.length co37 : Value).ownBlock) (.slice Ao37 t261.length co37) t261 a0_1 4 t264 w _ ?side1 ?side2 A17.out).mono ?_
      (case side1 => repeat (first | (with_reducible first | exact HB.out | apply below_alloc | apply pw_below_drewN | apply below_drew1 | refine below_set ?_ GE255.out) | exact HB.out))
      (case side2 => exact Kd.R_tight rfl HO263.out)
      rintro e w38 ⟨v265, rfl, ho0, hb, hkp⟩
      refine ⟨_, rfl, ?_⟩
      replace BK255 := zA (blk_kept (blk_g BK255.out) hkp (fun hs_ => (fun e_ => (Kd.R_ne HO263.out BK255.out (by decide)) e_) hs_))
      have HO266 := zA (Kd.R_mono (ok' := fun k_ => True) ho0 (fun k_ hk_ => by first | exact trivial | exact hk_ | grind))
      replace HB := zA (hb)
      clear HO263
      (try clear hb)
      (try clear hkp)
      (try clear ho0)
      obtain ⟨Ao39, co39, eo39⟩ := Kd.R_slice HO266.out
      (first | subst eo39 | (injection eo39 with f1_ f2_ f3_; have f4_ := f1_.symm; have f5_ := f3_.symm; clear f1_ f2_ f3_; subst f4_; subst f5_))
      refine hK.out _ _ (bx10 BK255.out) (fun hHeld => ?_)
      clear hK K
      refine norm_ (a' := ?_) ?_ ?_
      rotate_left
      ·show Act.put _ (some 20) _ = _
       simp only [Act.put, sx]
       rfl
      refine one_ (i := 11) (N := some 23) (ms 13 4095) rfl rfl (one_of HT_.out (by kernel_rfl)) (by decide) (fun K hK => ?_)
      refine goes_ Try.func38 (by kernel_rfl) rfl #[.slice Ao39 t264.length co39, .int .i64 a0_8, .int .i64 4] (by rfl) rfl rfl (by (try simp only [List.map_toArray, List.map_cons, List.map_nil]); first | done | rfl | (simp only [List.length_drop, List.length_take]; rfl)) ?_
      with_reducible refine (zq_put.calls kj3 (fun k_ => some k_ = (.slice Ao39 t264.length co39 : Value).ownBlock) (.slice Ao39 t264.length co39) t264 a0_8 4 t267 w _ ?side1 ?side2 A18.out).mono ?_
      (case side1 => repeat (first | (with_reducible first | exact HB.out | apply below_alloc | apply pw_below_drewN | apply below_drew1 | refine below_set ?_ GE255.out) | exact HB.out))
      (case side2 => exact Kd.R_tight rfl HO266.out)
      rintro e w40 ⟨v268, rfl, ho0, hb, hkp⟩
      refine ⟨_, rfl, ?_⟩
      replace BK255 := zA (blk_kept (blk_g BK255.out) hkp (fun hs_ => (fun e_ => (Kd.R_ne HO266.out BK255.out (by decide)) e_) hs_))
      have HO269 := zA (Kd.R_mono (ok' := fun k_ => True) ho0 (fun k_ hk_ => by first | exact trivial | exact hk_ | grind))
      replace HB := zA (hb)
      clear HO266
      (try clear hb)
      (try clear hkp)
      (try clear ho0)
      refine hK.out _ _ (bx10 BK255.out) (fun hHeld => ?_)
      clear hK K
      refine norm_ (a' := ?_) ?_ ?_
      rotate_left
      ·show Act.put _ (some 23) _ = _
       simp only [Act.put, sx]
       rfl
      refine pure_ (i := 12) (N := some 3) (v := ?_) (a' := ?_) (ms 13 8191) rfl rfl (any_of HT_.out (by kernel_rfl)) (fun _ _ _ h => h) (Or.inl ⟨by rfl, ?_⟩) ?_ ?_
      rotate_left
      ·intro w'
       go_simp
       with_reducible rfl
      rotate_left
      ·simp only [Act.put, sx]
       rfl
      refine done_ (done_of HT_.out (by kernel_rfl)) ?_
      obtain ⟨hcz41_0, hcz41_1, hcz41_2, hcz41_3, hcz41_4, hcz41_5, hcz41_6, hcz41_7, hcz41_8, hcz41_9⟩ := bx10 BK255.out
      obtain ⟨hfz41_0, hfz41_1, hfz41_2, hfz41_3, hfz41_4, hfz41_5, hfz41_6, hfz41_7, hfz41_8, hfz41_9⟩ := fz10 BK255.out
      try go_wp2
      replace HO269 := zA (Kd.R_drew HO269.out)
      replace BK255 := zA (blk_drew BK255.out)
      replace HB := zA (below_drew1 HB.out)
      obtain ⟨Ao43, co43, eo43⟩ := Kd.R_slice HO269.out
      (first | subst eo43 | (injection eo43 with f1_ f2_ f3_; have f4_ := f1_.symm; have f5_ := f3_.symm; clear f1_ f2_ f3_; subst f4_; subst f5_))
      refine start_ (n := 20) (S := fun w' => E10 w' gb255 (.int .i64 a0_0) (.int .i64 a0_1) (.int .i64 a0_2) (.int .i64 a0_3) (.int .i64 a0_4) (.int .i64 a0_5) (.int .i64 a0_6) (.bool false) (.int .i64 a0_8) (.slice A0_9 l0_9.length c0_9)) (ds := []) (ms 20 0) (by kernel_rfl) rfl rfl (bx10 BK255.out) (fun hHeld => ?_); refine with_tabW zq_RecordBytes.tab9 zq_RecordBytes.bits9 (fun HT_ HW_ => ?_)
      generalize w40.drew = w42 at HO269 BK255 HB hHeld ⊢
      refine run_ [(0, false, some 27), (1, false, some 28), (2, false, some 29), (5, false, some 32), (6, false, some 33), (9, false, some 36), (10, false, some 37), (13, false, some 40), (16, false, some 43), (3, true, some 30), (7, true, some 34), (11, true, some 38), (14, true, some 41), (17, true, some 44)] (n := 14) (ms 20 225007) rfl HT_.out HW_.out (by kernel_rfl) (fun _ _ _ _ h => h) hHeld ?_
      repeat (first | (refine Run.p (v := ?_) (a' := ?_) rfl rfl (Or.inl ⟨by rfl, ?_⟩) ?_ ?_; rotate_left; (focus intro w'; go_simp; with_reducible rfl); rotate_left; (focus simp only [Act.put, sx]; rfl)) | (refine Run.t (v := ?_) (a' := ?_) rfl rfl (Or.inl ⟨by rfl, ?_⟩) ?_ ?_; rotate_left; (focus rintro w' ⟨s0, s1, s2, s3, s4, s5, s6, s7, s8, s9⟩; go_simp; with_reducible rfl); rotate_left; (focus simp only [Act.put, sx]; rfl)))
      refine Run.nil ?_
      refine one_ (i := 4) (N := some 31) (ms 20 225023) rfl rfl (one_of HT_.out (by kernel_rfl)) (by decide) (fun K hK => ?_)
      refine goes_ Try.func38 (by kernel_rfl) rfl #[.slice Ao43 t267.length co43, .int .i64 a0_2, .int .i64 2] (by rfl) rfl rfl (by (try simp only [List.map_toArray, List.map_cons, List.map_nil]); first | done | rfl | (simp only [List.length_drop, List.length_take]; rfl)) ?_
      with_reducible refine (zq_put.calls kj3 (fun k_ => some k_ = (.slice Ao43 t267.length co43 : Value).ownBlock) (.slice Ao43 t267.length co43) t267 a0_2 2 t270 w _ ?side1 ?side2 A28.out).mono ?_
      (case side1 => repeat (first | (with_reducible first | exact HB.out | apply below_alloc | apply pw_below_drewN | apply below_drew1 | refine below_set ?_ GE255.out) | exact HB.out))
      (case side2 => exact Kd.R_tight rfl HO269.out)
      rintro e w44 ⟨v271, rfl, ho0, hb, hkp⟩
      refine ⟨_, rfl, ?_⟩
      replace BK255 := zA (blk_kept (blk_g BK255.out) hkp (fun hs_ => (fun e_ => (Kd.R_ne HO269.out BK255.out (by decide)) e_) hs_))
      have HO272 := zA (Kd.R_mono (ok' := fun k_ => True) ho0 (fun k_ hk_ => by first | exact trivial | exact hk_ | grind))
      replace HB := zA (hb)
      clear HO269
      (try clear hb)
      (try clear hkp)
      (try clear ho0)
      obtain ⟨Ao45, co45, eo45⟩ := Kd.R_slice HO272.out
      (first | subst eo45 | (injection eo45 with f1_ f2_ f3_; have f4_ := f1_.symm; have f5_ := f3_.symm; clear f1_ f2_ f3_; subst f4_; subst f5_))
      refine hK.out _ _ (bx10 BK255.out) (fun hHeld => ?_)
      clear hK K
      refine norm_ (a' := ?_) ?_ ?_
      rotate_left
      ·show Act.put _ (some 31) _ = _
       simp only [Act.put, sx]
       rfl
      refine one_ (i := 8) (N := some 35) (ms 20 225279) rfl rfl (one_of HT_.out (by kernel_rfl)) (by decide) (fun K hK => ?_)
      refine goes_ Try.func38 (by kernel_rfl) rfl #[.slice Ao45 t270.length co45, .int .i64 a0_3, .int .i64 2] (by rfl) rfl rfl (by (try simp only [List.map_toArray, List.map_cons, List.map_nil]); first | done | rfl | (simp only [List.length_drop, List.length_take]; rfl)) ?_
      with_reducible refine (zq_put.calls kj3 (fun k_ => some k_ = (.slice Ao45 t270.length co45 : Value).ownBlock) (.slice Ao45 t270.length co45) t270 a0_3 2 t273 w _ ?side1 ?side2 A29.out).mono ?_
      (case side1 => repeat (first | (with_reducible first | exact HB.out | apply below_alloc | apply pw_below_drewN | apply below_drew1 | refine below_set ?_ GE255.out) | exact HB.out))
      (case side2 => exact Kd.R_tight rfl HO272.out)
      rintro e w46 ⟨v274, rfl, ho0, hb, hkp⟩
      refine ⟨_, rfl, ?_⟩
      replace BK255 := zA (blk_kept (blk_g BK255.out) hkp (fun hs_ => (fun e_ => (Kd.R_ne HO272.out BK255.out (by decide)) e_) hs_))
      have HO275 := zA (Kd.R_mono (ok' := fun k_ => True) ho0 (fun k_ hk_ => by first | exact trivial | exact hk_ | grind))
      replace HB := zA (hb)
      clear HO272
      (try clear hb)
      (try clear hkp)
      (try clear ho0)
      obtain ⟨Ao47, co47, eo47⟩ := Kd.R_slice HO275.out
      (first | subst eo47 | (injection eo47 with f1_ f2_ f3_; have f4_ := f1_.symm; have f5_ := f3_.symm; clear f1_ f2_ f3_; subst f4_; subst f5_))
      refine hK.out _ _ (bx10 BK255.out) (fun hHeld => ?_)
      clear hK K
      refine norm_ (a' := ?_) ?_ ?_
      rotate_left
      ·show Act.put _ (some 35) _ = _
       simp only [Act.put, sx]
       rfl
      refine one_ (i := 12) (N := some 39) (ms 20 229375) rfl rfl (one_of HT_.out (by kernel_rfl)) (by decide) (fun K hK => ?_)
      refine goes_ Try.func38 (by kernel_rfl) rfl #[.slice Ao47 t273.length co47, .int .i64 a0_4, .int .i64 2] (by rfl) rfl rfl (by (try simp only [List.map_toArray, List.map_cons, List.map_nil]); first | done | rfl | (simp only [List.length_drop, List.length_take]; rfl)) ?_
      with_reducible refine (zq_put.calls kj3 (fun k_ => some k_ = (.slice Ao47 t273.length co47 : Value).ownBlock) (.slice Ao47 t273.length co47) t273 a0_4 2 t276 w _ ?side1 ?side2 A30.out).mono ?_
      (case side1 => repeat (first | (with_reducible first | exact HB.out | apply below_alloc | apply pw_below_drewN | apply below_drew1 | refine below_set ?_ GE255.out) | exact HB.out))
      (case side2 => exact Kd.R_tight rfl HO275.out)
      rintro e w48 ⟨v277, rfl, ho0, hb, hkp⟩
      refine ⟨_, rfl, ?_⟩
      replace BK255 := zA (blk_kept (blk_g BK255.out) hkp (fun hs_ => (fun e_ => (Kd.R_ne HO275.out BK255.out (by decide)) e_) hs_))
      have HO278 := zA (Kd.R_mono (ok' := fun k_ => True) ho0 (fun k_ hk_ => by first | exact trivial | exact hk_ | grind))
      replace HB := zA (hb)
      clear HO275
      (try clear hb)
      (try clear hkp)
      (try clear ho0)
      obtain ⟨Ao49, co49, eo49⟩ := Kd.R_slice HO278.out
      (first | subst eo49 | (injection eo49 with f1_ f2_ f3_; have f4_ := f1_.symm; have f5_ := f3_.symm; clear f1_ f2_ f3_; subst f4_; subst f5_))
      refine hK.out _ _ (bx10 BK255.out) (fun hHeld => ?_)
      clear hK K
      refine norm_ (a' := ?_) ?_ ?_
      rotate_left
      ·show Act.put _ (some 39) _ = _
       simp only [Act.put, sx]
       rfl
      refine one_ (i := 15) (N := some 42) (ms 20 262143) rfl rfl (one_of HT_.out (by kernel_rfl)) (by decide) (fun K hK => ?_)
      refine goes_ Try.func38 (by kernel_rfl) rfl #[.slice Ao49 t276.length co49, .int .i64 a0_5, .int .i64 2] (by rfl) rfl rfl (by (try simp only [List.map_toArray, List.map_cons, List.map_nil]); first | done | rfl | (simp only [List.length_drop, List.length_take]; rfl)) ?_
      with_reducible refine (zq_put.calls kj3 (fun k_ => some k_ = (.slice Ao49 t276.length co49 : Value).ownBlock) (.slice Ao49 t276.length co49) t276 a0_5 2 t279 w _ ?side1 ?side2 A31.out).mono ?_
      (case side1 => repeat (first | (with_reducible first | exact HB.out | apply below_alloc | apply pw_below_drewN | apply below_drew1 | refine below_set ?_ GE255.out) | exact HB.out))
      (case side2 => exact Kd.R_tight rfl HO278.out)
      rintro e w50 ⟨v280, rfl, ho0, hb, hkp⟩
      refine ⟨_, rfl, ?_⟩
      replace BK255 := zA (blk_kept (blk_g BK255.out) hkp (fun hs_ => (fun e_ => (Kd.R_ne HO278.out BK255.out (by decide)) e_) hs_))
      have HO281 := zA (Kd.R_mono (ok' := fun k_ => True) ho0 (fun k_ hk_ => by first | exact trivial | exact hk_ | grind))
      replace HB := zA (hb)
      clear HO278
      (try clear hb)
      (try clear hkp)
      (try clear ho0)
      obtain ⟨Ao51, co51, eo51⟩ := Kd.R_slice HO281.out
      (first | subst eo51 | (injection eo51 with f1_ f2_ f3_; have f4_ := f1_.symm; have f5_ := f3_.symm; clear f1_ f2_ f3_; subst f4_; subst f5_))
      refine hK.out _ _ (bx10 BK255.out) (fun hHeld => ?_)
      clear hK K
      refine norm_ (a' := ?_) ?_ ?_
      rotate_left
      ·show Act.put _ (some 42) _ = _
       simp only [Act.put, sx]
       rfl
      refine one_ (i := 18) (N := some 45) (ms 20 524287) rfl rfl (one_of HT_.out (by kernel_rfl)) (by decide) (fun K hK => ?_)
      refine goes_ Try.func38 (by kernel_rfl) rfl #[.slice Ao51 t279.length co51, .int .i64 a0_6, .int .i64 3] (by rfl) rfl rfl (by (try simp only [List.map_toArray, List.map_cons, List.map_nil]); first | done | rfl | (simp only [List.length_drop, List.length_take]; rfl)) ?_
      with_reducible refine (zq_put.calls kj3 (fun k_ => some k_ = (.slice Ao51 t279.length co51 : Value).ownBlock) (.slice Ao51 t279.length co51) t279 a0_6 3 t282 w _ ?side1 ?side2 A32.out).mono ?_
      (case side1 => repeat (first | (with_reducible first | exact HB.out | apply below_alloc | apply pw_below_drewN | apply below_drew1 | refine below_set ?_ GE255.out) | exact HB.out))
      (case side2 => exact Kd.R_tight rfl HO281.out)
      rintro e w52 ⟨v283, rfl, ho0, hb, hkp⟩
      refine ⟨_, rfl, ?_⟩
      replace BK255 := zA (blk_kept (blk_g BK255.out) hkp (fun hs_ => (fun e_ => (Kd.R_ne HO281.out BK255.out (by decide)) e_) hs_))
      have HO284 := zA (Kd.R_mono (ok' := fun k_ => True) ho0 (fun k_ hk_ => by first | exact trivial | exact hk_ | grind))
      replace HB := zA (hb)
      clear HO281
      (try clear hb)
      (try clear hkp)
      (try clear ho0)
      refine hK.out _ _ (bx10 BK255.out) (fun hHeld => ?_)
      clear hK K
      refine norm_ (a' := ?_) ?_ ?_
      rotate_left
      ·show Act.put _ (some 45) _ = _
       simp only [Act.put, sx]
       rfl
      refine pure_ (i := 19) (N := some 3) (v := ?_) (a' := ?_) (ms 20 1048575) rfl rfl (any_of HT_.out (by kernel_rfl)) (fun _ _ _ h => h) (Or.inl ⟨by rfl, ?_⟩) ?_ ?_
      rotate_left
      ·intro w'
       go_simp
       with_reducible rfl
      rotate_left
      ·simp only [Act.put, sx]
       rfl
      refine done_ (done_of HT_.out (by kernel_rfl)) ?_
      obtain ⟨hcz53_0, hcz53_1, hcz53_2, hcz53_3, hcz53_4, hcz53_5, hcz53_6, hcz53_7, hcz53_8, hcz53_9⟩ := bx10 BK255.out
      obtain ⟨hfz53_0, hfz53_1, hfz53_2, hfz53_3, hfz53_4, hfz53_5, hfz53_6, hfz53_7, hfz53_8, hfz53_9⟩ := fz10 BK255.out
      try go_wp2_with (first | ((with_reducible refine gate_builtin (b := .append) (xs := #[.tmp 46, .tmp 48]) rfl ?_); at_builtin; refine Kd.R_append_rows (Kd.int .u8) (w0 := w) w.heap.size rfl (.tmp 46) (.tmp 48) 26 5 (.int .u8 0) 1 rfl Try.underlying26 info5 rfl (by decide) (by omega) v283 t282 l0_9 _ _ _ (fun _ => True) (fun _ => False) rfl rfl ?aO ?aR (fun _ _ h => h) (fun _ h => h.elim) ?aF ?aB ?aS ?aL ?_; (case aR => repeat (first | exact (Kd.C_below HR0_9.out HB.out) | (with_reducible refine Kd.C_alloc ?_ _) | (with_reducible refine Kd.C_drewN ?_ _) | (with_reducible refine Kd.C_drew ?_))); (case aB => exact bel); (case aF => exact (fun _ _ => trivial)); (case aO => exact (by (with_reducible repeat (first | apply Kd.R_alloc | apply Kd.R_drewN | apply Kd.R_drew)); first | exact HO284.out | exact Kd.R_mono HO284.out (fun _ hk => by grind))); (case aS => exact bels); (case aL => have := LMc33.out; omega); intro v286 w54 ho hb hg hat; rw [← Ny285.out] at ho; replace BK255 := zA (blk_grown (g := gb255) (o := .cells #[.int .i64 a0_0, .int .i64 a0_1, .int .i64 a0_2, .int .i64 a0_3, .int .i64 a0_4, .int .i64 a0_5, .int .i64 a0_6, .bool false, .int .i64 a0_8, .slice A0_9 l0_9.length c0_9] 28 (0, 0)) (blk_g BK255.out) hg (Kd.R_ne HO284.out BK255.out (by decide))); replace HB := zA (hb); have HO287 := zA (ho); clear HO284; clear ho hb hg hat))
      go_ret
      exact ⟨_, by first | rfl | (simp [errW_none, errW_some] <;> rfl) | (simp [*, errW_none, errW_some] <;> rfl), rdR HO287.out, bel⟩
     ·rw [if_neg c33] at H
      exact absurd H (by simp)
 ·replace c3 := Bool.eq_false_iff.mpr c3
  subst c3
  have H1 : (some ([] : List Int)) = some r := by rw [if_neg (show ¬ (false = true) by decide)] at H; exact H
  clear H
  have H := H1
  clear H1
  obtain rfl := Option.some.inj H
  go_enter Try.func15, Try.ntmps15
  go_wp2_with (first | ((with_reducible refine gate_dst (N := 1) rfl ?_); refine box_event ?hg (N := 1) ?hd (cs := #[.int .i64 a0_0, .int .i64 a0_1, .int .i64 a0_2, .int .i64 a0_3, .int .i64 a0_4, .int .i64 a0_5, .int .i64 a0_6, .bool a0_7, .int .i64 a0_8, .slice A0_9 l0_9.length c0_9]) (t := 28) ?hr ?_; (case hd => rfl); (case hg => rfl); (case hr => first | (go_simp; done) | (go_simp; rfl)); intro gb255 hg w55 hbox hb; have BK255 := zA (hbox); have GW255 := zA ((by rw [hg]; exact bels : w.heap.size ≤ gb255)); have GE255 := zA ((by rw [hg]; exact bels : w.heap.size ≤ gb255)); replace HB := zA (belt hb); clear hb hbox hg; obtain ⟨hcz56_0, hcz56_1, hcz56_2, hcz56_3, hcz56_4, hcz56_5, hcz56_6, hcz56_7, hcz56_8, hcz56_9⟩ := bx10 BK255.out; obtain ⟨hfz56_0, hfz56_1, hfz56_2, hfz56_3, hfz56_4, hfz56_5, hfz56_6, hfz56_7, hfz56_8, hfz56_9⟩ := fz10 BK255.out) | ((with_reducible refine gate_callee (f := 10) rfl ?_); refine goesL_ (some 5) rfl rfl Try.func10 (by kernel_rfl) rfl #[.agg #[.int .i64 a0_0, .int .i64 a0_1, .int .i64 a0_2, .int .i64 a0_3, .int .i64 a0_4, .int .i64 a0_5, .int .i64 a0_6, .bool a0_7, .int .i64 a0_8, .slice A0_9 l0_9.length c0_9]] rfl (by (try simp only [List.map_toArray, List.map_cons, List.map_nil]); first | done | rfl | (simp only [List.length_drop, List.length_take]; rfl)) ?_; (with_reducible refine (zq_RightRecord.calls k a0_0 a0_1 a0_2 a0_3 a0_4 a0_5 a0_6 a0_7 a0_8 _ _ l0_9 false _ ?side1 ?side2 A2.out).mono ?_); (case side1 => repeat (first | exact (Kd.C_below HR0_9.out HB.out) | (with_reducible refine Kd.C_alloc ?_ _) | (with_reducible refine Kd.C_drewN ?_ _) | (with_reducible refine Kd.C_drew ?_))); (case side2 => exact HC0_9.out); rintro e w57 ⟨rfl, hb⟩; refine ⟨_, rfl, ?_⟩; replace BK255 := zA (blk_below (g := gb255) (o := .cells #[.int .i64 a0_0, .int .i64 a0_1, .int .i64 a0_2, .int .i64 a0_3, .int .i64 a0_4, .int .i64 a0_5, .int .i64 a0_6, .bool a0_7, .int .i64 a0_8, .slice A0_9 l0_9.length c0_9] 28 (0, 0)) (blk_g BK255.out) hb); replace HB := zA (belt hb)))
  go_ret
  exact ⟨_, by first | rfl | (simp [errW_none, errW_some] <;> rfl) | (simp [*, errW_none, errW_some] <;> rfl), by first | exact Kd.R_nil _ _ _ _ _ | exact Kd.N_nil _ _ _ _ _ | exact Kd.V_nil _ _ _ _ _ | exact Kd.Q_nil _ _ _ _ _ | exact Kd.S_nil _ _ _ _ _, bel⟩
end Go.Proofs.Ytjcfmfdkligmoaa.PRecordTells
