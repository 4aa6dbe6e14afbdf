/- Written by a program (this session's own): functions that the law reaches, as plain Lean functions, each with the proof that the code comes to it. No conditions but those that stand in the theorems. -/
import Derived.Test.YtjcfmfdkligmoaaPq
import Derived.Test.YtjcfmfdkligmoaaPs
import Derived.Test.YtjcfmfdkligmoaaPRecordTellsx0
import Derived.Test.YtjcfmfdkligmoaaPRecordTellsx4
import Derived.Test.YtjcfmfdkligmoaaPRecordTellsx5
set_option maxHeartbeats 8000000
set_option maxRecDepth 100000
namespace Go.Proofs.Ytjcfmfdkligmoaa.PRecordTells
open Go.RowKit Go.Proofs.YtjcfmfdkligmoaaW.PrintWords Go.Proofs.YtjcfmfdkligmoaaW.PrintLast Go.Proofs.YtjcfmfdkligmoaaW.PrintMore
attribute [local go_sem] max2_int min2_int max_two min_two max_three min_three max_four min_four
set_option linter.unusedVariables false
set_option linter.unusedSimpArgs false
def record_Bytes.j0 : Nat → Int → Int → Int → Int → Int → Int → Int → Int → Bool → Int → List Int → Option (List Int)
 | 0, _, _, _, _, _, _, _, _, _, _, _ => none
 | k + 1, x3, x133000, x133001, x133002, x133003, x133004, x133005, x133006, x133007, x133008, x133009 => (record_Number.f k x133000 4).bind fun t137 => ((record_Number.f k x133001 4).bind fun t140 => ((record_Number.f k x133008 4).bind fun t143 => ((cat_bb.f k (([(([x3] : List Int)), t137, t140, t143] : List (List Int)))).bind fun t149 => (if x133007 = true then (some t149) else ((record_Number.f k x133002 2).bind fun t153 => ((record_Number.f k x133003 2).bind fun t156 => ((record_Number.f k x133004 2).bind fun t159 => ((record_Number.f k x133005 2).bind fun t162 => ((record_Number.f k x133006 3).bind fun t165 => ((cat_bb.f k (([t149, t153, t156, t159, t162, t165, x133009] : List (List Int)))).bind fun t171 => (some t171)))))))))))
def record_Bytes.f (k : Nat) (a0_0 : Int) (a0_1 : Int) (a0_2 : Int) (a0_3 : Int) (a0_4 : Int) (a0_5 : Int) (a0_6 : Int) (a0_7 : Bool) (a0_8 : Int) (l0_9 : List Int) : Option (List Int) := (record_Right.f k a0_0 a0_1 a0_2 a0_3 a0_4 a0_5 a0_6 a0_7 a0_8 l0_9).bind fun t133 => (if t133 = true then (if a0_7 = true then (record_Bytes.j0 k 1 a0_0 a0_1 a0_2 a0_3 a0_4 a0_5 a0_6 a0_7 a0_8 l0_9) else (record_Bytes.j0 k 0 a0_0 a0_1 a0_2 a0_3 a0_4 a0_5 a0_6 a0_7 a0_8 l0_9)) else (some ([] : List Int)))
theorem record_Bytes.mono_l : ∀ k, (∀ y0 y1 y2 y3 y4 y5 y6 y7 y8 y9 y10, LeO (record_Bytes.j0 k y0 y1 y2 y3 y4 y5 y6 y7 y8 y9 y10) (record_Bytes.j0 (k + 1) y0 y1 y2 y3 y4 y5 y6 y7 y8 y9 y10))
 | 0 => fun _ _ _ _ _ _ _ _ _ _ _ r h => by simp [record_Bytes.j0] at h
 | k + 1 => by
  have ih0 := record_Bytes.mono_l k
  ·intro y0 y1 y2 y3 y4 y5 y6 y7 y8 y9 y10
   unfold record_Bytes.j0
   repeat' first
   | (with_reducible exact ih0 _ _ _ _ _ _ _ _ _ _ _)
   | (with_reducible exact record_Number.mono _ _ _)
   | (with_reducible exact record_Right.mono _ _ _ _ _ _ _ _ _ _ _)
   | (with_reducible exact cat_bb.mono _ _)
   | (with_reducible exact LeO.refl _)
   | (with_reducible exact LeO.none _)
   | (with_reducible refine LeO.ite ?_ ?_)
   | (with_reducible refine LeO.bind ?_ (fun _ => ?_))
   | exact ih0 _ _ _ _ _ _ _ _ _ _ _
   | exact record_Number.mono _ _ _
   | exact record_Right.mono _ _ _ _ _ _ _ _ _ _ _
   | exact cat_bb.mono _ _
   | exact LeO.none _
   | refine LeO.ite ?_ ?_
   | refine LeO.bind ?_ (fun _ => ?_)
theorem record_Bytes.mono : ∀ a0 a1 a2 a3 a4 a5 a6 a7 a8 a9 k, LeO (record_Bytes.f k a0 a1 a2 a3 a4 a5 a6 a7 a8 a9) (record_Bytes.f (k + 1) a0 a1 a2 a3 a4 a5 a6 a7 a8 a9) := by
 intro a0 a1 a2 a3 a4 a5 a6 a7 a8 a9 k
 have ih0 := record_Bytes.mono_l k
 unfold record_Bytes.f
 repeat' first
  | (with_reducible exact ih0 _ _ _ _ _ _ _ _ _ _ _)
  | (with_reducible exact record_Number.mono _ _ _)
  | (with_reducible exact record_Right.mono _ _ _ _ _ _ _ _ _ _ _)
  | (with_reducible exact cat_bb.mono _ _)
  | (with_reducible exact LeO.refl _)
  | (with_reducible exact LeO.none _)
  | (with_reducible refine LeO.ite ?_ ?_)
  | (with_reducible refine LeO.bind ?_ (fun _ => ?_))
  | exact ih0 _ _ _ _ _ _ _ _ _ _ _
  | exact record_Number.mono _ _ _
  | exact record_Right.mono _ _ _ _ _ _ _ _ _ _ _
  | exact cat_bb.mono _ _
  | exact LeO.none _
  | refine LeO.ite ?_ ?_
  | refine LeO.bind ?_ (fun _ => ?_)
def record_Bytes.T6 : Bool × List (List Nat × List Nat) := (true, [([], []), ([0], [0]), ([], []), ([2], [2]), ([3], [3]), ([4], [4]), ([], []), ([6], [6]), ([7], [7]), ([8, 5], [8]), ([], []), ([10], [10]), ([11, 9], [11]), ([1, 5, 9, 12], [1, 5, 9, 12]), ([13, 12], [13]), ([14, 14, 0, 1, 2, 3, 4, 5, 6, 7, 8, 9, 10, 11, 12, 13, 14], [14])])
def record_Bytes.B6 : List Nat := [0, 1, 0, 4, 12, 28, 0, 64, 192, 508, 0, 1024, 4092, 8191, 16383, 32767]
theorem record_Bytes.tab6 : rtab .any (opsOf Try.f11 6) = record_Bytes.T6 := by kernel_rfl
theorem record_Bytes.bits6 : waitsOk record_Bytes.T6.2 record_Bytes.B6 = true := by kernel_rfl
def record_Bytes.T10 : Bool × List (List Nat × List Nat) := (true, [([], []), ([], []), ([1], [1]), ([2], [2]), ([], []), ([4], [4]), ([5, 3], [5]), ([], []), ([7], [7]), ([8, 6], [8]), ([], []), ([10], [10]), ([11, 9], [11]), ([], []), ([13], [13]), ([14, 12], [14]), ([], []), ([16], [16]), ([0, 3, 6, 9, 12, 15, 17], [0, 3, 6, 9, 12, 15, 17]), ([18, 15], [18]), ([19, 19, 0, 1, 2, 3, 4, 5, 6, 7, 8, 9, 10, 11, 12, 13, 14, 15, 16, 17, 18, 19], [19])])
def record_Bytes.B10 : List Nat := [0, 0, 2, 6, 0, 16, 62, 0, 128, 510, 0, 1024, 4094, 0, 8192, 32766, 0, 65536, 262143, 524287, 1048575]
theorem record_Bytes.tab10 : rtab .any (opsOf Try.f11 10) = record_Bytes.T10 := by kernel_rfl
theorem record_Bytes.bits10 : waitsOk record_Bytes.T10.2 record_Bytes.B10 = true := by kernel_rfl
theorem record_Bytes.calls (k : Nat) (a0_0 : Int) (a0_1 : Int) (a0_2 : Int) (a0_3 : Int) (a0_4 : Int) (a0_5 : Int) (a0_6 : Int) (a0_7 : Bool) (a0_8 : Int) (P0_9_ : Nat → Prop) (A0_9 : Option Addr) (c0_9 : Nat) (l0_9 : List Int) (r : List Int) (w : World) (hs0_9 : Kd.V (Kd.int .u8) 5 w w.heap.size (fun k_ => P0_9_ k_) (.slice A0_9 l0_9.length c0_9) l0_9) (h : record_Bytes.f k a0_0 a0_1 a0_2 a0_3 a0_4 a0_5 a0_6 a0_7 a0_8 l0_9 = some r) :
 Calls Try.prog 11 #[.agg #[.int .i64 a0_0, .int .i64 a0_1, .int .i64 a0_2, .int .i64 a0_3, .int .i64 a0_4, .int .i64 a0_5, .int .i64 a0_6, .bool a0_7, .int .i64 a0_8, .slice A0_9 l0_9.length c0_9]] w fun e w' => ∃ v0_ : Value, e = .returned (v0_) ∧ Kd.R (Kd.int .u8) 5 w' w.heap.size (fun k_ => (w.heap.size ≤ k_)) v0_ r ∧ Below w.heap.size w w' := by
 have hu28 := Try.underlying28
 have hu25 := Try.underlying25
 have HO0_9 := zA (show Kd.V (Kd.int .u8) 5 w w.heap.size (fun k_ => (P0_9_ k_ ∨ w.heap.size ≤ k_)) (.slice A0_9 l0_9.length c0_9) l0_9 from Kd.V_mono hs0_9 (fun k_ hk => by first | exact .inl hk | exact hk | grind))
 have HB := zA (Below.refl w.heap.size w)
 have H : ((record_Right.f k a0_0 a0_1 a0_2 a0_3 a0_4 a0_5 a0_6 a0_7 a0_8 l0_9).bind fun t133 => (if t133 = true then (if a0_7 = true then (record_Bytes.j0 k 1 a0_0 a0_1 a0_2 a0_3 a0_4 a0_5 a0_6 a0_7 a0_8 l0_9) else (record_Bytes.j0 k 0 a0_0 a0_1 a0_2 a0_3 a0_4 a0_5 a0_6 a0_7 a0_8 l0_9)) else (some ([] : List Int)))) = some r := h
 clear h
 replace H := Option.bind_eq_some_iff.mp H
 obtain ⟨t133, A20, H⟩ := H
 replace H : (if t133 = true then (if a0_7 = true then (record_Bytes.j0 k 1 a0_0 a0_1 a0_2 a0_3 a0_4 a0_5 a0_6 a0_7 a0_8 l0_9) else (record_Bytes.j0 k 0 a0_0 a0_1 a0_2 a0_3 a0_4 a0_5 a0_6 a0_7 a0_8 l0_9)) else (some ([] : List Int))) = some r := H
 have A2 := zA A20
 clear A20
 by_cases c3 : t133 = true
 ·subst c3
  have H1 : (if a0_7 = true then (record_Bytes.j0 k 1 a0_0 a0_1 a0_2 a0_3 a0_4 a0_5 a0_6 a0_7 a0_8 l0_9) else (record_Bytes.j0 k 0 a0_0 a0_1 a0_2 a0_3 a0_4 a0_5 a0_6 a0_7 a0_8 l0_9)) = some r := by rw [if_pos rfl] at H; exact H
  clear H
  have H := H1
  clear H1
  have HC4 := zA H
  clear H
  go_enter Try.func11, Try.ntmps11
  go_upto_if 10 with (first | ((with_reducible refine gate_dst (N := 1) rfl ?_); refine box_event ?hg (N := 1) ?hd (cs := #[.int .i64 a0_0, .int .i64 a0_1, .int .i64 a0_2, .int .i64 a0_3, .int .i64 a0_4, .int .i64 a0_5, .int .i64 a0_6, .bool a0_7, .int .i64 a0_8, .slice A0_9 l0_9.length c0_9]) (t := 28) ?hr ?_; (case hd => rfl); (case hg => rfl); (case hr => first | (go_simp; done) | (go_simp; rfl)); intro gb132 hg w5 hbox hb; replace HO0_9 := zA (Kd.V_below (Kd.V_elderB (by (with_reducible repeat (first | apply Kd.V_alloc | apply Kd.V_drewN | apply Kd.V_drew)); first | exact HO0_9.out | exact Kd.V_mono HO0_9.out (fun _ hk => by grind)) gb132 (Nat.le_of_eq hg.symm)) hb); have BK132 := zA (hbox); have GW132 := zA ((by rw [hg]; exact bels : w.heap.size ≤ gb132)); have GE132 := zA ((by rw [hg]; exact bels : w.heap.size ≤ gb132)); replace HB := zA (belt hb); clear hb hbox hg; obtain ⟨hcz6_0, hcz6_1, hcz6_2, hcz6_3, hcz6_4, hcz6_5, hcz6_6, hcz6_7, hcz6_8, hcz6_9⟩ := bx10 BK132.out; obtain ⟨hfz6_0, hfz6_1, hfz6_2, hfz6_3, hfz6_4, hfz6_5, hfz6_6, hfz6_7, hfz6_8, hfz6_9⟩ := fz10 BK132.out) | ((with_reducible refine gate_callee (f := 14) rfl ?_); refine goesL_ (some 7) rfl rfl Try.func14 (by kernel_rfl) rfl #[.agg #[.int .i64 a0_0, .int .i64 a0_1, .int .i64 a0_2, .int .i64 a0_3, .int .i64 a0_4, .int .i64 a0_5, .int .i64 a0_6, .bool a0_7, .int .i64 a0_8, .slice A0_9 l0_9.length c0_9]] rfl (by (try simp only [List.map_toArray, List.map_cons, List.map_nil]); first | done | rfl | (simp only [List.length_drop, List.length_take]; rfl)) ?_; (with_reducible refine (record_Right.calls k a0_0 a0_1 a0_2 a0_3 a0_4 a0_5 a0_6 a0_7 a0_8 _ _ l0_9 true _ ?side1 ?side2 A2.out).mono ?_); (case side1 => repeat (first | exact (Kd.V_reads' HO0_9.out).2.2 | (with_reducible refine Kd.C_alloc ?_ _) | (with_reducible refine Kd.C_drewN ?_ _) | (with_reducible refine Kd.C_drew ?_))); (case side2 => exact (Kd.V_reads' HO0_9.out).2.1); rintro e w7 ⟨rfl, hb⟩; refine ⟨_, rfl, ?_⟩; replace HO0_9 := zA (Kd.V_below (by (with_reducible repeat (first | apply Kd.V_alloc | apply Kd.V_drewN | apply Kd.V_drew)); first | exact HO0_9.out | exact Kd.V_mono HO0_9.out (fun _ hk => by grind)) hb); replace BK132 := zA (blk_below (g := gb132) (o := .cells #[.int .i64 a0_0, .int .i64 a0_1, .int .i64 a0_2, .int .i64 a0_3, .int .i64 a0_4, .int .i64 a0_5, .int .i64 a0_6, .bool a0_7, .int .i64 a0_8, .slice A0_9 l0_9.length c0_9] 28 (0, 0)) (blk_g BK132.out) hb); replace HB := zA (belt hb); obtain ⟨hcz8_0, hcz8_1, hcz8_2, hcz8_3, hcz8_4, hcz8_5, hcz8_6, hcz8_7, hcz8_8, hcz8_9⟩ := bx10 BK132.out; obtain ⟨hfz8_0, hfz8_1, hfz8_2, hfz8_3, hfz8_4, hfz8_5, hfz8_6, hfz8_7, hfz8_8, hfz8_9⟩ := fz10 BK132.out))
  (try simp only [Act.put, List.setIfInBounds_toArray, List.set_cons_zero, List.set_cons_succ])
  go_cut [3] (fun v3 wc => ∃ (kq : Nat) (x3_3 : Int), v3 = .int .u8 x3_3 ∧ Aside0 (record_Bytes.j0 kq x3_3 a0_0 a0_1 a0_2 a0_3 a0_4 a0_5 a0_6 a0_7 a0_8 l0_9 = some r) ∧ Aside0 (kq ≤ k) ∧ Aside0 (Kd.V (Kd.int .u8) 5 wc w.heap.size (fun k_ => (P0_9_ k_ ∨ w.heap.size ≤ k_) ∧ k_ ≠ gb132) (.slice A0_9 l0_9.length c0_9) l0_9) ∧ Aside0 (wc.heap[gb132]? = some (.cells #[.int .i64 a0_0, .int .i64 a0_1, .int .i64 a0_2, .int .i64 a0_3, .int .i64 a0_4, .int .i64 a0_5, .int .i64 a0_6, .bool a0_7, .int .i64 a0_8, (.slice A0_9 l0_9.length c0_9)] 28 (0, 0))) ∧ Aside0 (Below w.heap.size w wc))
  case first =>
   have H := HC4.out
   clear HC4
   by_cases c9 : a0_7 = true
   ·subst c9
    have H1 : (record_Bytes.j0 k 1 a0_0 a0_1 a0_2 a0_3 a0_4 a0_5 a0_6 true a0_8 l0_9) = some r := by rw [if_pos rfl] at H; exact H
    clear H
    have H := H1
    clear H1
    have H' := zA H
    clear H
    go_wp2
    go_meet
    case rel => exact ⟨_, (1), frs, H', ⟨by first | omega | exact Nat.le_refl _⟩, ⟨rdV HO0_9.out⟩, ⟨rdB BK132.out⟩, ⟨bel⟩⟩
   ·replace c9 := Bool.eq_false_iff.mpr c9
    subst c9
    have H1 : (record_Bytes.j0 k 0 a0_0 a0_1 a0_2 a0_3 a0_4 a0_5 a0_6 false a0_8 l0_9) = some r := by rw [if_neg (show ¬ (false = true) by decide)] at H; exact H
    clear H
    have H := H1
    clear H1
    have H' := zA H
    clear H
    go_wp2
    go_meet
    case rel => exact ⟨_, (0), frs, H', ⟨by first | omega | exact Nat.le_refl _⟩, ⟨rdV HO0_9.out⟩, ⟨rdB BK132.out⟩, ⟨bel⟩⟩
  case rest =>
   clear HC4
   obtain ⟨kq, x3_3, rfl, HA, HJ3, HO_133009, BK132, HB⟩ := hcut
   cases kq with
   | zero => exact absurd HA.out (by simp [record_Bytes.j0])
   | succ kj3 =>
    have H := HA.out
    clear HA
    simp only [record_Bytes.j0] at H
    obtain ⟨y134, hy134⟩ : ∃ y_ : List Int, y_ = (([x3_3] : List Int)) := ⟨_, rfl⟩
    replace H : ((record_Number.f kj3 a0_0 4).bind fun t137 => ((record_Number.f kj3 a0_1 4).bind fun t140 => ((record_Number.f kj3 a0_8 4).bind fun t143 => ((cat_bb.f kj3 (([y134, t137, t140, t143] : List (List Int)))).bind fun t149 => (if a0_7 = true then (some t149) else ((record_Number.f kj3 a0_2 2).bind fun t153 => ((record_Number.f kj3 a0_3 2).bind fun t156 => ((record_Number.f kj3 a0_4 2).bind fun t159 => ((record_Number.f kj3 a0_5 2).bind fun t162 => ((record_Number.f kj3 a0_6 3).bind fun t165 => ((cat_bb.f kj3 (([t149, t153, t156, t159, t162, t165, l0_9] : List (List Int)))).bind fun t171 => (some t171)))))))))))) = some r := zC H hy134
    have Ny134 := zA hy134
    clear hy134
    replace H := Option.bind_eq_some_iff.mp H
    obtain ⟨t137, A100, H⟩ := H
    replace H : ((record_Number.f kj3 a0_1 4).bind fun t140 => ((record_Number.f kj3 a0_8 4).bind fun t143 => ((cat_bb.f kj3 (([y134, t137, t140, t143] : List (List Int)))).bind fun t149 => (if a0_7 = true then (some t149) else ((record_Number.f kj3 a0_2 2).bind fun t153 => ((record_Number.f kj3 a0_3 2).bind fun t156 => ((record_Number.f kj3 a0_4 2).bind fun t159 => ((record_Number.f kj3 a0_5 2).bind fun t162 => ((record_Number.f kj3 a0_6 3).bind fun t165 => ((cat_bb.f kj3 (([t149, t153, t156, t159, t162, t165, l0_9] : List (List Int)))).bind fun t171 => (some t171))))))))))) = some r := H
    have A10 := zA A100
    clear A100
    replace H := Option.bind_eq_some_iff.mp H
    obtain ⟨t140, A110, H⟩ := H
    replace H : ((record_Number.f kj3 a0_8 4).bind fun t143 => ((cat_bb.f kj3 (([y134, t137, t140, t143] : List (List Int)))).bind fun t149 => (if a0_7 = true then (some t149) else ((record_Number.f kj3 a0_2 2).bind fun t153 => ((record_Number.f kj3 a0_3 2).bind fun t156 => ((record_Number.f kj3 a0_4 2).bind fun t159 => ((record_Number.f kj3 a0_5 2).bind fun t162 => ((record_Number.f kj3 a0_6 3).bind fun t165 => ((cat_bb.f kj3 (([t149, t153, t156, t159, t162, t165, l0_9] : List (List Int)))).bind fun t171 => (some t171)))))))))) = some r := H
    have A11 := zA A110
    clear A110
    replace H := Option.bind_eq_some_iff.mp H
    obtain ⟨t143, A120, H⟩ := H
    replace H : ((cat_bb.f kj3 (([y134, t137, t140, t143] : List (List Int)))).bind fun t149 => (if a0_7 = true then (some t149) else ((record_Number.f kj3 a0_2 2).bind fun t153 => ((record_Number.f kj3 a0_3 2).bind fun t156 => ((record_Number.f kj3 a0_4 2).bind fun t159 => ((record_Number.f kj3 a0_5 2).bind fun t162 => ((record_Number.f kj3 a0_6 3).bind fun t165 => ((cat_bb.f kj3 (([t149, t153, t156, t159, t162, t165, l0_9] : List (List Int)))).bind fun t171 => (some t171))))))))) = some r := H
    have A12 := zA A120
    clear A120
    obtain ⟨y146, hy146⟩ : ∃ y_ : List (List Int), y_ = (([y134, t137, t140, t143] : List (List Int))) := ⟨_, rfl⟩
    replace H : ((cat_bb.f kj3 y146).bind fun t149 => (if a0_7 = true then (some t149) else ((record_Number.f kj3 a0_2 2).bind fun t153 => ((record_Number.f kj3 a0_3 2).bind fun t156 => ((record_Number.f kj3 a0_4 2).bind fun t159 => ((record_Number.f kj3 a0_5 2).bind fun t162 => ((record_Number.f kj3 a0_6 3).bind fun t165 => ((cat_bb.f kj3 (([t149, t153, t156, t159, t162, t165, l0_9] : List (List Int)))).bind fun t171 => (some t171))))))))) = some r := zC H hy146
    have Ny146 := zA hy146
    clear hy146
    replace H := Option.bind_eq_some_iff.mp H
    obtain ⟨t149, A130, H⟩ := H
    replace H : (if a0_7 = true then (some t149) else ((record_Number.f kj3 a0_2 2).bind fun t153 => ((record_Number.f kj3 a0_3 2).bind fun t156 => ((record_Number.f kj3 a0_4 2).bind fun t159 => ((record_Number.f kj3 a0_5 2).bind fun t162 => ((record_Number.f kj3 a0_6 3).bind fun t165 => ((cat_bb.f kj3 (([t149, t153, t156, t159, t162, t165, l0_9] : List (List Int)))).bind fun t171 => (some t171)))))))) = some r := H
    have A13 := zA A130
    clear A130
    by_cases c14 : a0_7 = true
    ·subst c14
     have H1 : (some t149) = some r := by rw [if_pos rfl] at H; exact H
     clear H
     have H := H1
     clear H1
     obtain rfl := Option.some.inj H
     try go_wp2
     replace HO_133009 := zA (Kd.V_drew HO_133009.out)
     replace BK132 := zA (blk_drew BK132.out)
     replace HB := zA (below_drew1 HB.out)
     refine start_ (n := 16) (S := fun w' => True) (ds := []) (ms 16 0) (by kernel_rfl) rfl rfl trivial (fun hHeld => ?_); refine with_tabW record_Bytes.tab6 record_Bytes.bits6 (fun HT_ HW_ => ?_)
     generalize wc.drew = w15 at HO_133009 BK132 HB hHeld ⊢
     refine run_ [(0, false, some 11), (2, false, some 13), (3, false, some 14), (6, false, some 17), (7, false, some 18), (10, false, some 21)] (n := 6) (ms 16 1229) rfl HT_.out HW_.out (by kernel_rfl) (fun _ _ _ _ h => h) hHeld ?_
     repeat (refine Run.p (v := ?_) (a' := ?_) rfl rfl (Or.inl ⟨by rfl, ?_⟩) ?_ ?_; rotate_left; (focus intro w'; go_simp; with_reducible rfl); rotate_left; (focus simp only [Act.put, sx]; rfl))
     refine Run.nil ?_
     refine inv_at [1, 4, 5, 8, 9, 11, 12, 13, 14, 15] (fun a0_ b a w' => ∃ (v135 : Value) (v138 : Value) (v141 : Value) (v144 : Value) (v147 : Value) (v150 : Value) (m15_ : Value), a = putSel a0_ b [(1, 12, v135), (4, 15, .int .i64 a0_0), (5, 16, v138), (8, 19, .int .i64 a0_1), (9, 20, v141), (11, 22, .int .i64 a0_8), (12, 23, v144), (13, 24, v147), (14, 25, v150), (15, 4, m15_)] ∧ (Kd.V (Kd.int .u8) 5 w' w.heap.size (fun k_ => (P0_9_ k_ ∨ w.heap.size ≤ k_) ∧ k_ ≠ gb132) (.slice A0_9 l0_9.length c0_9) l0_9) ∧ (w'.heap[gb132]? = some (.cells #[.int .i64 a0_0, .int .i64 a0_1, .int .i64 a0_2, .int .i64 a0_3, .int .i64 a0_4, .int .i64 a0_5, .int .i64 a0_6, .bool true, .int .i64 a0_8, .slice A0_9 l0_9.length c0_9] 28 (0, 0))) ∧ (Below w.heap.size w w') ∧ (b 1 = true → b 13 = false → Kd.R (Kd.int .u8) 5 w' w.heap.size (fun k_ => (w.heap.size ≤ k_)) v135 y134) ∧ (b 5 = true → b 13 = false → Kd.R (Kd.int .u8) 5 w' w.heap.size (fun k_ => (w.heap.size ≤ k_)) v138 t137) ∧ (b 9 = true → b 13 = false → Kd.R (Kd.int .u8) 5 w' w.heap.size (fun k_ => (w.heap.size ≤ k_)) v141 t140) ∧ (b 12 = true → b 13 = false → Kd.R (Kd.int .u8) 5 w' w.heap.size (fun k_ => (w.heap.size ≤ k_)) v144 t143) ∧ (b 13 = true → Kd.N (Kd.slice 5 (Kd.int .u8)) 26 w' w.heap.size (fun k_ => (P0_9_ k_ ∨ w.heap.size ≤ k_) ∧ k_ ≠ gb132) v147 y146) ∧ (b 14 = true → Kd.R (Kd.int .u8) 5 w' w.heap.size (fun k_ => (w.heap.size ≤ k_)) v150 t149) ∧ (b 15 = true → (m15_ : Value) = v150)) HT_.out HW_.out (by kernel_rfl) (by kernel_rfl) ?_ ?_ ?_
     ·exact ⟨.bool false, .bool false, .bool false, .bool false, .bool false, .bool false, .bool false, by simp only [putSel, Bool.false_eq_true, if_false], HO_133009.out, BK132.out, HB.out, fun h_ => absurd h_ (by decide), fun h_ => absurd h_ (by decide), fun h_ => absurd h_ (by decide), fun h_ => absurd h_ (by decide), fun h_ => absurd h_ (by decide), fun h_ => absurd h_ (by decide), fun h_ => absurd h_ (by decide)⟩
     ·skip
      clear BK132 HB HO_133009
      refine steps_cons ?_ ?_
      ·rintro b a w' ⟨v135, v138, v141, v144, v147, v150, m15_, ha, Q_HO_133009, Q_BK132, Q_HB, Q_HO136, Q_HO139, Q_HO142, Q_HO145, Q_HO148, Q_HO151, Q_X15_⟩ hb_ hon hoff
       refine ⟨_, rfl, fun K hK => ?_⟩
       have e11 : a.tmps[11]? = some (.int .u8 x3_3) := by rw [ha]; exact (putSel_off rfl).trans rfl
       replace ha := zA ha
       have HO_133009 := zA Q_HO_133009
       have BK132 := zA Q_BK132
       have HB := zA Q_HB
       refine Kd.R_lit_step (Kd.int .u8) _ 5 ?hg (N := 12) ?hd (xs := ([x3_3] : List Int)) (inner := [.int .u8 x3_3]) (ok := fun _ => True) (okp := fun _ => True) ?hr ?hp (fun _ hk => hk) trivial (Below.refl _ _) (Nat.le_refl _) (by simp) ?_; (case hd => rfl); (case hg => rfl); (case hr => first | (go_simp; done) | (go_simp; rfl)); (case hp => exact (Reps.one (show Kd.M (Kd.int .u8) _ _ _ x3_3 [.int .u8 x3_3] from rfl) (Reps.none _ _)))
       intro v135 w16 ho17 hb hg_ hnew_
       clear hg_ hnew_
       (first | rw [← Ny134.out] at ho17 | (simp only [Int.reduceToNat] at ho17; rw [← Ny134.out] at ho17))
       have n0_ := zA (Kd.V_elder' (by (with_reducible repeat (first | apply Kd.V_alloc | apply Kd.V_drewN | apply Kd.V_drew)); first | exact HO_133009.out | exact Kd.V_mono HO_133009.out (fun _ hk => by grind)) (Kd.R_base ho17) hb)
       have n1_ := zA (Kd.R_lower (Kd.R_newM (M := fun k_ => (w.heap.size ≤ k_)) ho17 bels (fun k_ h_ => h_)) bels)
       have n2_ := zA (blk_below (g := gb132) (o := .cells #[.int .i64 a0_0, .int .i64 a0_1, .int .i64 a0_2, .int .i64 a0_3, .int .i64 a0_4, .int .i64 a0_5, .int .i64 a0_6, .bool true, .int .i64 a0_8, .slice A0_9 l0_9.length c0_9] 28 (0, 0)) (blk_g BK132.out) hb)
       have n3_ := zA (belt hb)
       have z_HO139 := fun (h0_ : b 5 = true) (h1_ : b 13 = false) => (show Kd.R (Kd.int .u8) 5 w16 w.heap.size (fun k_ => (w.heap.size ≤ k_)) v138 t137 from by first | exact (Kd.R_elder' (R_g (Q_HO139 h0_ h1_)) (Kd.R_base ho17) hb) | exact Kd.R_mono (Kd.R_elder' (R_g (Q_HO139 h0_ h1_)) (Kd.R_base ho17) hb) (fun _ h_ => by first | trivial | exact h_ | exact h_.1))
       have z_HO142 := fun (h0_ : b 9 = true) (h1_ : b 13 = false) => (show Kd.R (Kd.int .u8) 5 w16 w.heap.size (fun k_ => (w.heap.size ≤ k_)) v141 t140 from by first | exact (Kd.R_elder' (R_g (Q_HO142 h0_ h1_)) (Kd.R_base ho17) hb) | exact Kd.R_mono (Kd.R_elder' (R_g (Q_HO142 h0_ h1_)) (Kd.R_base ho17) hb) (fun _ h_ => by first | trivial | exact h_ | exact h_.1))
       have z_HO145 := fun (h0_ : b 12 = true) (h1_ : b 13 = false) => (show Kd.R (Kd.int .u8) 5 w16 w.heap.size (fun k_ => (w.heap.size ≤ k_)) v144 t143 from by first | exact (Kd.R_elder' (R_g (Q_HO145 h0_ h1_)) (Kd.R_base ho17) hb) | exact Kd.R_mono (Kd.R_elder' (R_g (Q_HO145 h0_ h1_)) (Kd.R_base ho17) hb) (fun _ h_ => by first | trivial | exact h_ | exact h_.1))
       clear HO_133009
       clear BK132
       clear HB
       have HO_133009 := n0_
       have HO136 := n1_
       have BK132 := n2_
       have HB := n3_
       clear n0_ n1_ n2_ n3_
       clear hb ho17
       refine hK.out _ _ ⟨v135, v138, v141, v144, v147, v150, m15_, (by rw [ha.out]; exact putSel_upk 0 hb_ rfl rfl rfl), (V_g (Kd.V_mono HO_133009.out (fun _ hk => by first | exact ⟨hk.1.1, ⟨hk.2, hk.1.2⟩⟩ | exact hk | grind))), (blk_g BK132.out), bel, fun _ _ => (R_g (Kd.R_mono HO136.out (fun _ hk => by first | exact hk.1 | exact hk | grind))), z_HO139, z_HO142, z_HO145, fun h0_ => absurd ((hoff 13 (by kernel_rfl)).symm.trans h0_) (by decide), fun h0_ => absurd ((hoff 14 (by kernel_rfl)).symm.trans h0_) (by decide), fun h0_ => absurd ((hoff 15 (by kernel_rfl)).symm.trans h0_) (by decide)⟩
      refine steps_cons ?_ ?_
      ·rintro b a w' ⟨v135, v138, v141, v144, v147, v150, m15_, ha, Q_HO_133009, Q_BK132, Q_HB, Q_HO136, Q_HO139, Q_HO142, Q_HO145, Q_HO148, Q_HO151, Q_X15_⟩ hb_ hon hoff
       refine ⟨_, rfl, fun K hK => ?_⟩
       have e14 : a.tmps[14]? = some (.pointer (some ⟨gb132, 0, none⟩)) := by rw [ha]; exact (putSel_off rfl).trans rfl
       replace ha := zA ha
       have HO_133009 := zA Q_HO_133009
       have BK132 := zA Q_BK132
       have HB := zA Q_HB
       obtain ⟨hc0_, hc1_, hc2_, hc3_, hc4_, hc5_, hc6_, hc7_, hc8_, hc9_⟩ := bx10 BK132.out
       refine value_ (w1 := w') (v := .int .i64 a0_0) (by rfl) rfl ?_ ?_
       ·go_simp
        (try simp only [i64_w])
        try rfl
       refine hK.out _ _ ⟨v135, v138, v141, v144, v147, v150, m15_, (by rw [ha.out]; exact putSel_upk 1 hb_ rfl rfl rfl), Q_HO_133009, Q_BK132, Q_HB, Q_HO136, fun h0_ _ => absurd ((hoff 5 (by kernel_rfl)).symm.trans h0_) (by decide), fun h0_ _ => absurd ((hoff 9 (by kernel_rfl)).symm.trans h0_) (by decide), fun h0_ _ => absurd ((hoff 12 (by kernel_rfl)).symm.trans h0_) (by decide), fun h0_ => absurd ((hoff 13 (by kernel_rfl)).symm.trans h0_) (by decide), fun h0_ => absurd ((hoff 14 (by kernel_rfl)).symm.trans h0_) (by decide), fun h0_ => absurd ((hoff 15 (by kernel_rfl)).symm.trans h0_) (by decide)⟩
      refine steps_cons ?_ ?_
      ·rintro b a w' ⟨v135, v138, v141, v144, v147, v150, m15_, ha, Q_HO_133009, Q_BK132, Q_HB, Q_HO136, Q_HO139, Q_HO142, Q_HO145, Q_HO148, Q_HO151, Q_X15_⟩ hb_ hon hoff
       refine ⟨_, rfl, fun K hK => ?_⟩
       have e15 : a.tmps[15]? = some (.int .i64 a0_0) := by rw [ha]; exact putSel_on (e := (4, 15, .int .i64 a0_0)) 1 rfl rfl (hon 4 (by kernel_rfl)) rfl
       replace ha := zA ha
       have HO_133009 := zA Q_HO_133009
       have BK132 := zA Q_BK132
       have HB := zA Q_HB
       refine goes_ Try.func30 (by kernel_rfl) rfl #[.int .i64 a0_0, .int .i64 4] (by rfl) rfl rfl (by first | (simp only [List.map_toArray, List.map_cons, List.map_nil, Act.eval, Array.getD_eq_getD_getElem?, Option.getD_some, e15]; done) | (simp only [List.map_toArray, List.map_cons, List.map_nil, Act.eval, Array.getD_eq_getD_getElem?, Option.getD_some, e15]; rfl)) ?_
       with_reducible refine (record_Number.calls kj3 a0_0 4 t137 _ A10.out).mono ?_
       rintro e w16 ⟨v138, rfl, ho0, hb⟩
       refine ⟨_, rfl, ?_⟩
       have n0_ := zA (Kd.V_elder' (by (with_reducible repeat (first | apply Kd.V_alloc | apply Kd.V_drewN | apply Kd.V_drew)); first | exact HO_133009.out | exact Kd.V_mono HO_133009.out (fun _ hk => by grind)) (Kd.R_base ho0) hb)
       have n1_ := zA (Kd.R_lower (Kd.R_newM (M := fun k_ => (w.heap.size ≤ k_)) ho0 bels (fun k_ h_ => h_)) bels)
       have n2_ := zA (blk_below (g := gb132) (o := .cells #[.int .i64 a0_0, .int .i64 a0_1, .int .i64 a0_2, .int .i64 a0_3, .int .i64 a0_4, .int .i64 a0_5, .int .i64 a0_6, .bool true, .int .i64 a0_8, .slice A0_9 l0_9.length c0_9] 28 (0, 0)) (blk_g BK132.out) hb)
       have n3_ := zA (belt hb)
       have z_HO136 := fun (h0_ : b 1 = true) (h1_ : b 13 = false) => (show Kd.R (Kd.int .u8) 5 w16 w.heap.size (fun k_ => (w.heap.size ≤ k_)) v135 y134 from by first | exact (Kd.R_elder' (R_g (Q_HO136 h0_ h1_)) (Kd.R_base ho0) hb) | exact Kd.R_mono (Kd.R_elder' (R_g (Q_HO136 h0_ h1_)) (Kd.R_base ho0) hb) (fun _ h_ => by first | trivial | exact h_ | exact h_.1))
       clear HO_133009
       clear BK132
       clear HB
       have HO_133009 := n0_
       have HO139 := n1_
       have BK132 := n2_
       have HB := n3_
       clear n0_ n1_ n2_ n3_
       (try clear hb)
       (try clear hb2)
       (try clear hk)
       (try clear hi)
       (try clear ho0)
       refine hK.out _ _ ⟨v135, v138, v141, v144, v147, v150, m15_, (by rw [ha.out]; exact putSel_upk 2 hb_ rfl rfl rfl), (V_g (Kd.V_mono HO_133009.out (fun _ hk => by first | exact ⟨hk.1.1, ⟨hk.2, hk.1.2⟩⟩ | exact hk | grind))), (blk_g BK132.out), bel, z_HO136, fun _ _ => (R_g (Kd.R_mono HO139.out (fun _ hk => by first | exact hk.1 | exact hk | grind))), fun h0_ _ => absurd ((hoff 9 (by kernel_rfl)).symm.trans h0_) (by decide), fun h0_ _ => absurd ((hoff 12 (by kernel_rfl)).symm.trans h0_) (by decide), fun h0_ => absurd ((hoff 13 (by kernel_rfl)).symm.trans h0_) (by decide), fun h0_ => absurd ((hoff 14 (by kernel_rfl)).symm.trans h0_) (by decide), fun h0_ => absurd ((hoff 15 (by kernel_rfl)).symm.trans h0_) (by decide)⟩
      refine steps_cons ?_ ?_
      ·rintro b a w' ⟨v135, v138, v141, v144, v147, v150, m15_, ha, Q_HO_133009, Q_BK132, Q_HB, Q_HO136, Q_HO139, Q_HO142, Q_HO145, Q_HO148, Q_HO151, Q_X15_⟩ hb_ hon hoff
       refine ⟨_, rfl, fun K hK => ?_⟩
       have e18 : a.tmps[18]? = some (.pointer (some ⟨gb132, 1, none⟩)) := by rw [ha]; exact (putSel_off rfl).trans rfl
       replace ha := zA ha
       have HO_133009 := zA Q_HO_133009
       have BK132 := zA Q_BK132
       have HB := zA Q_HB
       obtain ⟨hc0_, hc1_, hc2_, hc3_, hc4_, hc5_, hc6_, hc7_, hc8_, hc9_⟩ := bx10 BK132.out
       refine value_ (w1 := w') (v := .int .i64 a0_1) (by rfl) rfl ?_ ?_
       ·go_simp
        (try simp only [i64_w])
        try rfl
       refine hK.out _ _ ⟨v135, v138, v141, v144, v147, v150, m15_, (by rw [ha.out]; exact putSel_upk 3 hb_ rfl rfl rfl), Q_HO_133009, Q_BK132, Q_HB, Q_HO136, Q_HO139, fun h0_ _ => absurd ((hoff 9 (by kernel_rfl)).symm.trans h0_) (by decide), fun h0_ _ => absurd ((hoff 12 (by kernel_rfl)).symm.trans h0_) (by decide), fun h0_ => absurd ((hoff 13 (by kernel_rfl)).symm.trans h0_) (by decide), fun h0_ => absurd ((hoff 14 (by kernel_rfl)).symm.trans h0_) (by decide), fun h0_ => absurd ((hoff 15 (by kernel_rfl)).symm.trans h0_) (by decide)⟩
      refine steps_cons ?_ ?_
      ·rintro b a w' ⟨v135, v138, v141, v144, v147, v150, m15_, ha, Q_HO_133009, Q_BK132, Q_HB, Q_HO136, Q_HO139, Q_HO142, Q_HO145, Q_HO148, Q_HO151, Q_X15_⟩ hb_ hon hoff
       refine ⟨_, rfl, fun K hK => ?_⟩
       have e19 : a.tmps[19]? = some (.int .i64 a0_1) := by rw [ha]; exact putSel_on (e := (8, 19, .int .i64 a0_1)) 3 rfl rfl (hon 8 (by kernel_rfl)) rfl
       replace ha := zA ha
       have HO_133009 := zA Q_HO_133009
       have BK132 := zA Q_BK132
       have HB := zA Q_HB
       have HO139 := zA (Q_HO139 (hon 5 (by kernel_rfl)) (hoff 13 (by kernel_rfl)))
       refine goes_ Try.func30 (by kernel_rfl) rfl #[.int .i64 a0_1, .int .i64 4] (by rfl) rfl rfl (by first | (simp only [List.map_toArray, List.map_cons, List.map_nil, Act.eval, Array.getD_eq_getD_getElem?, Option.getD_some, e19]; done) | (simp only [List.map_toArray, List.map_cons, List.map_nil, Act.eval, Array.getD_eq_getD_getElem?, Option.getD_some, e19]; rfl)) ?_
       with_reducible refine (record_Number.calls kj3 a0_1 4 t140 _ A11.out).mono ?_
       rintro e w18 ⟨v141, rfl, ho0, hb⟩
       refine ⟨_, rfl, ?_⟩
       have n0_ := zA (Kd.V_elder' (by (with_reducible repeat (first | apply Kd.V_alloc | apply Kd.V_drewN | apply Kd.V_drew)); first | exact HO_133009.out | exact Kd.V_mono HO_133009.out (fun _ hk => by grind)) (Kd.R_base ho0) hb)
       have n1_ := zA (Kd.R_elder' (by (with_reducible repeat (first | apply Kd.R_alloc | apply Kd.R_drewN | apply Kd.R_drew)); first | exact HO139.out | exact Kd.R_mono HO139.out (fun _ hk => by grind)) (Kd.R_base ho0) hb)
       have n2_ := zA (Kd.R_lower (Kd.R_new' (Kd.R_newM (M := fun k_ => (w.heap.size ≤ k_)) ho0 bels (fun k_ h_ => h_)) (Kd.R_lt (by (with_reducible repeat (first | apply Kd.R_alloc | apply Kd.R_drewN | apply Kd.R_drew)); first | exact HO139.out | exact Kd.R_mono HO139.out (fun _ hk => by grind)))) bels)
       have n3_ := zA (blk_below (g := gb132) (o := .cells #[.int .i64 a0_0, .int .i64 a0_1, .int .i64 a0_2, .int .i64 a0_3, .int .i64 a0_4, .int .i64 a0_5, .int .i64 a0_6, .bool true, .int .i64 a0_8, .slice A0_9 l0_9.length c0_9] 28 (0, 0)) (blk_g BK132.out) hb)
       have n4_ := zA (belt hb)
       have z_HO136 := fun (h0_ : b 1 = true) (h1_ : b 13 = false) => (show Kd.R (Kd.int .u8) 5 w18 w.heap.size (fun k_ => (w.heap.size ≤ k_)) v135 y134 from by first | exact (Kd.R_elder' (R_g (Q_HO136 h0_ h1_)) (Kd.R_base ho0) hb) | exact Kd.R_mono (Kd.R_elder' (R_g (Q_HO136 h0_ h1_)) (Kd.R_base ho0) hb) (fun _ h_ => by first | trivial | exact h_ | exact h_.1))
       clear HO_133009
       clear HO139
       clear BK132
       clear HB
       have HO_133009 := n0_
       have HO139 := n1_
       have HO142 := n2_
       have BK132 := n3_
       have HB := n4_
       clear n0_ n1_ n2_ n3_ n4_
       (try clear hb)
       (try clear hb2)
       (try clear hk)
       (try clear hi)
       (try clear ho0)
       refine hK.out _ _ ⟨v135, v138, v141, v144, v147, v150, m15_, (by rw [ha.out]; exact putSel_upk 4 hb_ rfl rfl rfl), (V_g (Kd.V_mono HO_133009.out (fun _ hk => by first | exact ⟨hk.1.1, ⟨hk.1.2.1, ⟨hk.2, hk.1.2.2⟩⟩⟩ | exact hk | grind))), (blk_g BK132.out), bel, z_HO136, fun _ _ => (by (with_reducible repeat (first | apply Kd.R_alloc | apply Kd.R_drewN | apply Kd.R_drew)); first | exact HO139.out | exact Kd.R_mono HO139.out (fun _ hk => by grind)), fun _ _ => (R_g (Kd.R_mono HO142.out (fun _ hk => by first | exact ⟨hk.1.1, hk.2⟩ | exact hk | grind))), fun h0_ _ => absurd ((hoff 12 (by kernel_rfl)).symm.trans h0_) (by decide), fun h0_ => absurd ((hoff 13 (by kernel_rfl)).symm.trans h0_) (by decide), fun h0_ => absurd ((hoff 14 (by kernel_rfl)).symm.trans h0_) (by decide), fun h0_ => absurd ((hoff 15 (by kernel_rfl)).symm.trans h0_) (by decide)⟩
      refine steps_cons ?_ ?_
      ·rintro b a w' ⟨v135, v138, v141, v144, v147, v150, m15_, ha, Q_HO_133009, Q_BK132, Q_HB, Q_HO136, Q_HO139, Q_HO142, Q_HO145, Q_HO148, Q_HO151, Q_X15_⟩ hb_ hon hoff
       refine ⟨_, rfl, fun K hK => ?_⟩
       have e21 : a.tmps[21]? = some (.pointer (some ⟨gb132, 8, none⟩)) := by rw [ha]; exact (putSel_off rfl).trans rfl
       replace ha := zA ha
       have HO_133009 := zA Q_HO_133009
       have BK132 := zA Q_BK132
       have HB := zA Q_HB
       obtain ⟨hc0_, hc1_, hc2_, hc3_, hc4_, hc5_, hc6_, hc7_, hc8_, hc9_⟩ := bx10 BK132.out
       refine value_ (w1 := w') (v := .int .i64 a0_8) (by rfl) rfl ?_ ?_
       ·go_simp
        (try simp only [i64_w])
        try rfl
       refine hK.out _ _ ⟨v135, v138, v141, v144, v147, v150, m15_, (by rw [ha.out]; exact putSel_upk 5 hb_ rfl rfl rfl), Q_HO_133009, Q_BK132, Q_HB, Q_HO136, Q_HO139, Q_HO142, fun h0_ _ => absurd ((hoff 12 (by kernel_rfl)).symm.trans h0_) (by decide), fun h0_ => absurd ((hoff 13 (by kernel_rfl)).symm.trans h0_) (by decide), fun h0_ => absurd ((hoff 14 (by kernel_rfl)).symm.trans h0_) (by decide), fun h0_ => absurd ((hoff 15 (by kernel_rfl)).symm.trans h0_) (by decide)⟩
      refine steps_cons ?_ ?_
      ·rintro b a w' ⟨v135, v138, v141, v144, v147, v150, m15_, ha, Q_HO_133009, Q_BK132, Q_HB, Q_HO136, Q_HO139, Q_HO142, Q_HO145, Q_HO148, Q_HO151, Q_X15_⟩ hb_ hon hoff
       refine ⟨_, rfl, fun K hK => ?_⟩
       have e22 : a.tmps[22]? = some (.int .i64 a0_8) := by rw [ha]; exact putSel_on (e := (11, 22, .int .i64 a0_8)) 5 rfl rfl (hon 11 (by kernel_rfl)) rfl
       replace ha := zA ha
       have HO_133009 := zA Q_HO_133009
       have BK132 := zA Q_BK132
       have HB := zA Q_HB
       have HO139 := zA (Q_HO139 (hon 5 (by kernel_rfl)) (hoff 13 (by kernel_rfl)))
       have HO142 := zA (Q_HO142 (hon 9 (by kernel_rfl)) (hoff 13 (by kernel_rfl)))
       refine goes_ Try.func30 (by kernel_rfl) rfl #[.int .i64 a0_8, .int .i64 4] (by rfl) rfl rfl (by first | (simp only [List.map_toArray, List.map_cons, List.map_nil, Act.eval, Array.getD_eq_getD_getElem?, Option.getD_some, e22]; done) | (simp only [List.map_toArray, List.map_cons, List.map_nil, Act.eval, Array.getD_eq_getD_getElem?, Option.getD_some, e22]; rfl)) ?_
       with_reducible refine (record_Number.calls kj3 a0_8 4 t143 _ A12.out).mono ?_
       rintro e w19 ⟨v144, rfl, ho0, hb⟩
       refine ⟨_, rfl, ?_⟩
       have n0_ := zA (Kd.V_elder' (by (with_reducible repeat (first | apply Kd.V_alloc | apply Kd.V_drewN | apply Kd.V_drew)); first | exact HO_133009.out | exact Kd.V_mono HO_133009.out (fun _ hk => by grind)) (Kd.R_base ho0) hb)
       have n1_ := zA (Kd.R_elder' (by (with_reducible repeat (first | apply Kd.R_alloc | apply Kd.R_drewN | apply Kd.R_drew)); first | exact HO139.out | exact Kd.R_mono HO139.out (fun _ hk => by grind)) (Kd.R_base ho0) hb)
       have n2_ := zA (Kd.R_elder' (by (with_reducible repeat (first | apply Kd.R_alloc | apply Kd.R_drewN | apply Kd.R_drew)); first | exact HO142.out | exact Kd.R_mono HO142.out (fun _ hk => by grind)) (Kd.R_base ho0) hb)
       have n3_ := zA (Kd.R_lower (Kd.R_new' (Kd.R_new' (Kd.R_newM (M := fun k_ => (w.heap.size ≤ k_)) ho0 bels (fun k_ h_ => h_)) (Kd.R_lt (by (with_reducible repeat (first | apply Kd.R_alloc | apply Kd.R_drewN | apply Kd.R_drew)); first | exact HO139.out | exact Kd.R_mono HO139.out (fun _ hk => by grind)))) (Kd.R_lt (by (with_reducible repeat (first | apply Kd.R_alloc | apply Kd.R_drewN | apply Kd.R_drew)); first | exact HO142.out | exact Kd.R_mono HO142.out (fun _ hk => by grind)))) bels)
       have n4_ := zA (blk_below (g := gb132) (o := .cells #[.int .i64 a0_0, .int .i64 a0_1, .int .i64 a0_2, .int .i64 a0_3, .int .i64 a0_4, .int .i64 a0_5, .int .i64 a0_6, .bool true, .int .i64 a0_8, .slice A0_9 l0_9.length c0_9] 28 (0, 0)) (blk_g BK132.out) hb)
       have n5_ := zA (belt hb)
       have z_HO136 := fun (h0_ : b 1 = true) (h1_ : b 13 = false) => (show Kd.R (Kd.int .u8) 5 w19 w.heap.size (fun k_ => (w.heap.size ≤ k_)) v135 y134 from by first | exact (Kd.R_elder' (R_g (Q_HO136 h0_ h1_)) (Kd.R_base ho0) hb) | exact Kd.R_mono (Kd.R_elder' (R_g (Q_HO136 h0_ h1_)) (Kd.R_base ho0) hb) (fun _ h_ => by first | trivial | exact h_ | exact h_.1))
       clear HO_133009
       clear HO139
       clear HO142
       clear BK132
       clear HB
       have HO_133009 := n0_
       have HO139 := n1_
       have HO142 := n2_
       have HO145 := n3_
       have BK132 := n4_
       have HB := n5_
       clear n0_ n1_ n2_ n3_ n4_ n5_
       (try clear hb)
       (try clear hb2)
       (try clear hk)
       (try clear hi)
       (try clear ho0)
       refine hK.out _ _ ⟨v135, v138, v141, v144, v147, v150, m15_, (by rw [ha.out]; exact putSel_upk 6 hb_ rfl rfl rfl), (V_g (Kd.V_mono HO_133009.out (fun _ hk => by first | exact ⟨hk.1.1, ⟨hk.1.2.1, ⟨hk.1.2.2.1, ⟨hk.2, hk.1.2.2.2⟩⟩⟩⟩ | exact hk | grind))), (blk_g BK132.out), bel, z_HO136, fun _ _ => (R_g (Kd.R_mono HO139.out (fun _ hk => by first | exact ⟨hk.1.1, ⟨hk.1.2, hk.2⟩⟩ | exact hk | grind))), fun _ _ => (R_g (Kd.R_mono HO142.out (fun _ hk => by first | exact ⟨hk.1.1, ⟨hk.1.2, hk.2⟩⟩ | exact hk | grind))), fun _ _ => (R_g (Kd.R_mono HO145.out (fun _ hk => by first | exact ⟨hk.1.1.1, ⟨hk.1.2, hk.2⟩⟩ | exact hk | grind))), fun h0_ => absurd ((hoff 13 (by kernel_rfl)).symm.trans h0_) (by decide), fun h0_ => absurd ((hoff 14 (by kernel_rfl)).symm.trans h0_) (by decide), fun h0_ => absurd ((hoff 15 (by kernel_rfl)).symm.trans h0_) (by decide)⟩
      refine steps_cons ?_ ?_
      ·rintro b a w' ⟨v135, v138, v141, v144, v147, v150, m15_, ha, Q_HO_133009, Q_BK132, Q_HB, Q_HO136, Q_HO139, Q_HO142, Q_HO145, Q_HO148, Q_HO151, Q_X15_⟩ hb_ hon hoff
       refine ⟨_, rfl, fun K hK => ?_⟩
       have e12 : a.tmps[12]? = some (v135) := by rw [ha]; exact putSel_on (e := (1, 12, v135)) 0 rfl rfl (hon 1 (by kernel_rfl)) rfl
       have e16 : a.tmps[16]? = some (v138) := by rw [ha]; exact putSel_on (e := (5, 16, v138)) 2 rfl rfl (hon 5 (by kernel_rfl)) rfl
       have e20 : a.tmps[20]? = some (v141) := by rw [ha]; exact putSel_on (e := (9, 20, v141)) 4 rfl rfl (hon 9 (by kernel_rfl)) rfl
       have e23 : a.tmps[23]? = some (v144) := by rw [ha]; exact putSel_on (e := (12, 23, v144)) 6 rfl rfl (hon 12 (by kernel_rfl)) rfl
       replace ha := zA ha
       have HO_133009 := zA Q_HO_133009
       have BK132 := zA Q_BK132
       have HB := zA Q_HB
       have HO136 := zA (Q_HO136 (hon 1 (by kernel_rfl)) hb_)
       have HO139 := zA (Q_HO139 (hon 5 (by kernel_rfl)) hb_)
       have HO142 := zA (Q_HO142 (hon 9 (by kernel_rfl)) hb_)
       have HO145 := zA (Q_HO145 (hon 12 (by kernel_rfl)) hb_)
       obtain ⟨Ao22, co22, eo22⟩ := Kd.R_slice HO136.out
       (first | subst eo22 | (injection eo22 with f1_ f2_ f3_; have f4_ := f1_.symm; have f5_ := f3_.symm; clear f1_ f2_ f3_; subst f4_; subst f5_))
       obtain ⟨Ao23, co23, eo23⟩ := Kd.R_slice HO139.out
       (first | subst eo23 | (injection eo23 with f1_ f2_ f3_; have f4_ := f1_.symm; have f5_ := f3_.symm; clear f1_ f2_ f3_; subst f4_; subst f5_))
       obtain ⟨Ao24, co24, eo24⟩ := Kd.R_slice HO142.out
       (first | subst eo24 | (injection eo24 with f1_ f2_ f3_; have f4_ := f1_.symm; have f5_ := f3_.symm; clear f1_ f2_ f3_; subst f4_; subst f5_))
       obtain ⟨Ao25, co25, eo25⟩ := Kd.R_slice HO145.out
       (first | subst eo25 | (injection eo25 with f1_ f2_ f3_; have f4_ := f1_.symm; have f5_ := f3_.symm; clear f1_ f2_ f3_; subst f4_; subst f5_))
       refine Kd.N_lit_step (Kd.slice 5 (Kd.int .u8)) _ 26 ?hg (N' := 24) ?hd (xs := ([y134, t137, t140, t143] : List (List Int))) (inner := [.slice Ao22 y134.length co22, .slice Ao23 t137.length co23, .slice Ao24 t140.length co24, .slice Ao25 t143.length co25]) (ok := (fun k_ => (P0_9_ k_ ∨ w.heap.size ≤ k_) ∧ k_ ≠ gb132)) (okp := (fun k_ => (P0_9_ k_ ∨ w.heap.size ≤ k_) ∧ k_ ≠ gb132)) ?hr ?hp (fun _ hk => hk) ((show ∀ k_, w'.heap.size ≤ k_ → (fun k_ => (P0_9_ k_ ∨ w.heap.size ≤ k_) ∧ k_ ≠ gb132) k_ from fun k_ hk => ⟨(.inr (Nat.le_trans bels hk)), Kd.freshB (g := gb132) (o := .cells #[.int .i64 a0_0, .int .i64 a0_1, .int .i64 a0_2, .int .i64 a0_3, .int .i64 a0_4, .int .i64 a0_5, .int .i64 a0_6, .bool true, .int .i64 a0_8, .slice A0_9 l0_9.length c0_9] 28 (0, 0)) (blk_g BK132.out) k_ hk⟩) _ (Nat.le_refl _)) (Below.refl _ _) (Nat.le_refl _) (by simp) ?_; (case hd => rfl); (case hg => rfl); (case hr => first | (go_simp; done) | (go_simp; rfl)); (case hp => exact (Reps.one (show Kd.FK (Kd.slice 5 (Kd.int .u8)) _ _ y134 [.slice Ao22 y134.length co22] from (Kd.FK_slice_mk (Kd.R_reads' (Kd.R_mono (ok' := (fun k_ => (P0_9_ k_ ∨ w.heap.size ≤ k_) ∧ k_ ≠ gb132)) (Kd.R_types (HO136.out) BK132.out (by decide)) (fun k_ hk => by first | exact ⟨(.inr (hk.1.1)), hk.2⟩ | exact hk | grind))).2.1 (Kd.R_F (Kd.R_mono (ok' := (fun k_ => (P0_9_ k_ ∨ w.heap.size ≤ k_) ∧ k_ ≠ gb132)) (Kd.R_types (HO136.out) BK132.out (by decide)) (fun k_ hk => by first | exact ⟨(.inr (hk.1.1)), hk.2⟩ | exact hk | grind))))) (Reps.one (show Kd.FK (Kd.slice 5 (Kd.int .u8)) _ _ t137 [.slice Ao23 t137.length co23] from (Kd.FK_slice_mk (Kd.R_reads' (Kd.R_mono (ok' := (fun k_ => (P0_9_ k_ ∨ w.heap.size ≤ k_) ∧ k_ ≠ gb132)) (Kd.R_types (HO139.out) BK132.out (by decide)) (fun k_ hk => by first | exact ⟨(.inr (hk.1.1)), hk.2⟩ | exact hk | grind))).2.1 (Kd.R_F (Kd.R_mono (ok' := (fun k_ => (P0_9_ k_ ∨ w.heap.size ≤ k_) ∧ k_ ≠ gb132)) (Kd.R_types (HO139.out) BK132.out (by decide)) (fun k_ hk => by first | exact ⟨(.inr (hk.1.1)), hk.2⟩ | exact hk | grind))))) (Reps.one (show Kd.FK (Kd.slice 5 (Kd.int .u8)) _ _ t140 [.slice Ao24 t140.length co24] from (Kd.FK_slice_mk (Kd.R_reads' (Kd.R_mono (ok' := (fun k_ => (P0_9_ k_ ∨ w.heap.size ≤ k_) ∧ k_ ≠ gb132)) (Kd.R_types (HO142.out) BK132.out (by decide)) (fun k_ hk => by first | exact ⟨(.inr (hk.1.1)), hk.2⟩ | exact hk | grind))).2.1 (Kd.R_F (Kd.R_mono (ok' := (fun k_ => (P0_9_ k_ ∨ w.heap.size ≤ k_) ∧ k_ ≠ gb132)) (Kd.R_types (HO142.out) BK132.out (by decide)) (fun k_ hk => by first | exact ⟨(.inr (hk.1.1)), hk.2⟩ | exact hk | grind))))) (Reps.one (show Kd.FK (Kd.slice 5 (Kd.int .u8)) _ _ t143 [.slice Ao25 t143.length co25] from (Kd.FK_slice_mk (Kd.R_reads' (Kd.R_mono (ok' := (fun k_ => (P0_9_ k_ ∨ w.heap.size ≤ k_) ∧ k_ ≠ gb132)) (Kd.R_types (HO145.out) BK132.out (by decide)) (fun k_ hk => by first | exact ⟨(.inr (hk.1.1)), hk.2⟩ | exact hk | grind))).2.1 (Kd.R_F (Kd.R_mono (ok' := (fun k_ => (P0_9_ k_ ∨ w.heap.size ≤ k_) ∧ k_ ≠ gb132)) (Kd.R_types (HO145.out) BK132.out (by decide)) (fun k_ hk => by first | exact ⟨(.inr (hk.1.1)), hk.2⟩ | exact hk | grind))))) (Reps.none _ _))))))
       intro v147 w26 ho27 hb hg_ hnew_
       clear hg_ hnew_
       (first | rw [← Ny146.out] at ho27 | (simp only [Int.reduceToNat] at ho27; rw [← Ny146.out] at ho27))
       replace HO_133009 := zA (Kd.V_elder' (by (with_reducible repeat (first | apply Kd.V_alloc | apply Kd.V_drewN | apply Kd.V_drew)); first | exact HO_133009.out | exact Kd.V_mono HO_133009.out (fun _ hk => by grind)) (by first | exact Kd.N_base ho27 | exact Kd.N_base (Kd.S_N ho27)) hb)
       have HO148 := zA (Kd.N_lower ho27 bels)
       replace BK132 := zA (blk_below (g := gb132) (o := .cells #[.int .i64 a0_0, .int .i64 a0_1, .int .i64 a0_2, .int .i64 a0_3, .int .i64 a0_4, .int .i64 a0_5, .int .i64 a0_6, .bool true, .int .i64 a0_8, .slice A0_9 l0_9.length c0_9] 28 (0, 0)) (blk_g BK132.out) hb)
       replace HB := zA (belt hb)
       clear HO136 HO139 HO142 HO145
       clear hb ho27
       refine hK.out _ _ ⟨.slice Ao22 y134.length co22, .slice Ao23 t137.length co23, .slice Ao24 t140.length co24, .slice Ao25 t143.length co25, v147, v150, m15_, (by rw [ha.out]; exact putSel_upk 7 hb_ rfl rfl rfl), (V_g (Kd.V_mono HO_133009.out (fun _ hk => by first | exact ⟨hk.1.1, ⟨hk.2, hk.1.2.2.2.2.2⟩⟩ | exact hk | grind))), (blk_g BK132.out), bel, fun _ h1_ => absurd ((up_self b 13).symm.trans h1_) (by decide), fun _ h1_ => absurd ((up_self b 13).symm.trans h1_) (by decide), fun _ h1_ => absurd ((up_self b 13).symm.trans h1_) (by decide), fun _ h1_ => absurd ((up_self b 13).symm.trans h1_) (by decide), fun _ => (by (with_reducible repeat (first | apply Kd.N_alloc | apply Kd.N_drewN | apply Kd.N_drew)); first | exact HO148.out | exact Kd.N_mono HO148.out (fun _ hk => by grind)), fun h0_ => absurd ((hoff 14 (by kernel_rfl)).symm.trans h0_) (by decide), fun h0_ => absurd ((hoff 15 (by kernel_rfl)).symm.trans h0_) (by decide)⟩
      refine steps_cons ?_ ?_
      ·rintro b a w' ⟨v135, v138, v141, v144, v147, v150, m15_, ha, Q_HO_133009, Q_BK132, Q_HB, Q_HO136, Q_HO139, Q_HO142, Q_HO145, Q_HO148, Q_HO151, Q_X15_⟩ hb_ hon hoff
       refine ⟨_, rfl, fun K hK => ?_⟩
       have e24 : a.tmps[24]? = some (v147) := by rw [ha]; exact putSel_on (e := (13, 24, v147)) 7 rfl rfl (hon 13 (by kernel_rfl)) rfl
       replace ha := zA ha
       have HO_133009 := zA Q_HO_133009
       have BK132 := zA Q_BK132
       have HB := zA Q_HB
       have HO148 := zA (Q_HO148 (hon 13 (by kernel_rfl)))
       obtain ⟨Ao28, co28, eo28⟩ := Kd.N_slice HO148.out
       (first | subst eo28 | (injection eo28 with f1_ f2_ f3_; have f4_ := f1_.symm; have f5_ := f3_.symm; clear f1_ f2_ f3_; subst f4_; subst f5_))
       refine goes_ Try.func29 (by kernel_rfl) rfl #[.slice Ao28 y146.length co28] (by rfl) rfl rfl (by first | (simp only [List.map_toArray, List.map_cons, List.map_nil, Act.eval, Array.getD_eq_getD_getElem?, Option.getD_some, e24]; done) | (simp only [List.map_toArray, List.map_cons, List.map_nil, Act.eval, Array.getD_eq_getD_getElem?, Option.getD_some, e24]; rfl)) ?_
       with_reducible refine (cat_bb.calls kj3 _ _ y146 t149 _ ?side1 ?side2 A13.out).mono ?_
       (case side1 => repeat (first | exact (Kd.N_reads' HO148.out).2.2 | (with_reducible refine Kd.C_alloc ?_ _) | (with_reducible refine Kd.C_drewN ?_ _) | (with_reducible refine Kd.C_drew ?_)))
       (case side2 => exact (Kd.N_reads' HO148.out).2.1)
       rintro e w29 ⟨v150, rfl, ho0, hb⟩
       refine ⟨_, rfl, ?_⟩
       replace HO_133009 := zA (Kd.V_elder' (by (with_reducible repeat (first | apply Kd.V_alloc | apply Kd.V_drewN | apply Kd.V_drew)); first | exact HO_133009.out | exact Kd.V_mono HO_133009.out (fun _ hk => by grind)) (Kd.R_base ho0) hb)
       replace HO148 := zA (Kd.N_elder' (by (with_reducible repeat (first | apply Kd.N_alloc | apply Kd.N_drewN | apply Kd.N_drew)); first | exact HO148.out | exact Kd.N_mono HO148.out (fun _ hk => by grind)) (Kd.R_base ho0) hb)
       have HO151 := zA (Kd.R_lower (Kd.R_newM (M := fun k_ => (w.heap.size ≤ k_)) ho0 bels (fun k_ h_ => h_)) bels)
       replace BK132 := zA (blk_below (g := gb132) (o := .cells #[.int .i64 a0_0, .int .i64 a0_1, .int .i64 a0_2, .int .i64 a0_3, .int .i64 a0_4, .int .i64 a0_5, .int .i64 a0_6, .bool true, .int .i64 a0_8, .slice A0_9 l0_9.length c0_9] 28 (0, 0)) (blk_g BK132.out) hb)
       replace HB := zA (belt hb)
       (try clear hb)
       (try clear hb2)
       (try clear hk)
       (try clear hi)
       (try clear ho0)
       refine hK.out _ _ ⟨v135, v138, v141, v144, .slice Ao28 y146.length co28, v150, m15_, (by rw [ha.out]; exact putSel_upk 8 hb_ rfl rfl rfl), (V_g (Kd.V_mono HO_133009.out (fun _ hk => by first | exact ⟨hk.1.1, ⟨hk.1.2.1, ⟨hk.2, hk.1.2.2⟩⟩⟩ | exact hk | grind))), (blk_g BK132.out), bel, fun _ h1_ => absurd ((hon 13 (by kernel_rfl)).symm.trans h1_) (by decide), fun _ h1_ => absurd ((hon 13 (by kernel_rfl)).symm.trans h1_) (by decide), fun _ h1_ => absurd ((hon 13 (by kernel_rfl)).symm.trans h1_) (by decide), fun _ h1_ => absurd ((hon 13 (by kernel_rfl)).symm.trans h1_) (by decide), fun _ => (N_g (Kd.N_mono HO148.out (fun _ hk => by first | exact ⟨hk.1.1, ⟨hk.2, hk.1.2⟩⟩ | exact hk | grind))), fun _ => (R_g (Kd.R_mono HO151.out (fun _ hk => by first | exact hk.1 | exact hk | grind))), fun h0_ => absurd ((hoff 15 (by kernel_rfl)).symm.trans h0_) (by decide)⟩
      refine steps_cons ?_ ?_
      ·rintro b a w' ⟨v135, v138, v141, v144, v147, v150, m15_, ha, Q_HO_133009, Q_BK132, Q_HB, Q_HO136, Q_HO139, Q_HO142, Q_HO145, Q_HO148, Q_HO151, Q_X15_⟩ hb_ hon hoff
       refine ⟨_, rfl, fun K hK => ?_⟩
       have e25 : a.tmps[25]? = some (v150) := by rw [ha]; exact putSel_on (e := (14, 25, v150)) 8 rfl rfl (hon 14 (by kernel_rfl)) rfl
       replace ha := zA ha
       have HO_133009 := zA Q_HO_133009
       have BK132 := zA Q_BK132
       have HB := zA Q_HB
       have HO148 := zA (Q_HO148 (hon 13 (by kernel_rfl)))
       have HO151 := zA (Q_HO151 (hon 14 (by kernel_rfl)))
       refine value_ (w1 := w') (v := v150) (by rfl) rfl ?_ ?_
       ·go_simp
        (try simp only [i64_w])
        try rfl
       refine hK.out _ _ ⟨v135, v138, v141, v144, v147, v150, (v150), (by rw [ha.out]; exact putSel_upk 9 hb_ rfl rfl rfl), Q_HO_133009, Q_BK132, Q_HB, fun _ h1_ => absurd ((hon 13 (by kernel_rfl)).symm.trans h1_) (by decide), fun _ h1_ => absurd ((hon 13 (by kernel_rfl)).symm.trans h1_) (by decide), fun _ h1_ => absurd ((hon 13 (by kernel_rfl)).symm.trans h1_) (by decide), fun _ h1_ => absurd ((hon 13 (by kernel_rfl)).symm.trans h1_) (by decide), Q_HO148, Q_HO151, fun _ => rfl⟩
      exact steps_nil
     rintro b a w29 hall ⟨v135, v138, v141, v144, v147, v150, m15_, ha, Q_HO_133009, Q_BK132, Q_HB, Q_HO136, Q_HO139, Q_HO142, Q_HO145, Q_HO148, Q_HO151, Q_X15_⟩
     clear BK132 HB HO_133009
     have hb1_ := hall 1 (by kernel_rfl)
     have hb4_ := hall 4 (by kernel_rfl)
     have hb5_ := hall 5 (by kernel_rfl)
     have hb8_ := hall 8 (by kernel_rfl)
     have hb9_ := hall 9 (by kernel_rfl)
     have hb11_ := hall 11 (by kernel_rfl)
     have hb12_ := hall 12 (by kernel_rfl)
     have hb13_ := hall 13 (by kernel_rfl)
     have hb14_ := hall 14 (by kernel_rfl)
     have hb15_ := hall 15 (by kernel_rfl)
     subst ha
     obtain rfl := (Q_X15_ hb15_).symm
     simp only [putSel, hb1_, hb4_, hb5_, hb8_, hb9_, hb11_, hb12_, hb13_, hb14_, hb15_, if_true, Act.put, List.setIfInBounds_toArray, List.set_cons_zero, List.set_cons_succ]
     have HO_133009 := zA Q_HO_133009
     clear Q_HO_133009
     have BK132 := zA Q_BK132
     clear Q_BK132
     have HB := zA Q_HB
     clear Q_HB
     clear Q_HO136
     clear Q_HO139
     clear Q_HO142
     clear Q_HO145
     have HO148 := zA (Q_HO148 hb13_)
     clear Q_HO148
     have HO151 := zA (Q_HO151 hb14_)
     clear Q_HO151
     clear hall hb1_ hb4_ hb5_ hb8_ hb9_ hb11_ hb12_ hb13_ hb14_ hb15_
     obtain ⟨hcz30_0, hcz30_1, hcz30_2, hcz30_3, hcz30_4, hcz30_5, hcz30_6, hcz30_7, hcz30_8, hcz30_9⟩ := bx10 BK132.out
     obtain ⟨hfz30_0, hfz30_1, hfz30_2, hfz30_3, hfz30_4, hfz30_5, hfz30_6, hfz30_7, hfz30_8, hfz30_9⟩ := fz10 BK132.out
     try go_wp2
     go_ret
     exact ⟨_, by first | rfl | (simp [errW_none, errW_some] <;> rfl) | (simp [*, errW_none, errW_some] <;> rfl), rdR HO151.out, bel⟩
    ·replace c14 := Bool.eq_false_iff.mpr c14
     subst c14
     have H1 : ((record_Number.f kj3 a0_2 2).bind fun t153 => ((record_Number.f kj3 a0_3 2).bind fun t156 => ((record_Number.f kj3 a0_4 2).bind fun t159 => ((record_Number.f kj3 a0_5 2).bind fun t162 => ((record_Number.f kj3 a0_6 3).bind fun t165 => ((cat_bb.f kj3 (([t149, t153, t156, t159, t162, t165, l0_9] : List (List Int)))).bind fun t171 => (some t171))))))) = some r := by rw [if_neg (show ¬ (false = true) by decide)] at H; exact H
     clear H
     have H := H1
     clear H1
     replace H := Option.bind_eq_some_iff.mp H
     obtain ⟨t153, A310, H⟩ := H
     replace H : ((record_Number.f kj3 a0_3 2).bind fun t156 => ((record_Number.f kj3 a0_4 2).bind fun t159 => ((record_Number.f kj3 a0_5 2).bind fun t162 => ((record_Number.f kj3 a0_6 3).bind fun t165 => ((cat_bb.f kj3 (([t149, t153, t156, t159, t162, t165, l0_9] : List (List Int)))).bind fun t171 => (some t171)))))) = some r := H
     have A31 := zA A310
     clear A310
     replace H := Option.bind_eq_some_iff.mp H
     obtain ⟨t156, A320, H⟩ := H
     replace H : ((record_Number.f kj3 a0_4 2).bind fun t159 => ((record_Number.f kj3 a0_5 2).bind fun t162 => ((record_Number.f kj3 a0_6 3).bind fun t165 => ((cat_bb.f kj3 (([t149, t153, t156, t159, t162, t165, l0_9] : List (List Int)))).bind fun t171 => (some t171))))) = some r := H
     have A32 := zA A320
     clear A320
     replace H := Option.bind_eq_some_iff.mp H
     obtain ⟨t159, A330, H⟩ := H
     replace H : ((record_Number.f kj3 a0_5 2).bind fun t162 => ((record_Number.f kj3 a0_6 3).bind fun t165 => ((cat_bb.f kj3 (([t149, t153, t156, t159, t162, t165, l0_9] : List (List Int)))).bind fun t171 => (some t171)))) = some r := H
     have A33 := zA A330
     clear A330
     replace H := Option.bind_eq_some_iff.mp H
     obtain ⟨t162, A340, H⟩ := H
     replace H : ((record_Number.f kj3 a0_6 3).bind fun t165 => ((cat_bb.f kj3 (([t149, t153, t156, t159, t162, t165, l0_9] : List (List Int)))).bind fun t171 => (some t171))) = some r := H
     have A34 := zA A340
     clear A340
     replace H := Option.bind_eq_some_iff.mp H
     obtain ⟨t165, A350, H⟩ := H
     replace H : ((cat_bb.f kj3 (([t149, t153, t156, t159, t162, t165, l0_9] : List (List Int)))).bind fun t171 => (some t171)) = some r := H
     have A35 := zA A350
     clear A350
     obtain ⟨y168, hy168⟩ : ∃ y_ : List (List Int), y_ = (([t149, t153, t156, t159, t162, t165, l0_9] : List (List Int))) := ⟨_, rfl⟩
     replace H : ((cat_bb.f kj3 y168).bind fun t171 => (some t171)) = some r := zC H hy168
     have Ny168 := zA hy168
     clear hy168
     replace H := Option.bind_eq_some_iff.mp H
     obtain ⟨t171, A360, H⟩ := H
     replace H : (some t171) = some r := H
     have A36 := zA A360
     clear A360
     obtain rfl := Option.some.inj H
     try go_wp2
     replace HO_133009 := zA (Kd.V_drew HO_133009.out)
     replace BK132 := zA (blk_drew BK132.out)
     replace HB := zA (below_drew1 HB.out)
     refine start_ (n := 16) (S := fun w' => True) (ds := []) (ms 16 0) (by kernel_rfl) rfl rfl trivial (fun hHeld => ?_); refine with_tabW record_Bytes.tab6 record_Bytes.bits6 (fun HT_ HW_ => ?_)
     generalize wc.drew = w37 at HO_133009 BK132 HB hHeld ⊢
     refine run_ [(0, false, some 11), (2, false, some 13), (3, false, some 14), (6, false, some 17), (7, false, some 18), (10, false, some 21)] (n := 6) (ms 16 1229) rfl HT_.out HW_.out (by kernel_rfl) (fun _ _ _ _ h => h) hHeld ?_
     repeat (refine Run.p (v := ?_) (a' := ?_) rfl rfl (Or.inl ⟨by rfl, ?_⟩) ?_ ?_; rotate_left; (focus intro w'; go_simp; with_reducible rfl); rotate_left; (focus simp only [Act.put, sx]; rfl))
     refine Run.nil ?_
     refine inv_at [1, 4, 5, 8, 9, 11, 12, 13, 14, 15] (fun a0_ b a w' => ∃ (v135 : Value) (v138 : Value) (v141 : Value) (v144 : Value) (v147 : Value) (v150 : Value) (m15_ : Value), a = putSel a0_ b [(1, 12, v135), (4, 15, .int .i64 a0_0), (5, 16, v138), (8, 19, .int .i64 a0_1), (9, 20, v141), (11, 22, .int .i64 a0_8), (12, 23, v144), (13, 24, v147), (14, 25, v150), (15, 4, m15_)] ∧ (Kd.V (Kd.int .u8) 5 w' w.heap.size (fun k_ => (P0_9_ k_ ∨ w.heap.size ≤ k_) ∧ k_ ≠ gb132) (.slice A0_9 l0_9.length c0_9) l0_9) ∧ (w'.heap[gb132]? = some (.cells #[.int .i64 a0_0, .int .i64 a0_1, .int .i64 a0_2, .int .i64 a0_3, .int .i64 a0_4, .int .i64 a0_5, .int .i64 a0_6, .bool false, .int .i64 a0_8, .slice A0_9 l0_9.length c0_9] 28 (0, 0))) ∧ (Below w.heap.size w w') ∧ (b 1 = true → b 13 = false → Kd.R (Kd.int .u8) 5 w' w.heap.size (fun k_ => (w.heap.size ≤ k_)) v135 y134) ∧ (b 5 = true → b 13 = false → Kd.R (Kd.int .u8) 5 w' w.heap.size (fun k_ => (w.heap.size ≤ k_)) v138 t137) ∧ (b 9 = true → b 13 = false → Kd.R (Kd.int .u8) 5 w' w.heap.size (fun k_ => (w.heap.size ≤ k_)) v141 t140) ∧ (b 12 = true → b 13 = false → Kd.R (Kd.int .u8) 5 w' w.heap.size (fun k_ => (w.heap.size ≤ k_)) v144 t143) ∧ (b 13 = true → Kd.N (Kd.slice 5 (Kd.int .u8)) 26 w' w.heap.size (fun k_ => (P0_9_ k_ ∨ w.heap.size ≤ k_) ∧ k_ ≠ gb132) v147 y146) ∧ (b 14 = true → Kd.R (Kd.int .u8) 5 w' w.heap.size (fun k_ => (w.heap.size ≤ k_)) v150 t149) ∧ (b 15 = true → (m15_ : Value) = v150)) HT_.out HW_.out (by kernel_rfl) (by kernel_rfl) ?_ ?_ ?_
     ·exact ⟨.bool false, .bool false, .bool false, .bool false, .bool false, .bool false, .bool false, by simp only [putSel, Bool.false_eq_true, if_false], HO_133009.out, BK132.out, HB.out, fun h_ => absurd h_ (by decide), fun h_ => absurd h_ (by decide), fun h_ => absurd h_ (by decide), fun h_ => absurd h_ (by decide), fun h_ => absurd h_ (by decide), fun h_ => absurd h_ (by decide), fun h_ => absurd h_ (by decide)⟩
     ·skip
      clear BK132 HB HO_133009
      refine steps_cons ?_ ?_
      ·rintro b a w' ⟨v135, v138, v141, v144, v147, v150, m15_, ha, Q_HO_133009, Q_BK132, Q_HB, Q_HO136, Q_HO139, Q_HO142, Q_HO145, Q_HO148, Q_HO151, Q_X15_⟩ hb_ hon hoff
       refine ⟨_, rfl, fun K hK => ?_⟩
       have e11 : a.tmps[11]? = some (.int .u8 x3_3) := by rw [ha]; exact (putSel_off rfl).trans rfl
       replace ha := zA ha
       have HO_133009 := zA Q_HO_133009
       have BK132 := zA Q_BK132
       have HB := zA Q_HB
       refine Kd.R_lit_step (Kd.int .u8) _ 5 ?hg (N := 12) ?hd (xs := ([x3_3] : List Int)) (inner := [.int .u8 x3_3]) (ok := fun _ => True) (okp := fun _ => True) ?hr ?hp (fun _ hk => hk) trivial (Below.refl _ _) (Nat.le_refl _) (by simp) ?_; (case hd => rfl); (case hg => rfl); (case hr => first | (go_simp; done) | (go_simp; rfl)); (case hp => exact (Reps.one (show Kd.M (Kd.int .u8) _ _ _ x3_3 [.int .u8 x3_3] from rfl) (Reps.none _ _)))
       intro v135 w38 ho39 hb hg_ hnew_
       clear hg_ hnew_
       (first | rw [← Ny134.out] at ho39 | (simp only [Int.reduceToNat] at ho39; rw [← Ny134.out] at ho39))
       have n0_ := zA (Kd.V_elder' (by (with_reducible repeat (first | apply Kd.V_alloc | apply Kd.V_drewN | apply Kd.V_drew)); first | exact HO_133009.out | exact Kd.V_mono HO_133009.out (fun _ hk => by grind)) (Kd.R_base ho39) hb)
       have n1_ := zA (Kd.R_lower (Kd.R_newM (M := fun k_ => (w.heap.size ≤ k_)) ho39 bels (fun k_ h_ => h_)) bels)
       have n2_ := zA (blk_below (g := gb132) (o := .cells #[.int .i64 a0_0, .int .i64 a0_1, .int .i64 a0_2, .int .i64 a0_3, .int .i64 a0_4, .int .i64 a0_5, .int .i64 a0_6, .bool false, .int .i64 a0_8, .slice A0_9 l0_9.length c0_9] 28 (0, 0)) (blk_g BK132.out) hb)
       have n3_ := zA (belt hb)
       have z_HO139 := fun (h0_ : b 5 = true) (h1_ : b 13 = false) => (show Kd.R (Kd.int .u8) 5 w38 w.heap.size (fun k_ => (w.heap.size ≤ k_)) v138 t137 from by first | exact (Kd.R_elder' (R_g (Q_HO139 h0_ h1_)) (Kd.R_base ho39) hb) | exact Kd.R_mono (Kd.R_elder' (R_g (Q_HO139 h0_ h1_)) (Kd.R_base ho39) hb) (fun _ h_ => by first | trivial | exact h_ | exact h_.1))
       have z_HO142 := fun (h0_ : b 9 = true) (h1_ : b 13 = false) => (show Kd.R (Kd.int .u8) 5 w38 w.heap.size (fun k_ => (w.heap.size ≤ k_)) v141 t140 from by first | exact (Kd.R_elder' (R_g (Q_HO142 h0_ h1_)) (Kd.R_base ho39) hb) | exact Kd.R_mono (Kd.R_elder' (R_g (Q_HO142 h0_ h1_)) (Kd.R_base ho39) hb) (fun _ h_ => by first | trivial | exact h_ | exact h_.1))
       have z_HO145 := fun (h0_ : b 12 = true) (h1_ : b 13 = false) => (show Kd.R (Kd.int .u8) 5 w38 w.heap.size (fun k_ => (w.heap.size ≤ k_)) v144 t143 from by first | exact (Kd.R_elder' (R_g (Q_HO145 h0_ h1_)) (Kd.R_base ho39) hb) | exact Kd.R_mono (Kd.R_elder' (R_g (Q_HO145 h0_ h1_)) (Kd.R_base ho39) hb) (fun _ h_ => by first | trivial | exact h_ | exact h_.1))
       clear HO_133009
       clear BK132
       clear HB
       have HO_133009 := n0_
       have HO136 := n1_
       have BK132 := n2_
       have HB := n3_
       clear n0_ n1_ n2_ n3_
       clear hb ho39
       refine hK.out _ _ ⟨v135, v138, v141, v144, v147, v150, m15_, (by rw [ha.out]; exact putSel_upk 0 hb_ rfl rfl rfl), (V_g (Kd.V_mono HO_133009.out (fun _ hk => by first | exact ⟨hk.1.1, ⟨hk.2, hk.1.2⟩⟩ | exact hk | grind))), (blk_g BK132.out), bel, fun _ _ => (R_g (Kd.R_mono HO136.out (fun _ hk => by first | exact hk.1 | exact hk | grind))), z_HO139, z_HO142, z_HO145, fun h0_ => absurd ((hoff 13 (by kernel_rfl)).symm.trans h0_) (by decide), fun h0_ => absurd ((hoff 14 (by kernel_rfl)).symm.trans h0_) (by decide), fun h0_ => absurd ((hoff 15 (by kernel_rfl)).symm.trans h0_) (by decide)⟩
      refine steps_cons ?_ ?_
      ·rintro b a w' ⟨v135, v138, v141, v144, v147, v150, m15_, ha, Q_HO_133009, Q_BK132, Q_HB, Q_HO136, Q_HO139, Q_HO142, Q_HO145, Q_HO148, Q_HO151, Q_X15_⟩ hb_ hon hoff
       refine ⟨_, rfl, fun K hK => ?_⟩
       have e14 : a.tmps[14]? = some (.pointer (some ⟨gb132, 0, none⟩)) := by rw [ha]; exact (putSel_off rfl).trans rfl
       replace ha := zA ha
       have HO_133009 := zA Q_HO_133009
       have BK132 := zA Q_BK132
       have HB := zA Q_HB
       obtain ⟨hc0_, hc1_, hc2_, hc3_, hc4_, hc5_, hc6_, hc7_, hc8_, hc9_⟩ := bx10 BK132.out
       refine value_ (w1 := w') (v := .int .i64 a0_0) (by rfl) rfl ?_ ?_
       ·go_simp
        (try simp only [i64_w])
        try rfl
       refine hK.out _ _ ⟨v135, v138, v141, v144, v147, v150, m15_, (by rw [ha.out]; exact putSel_upk 1 hb_ rfl rfl rfl), Q_HO_133009, Q_BK132, Q_HB, Q_HO136, fun h0_ _ => absurd ((hoff 5 (by kernel_rfl)).symm.trans h0_) (by decide), fun h0_ _ => absurd ((hoff 9 (by kernel_rfl)).symm.trans h0_) (by decide), fun h0_ _ => absurd ((hoff 12 (by kernel_rfl)).symm.trans h0_) (by decide), fun h0_ => absurd ((hoff 13 (by kernel_rfl)).symm.trans h0_) (by decide), fun h0_ => absurd ((hoff 14 (by kernel_rfl)).symm.trans h0_) (by decide), fun h0_ => absurd ((hoff 15 (by kernel_rfl)).symm.trans h0_) (by decide)⟩
      refine steps_cons ?_ ?_
      ·rintro b a w' ⟨v135, v138, v141, v144, v147, v150, m15_, ha, Q_HO_133009, Q_BK132, Q_HB, Q_HO136, Q_HO139, Q_HO142, Q_HO145, Q_HO148, Q_HO151, Q_X15_⟩ hb_ hon hoff
       refine ⟨_, rfl, fun K hK => ?_⟩
       have e15 : a.tmps[15]? = some (.int .i64 a0_0) := by rw [ha]; exact putSel_on (e := (4, 15, .int .i64 a0_0)) 1 rfl rfl (hon 4 (by kernel_rfl)) rfl
       replace ha := zA ha
       have HO_133009 := zA Q_HO_133009
       have BK132 := zA Q_BK132
       have HB := zA Q_HB
       refine goes_ Try.func30 (by kernel_rfl) rfl #[.int .i64 a0_0, .int .i64 4] (by rfl) rfl rfl (by first | (simp only [List.map_toArray, List.map_cons, List.map_nil, Act.eval, Array.getD_eq_getD_getElem?, Option.getD_some, e15]; done) | (simp only [List.map_toArray, List.map_cons, List.map_nil, Act.eval, Array.getD_eq_getD_getElem?, Option.getD_some, e15]; rfl)) ?_
       with_reducible refine (record_Number.calls kj3 a0_0 4 t137 _ A10.out).mono ?_
       rintro e w38 ⟨v138, rfl, ho0, hb⟩
       refine ⟨_, rfl, ?_⟩
       have n0_ := zA (Kd.V_elder' (by (with_reducible repeat (first | apply Kd.V_alloc | apply Kd.V_drewN | apply Kd.V_drew)); first | exact HO_133009.out | exact Kd.V_mono HO_133009.out (fun _ hk => by grind)) (Kd.R_base ho0) hb)
       have n1_ := zA (Kd.R_lower (Kd.R_newM (M := fun k_ => (w.heap.size ≤ k_)) ho0 bels (fun k_ h_ => h_)) bels)
       have n2_ := zA (blk_below (g := gb132) (o := .cells #[.int .i64 a0_0, .int .i64 a0_1, .int .i64 a0_2, .int .i64 a0_3, .int .i64 a0_4, .int .i64 a0_5, .int .i64 a0_6, .bool false, .int .i64 a0_8, .slice A0_9 l0_9.length c0_9] 28 (0, 0)) (blk_g BK132.out) hb)
       have n3_ := zA (belt hb)
       have z_HO136 := fun (h0_ : b 1 = true) (h1_ : b 13 = false) => (show Kd.R (Kd.int .u8) 5 w38 w.heap.size (fun k_ => (w.heap.size ≤ k_)) v135 y134 from by first | exact (Kd.R_elder' (R_g (Q_HO136 h0_ h1_)) (Kd.R_base ho0) hb) | exact Kd.R_mono (Kd.R_elder' (R_g (Q_HO136 h0_ h1_)) (Kd.R_base ho0) hb) (fun _ h_ => by first | trivial | exact h_ | exact h_.1))
       clear HO_133009
       clear BK132
       clear HB
       have HO_133009 := n0_
       have HO139 := n1_
       have BK132 := n2_
       have HB := n3_
       clear n0_ n1_ n2_ n3_
       (try clear hb)
       (try clear hb2)
       (try clear hk)
       (try clear hi)
       (try clear ho0)
       refine hK.out _ _ ⟨v135, v138, v141, v144, v147, v150, m15_, (by rw [ha.out]; exact putSel_upk 2 hb_ rfl rfl rfl), (V_g (Kd.V_mono HO_133009.out (fun _ hk => by first | exact ⟨hk.1.1, ⟨hk.2, hk.1.2⟩⟩ | exact hk | grind))), (blk_g BK132.out), bel, z_HO136, fun _ _ => (R_g (Kd.R_mono HO139.out (fun _ hk => by first | exact hk.1 | exact hk | grind))), fun h0_ _ => absurd ((hoff 9 (by kernel_rfl)).symm.trans h0_) (by decide), fun h0_ _ => absurd ((hoff 12 (by kernel_rfl)).symm.trans h0_) (by decide), fun h0_ => absurd ((hoff 13 (by kernel_rfl)).symm.trans h0_) (by decide), fun h0_ => absurd ((hoff 14 (by kernel_rfl)).symm.trans h0_) (by decide), fun h0_ => absurd ((hoff 15 (by kernel_rfl)).symm.trans h0_) (by decide)⟩
      refine steps_cons ?_ ?_
      ·rintro b a w' ⟨v135, v138, v141, v144, v147, v150, m15_, ha, Q_HO_133009, Q_BK132, Q_HB, Q_HO136, Q_HO139, Q_HO142, Q_HO145, Q_HO148, Q_HO151, Q_X15_⟩ hb_ hon hoff
       refine ⟨_, rfl, fun K hK => ?_⟩
       have e18 : a.tmps[18]? = some (.pointer (some ⟨gb132, 1, none⟩)) := by rw [ha]; exact (putSel_off rfl).trans rfl
       replace ha := zA ha
       have HO_133009 := zA Q_HO_133009
       have BK132 := zA Q_BK132
       have HB := zA Q_HB
       obtain ⟨hc0_, hc1_, hc2_, hc3_, hc4_, hc5_, hc6_, hc7_, hc8_, hc9_⟩ := bx10 BK132.out
       refine value_ (w1 := w') (v := .int .i64 a0_1) (by rfl) rfl ?_ ?_
       ·go_simp
        (try simp only [i64_w])
        try rfl
       refine hK.out _ _ ⟨v135, v138, v141, v144, v147, v150, m15_, (by rw [ha.out]; exact putSel_upk 3 hb_ rfl rfl rfl), Q_HO_133009, Q_BK132, Q_HB, Q_HO136, Q_HO139, fun h0_ _ => absurd ((hoff 9 (by kernel_rfl)).symm.trans h0_) (by decide), fun h0_ _ => absurd ((hoff 12 (by kernel_rfl)).symm.trans h0_) (by decide), fun h0_ => absurd ((hoff 13 (by kernel_rfl)).symm.trans h0_) (by decide), fun h0_ => absurd ((hoff 14 (by kernel_rfl)).symm.trans h0_) (by decide), fun h0_ => absurd ((hoff 15 (by kernel_rfl)).symm.trans h0_) (by decide)⟩
      refine steps_cons ?_ ?_
      ·rintro b a w' ⟨v135, v138, v141, v144, v147, v150, m15_, ha, Q_HO_133009, Q_BK132, Q_HB, Q_HO136, Q_HO139, Q_HO142, Q_HO145, Q_HO148, Q_HO151, Q_X15_⟩ hb_ hon hoff
       refine ⟨_, rfl, fun K hK => ?_⟩
       have e19 : a.tmps[19]? = some (.int .i64 a0_1) := by rw [ha]; exact putSel_on (e := (8, 19, .int .i64 a0_1)) 3 rfl rfl (hon 8 (by kernel_rfl)) rfl
       replace ha := zA ha
       have HO_133009 := zA Q_HO_133009
       have BK132 := zA Q_BK132
       have HB := zA Q_HB
       have HO139 := zA (Q_HO139 (hon 5 (by kernel_rfl)) (hoff 13 (by kernel_rfl)))
       refine goes_ Try.func30 (by kernel_rfl) rfl #[.int .i64 a0_1, .int .i64 4] (by rfl) rfl rfl (by first | (simp only [List.map_toArray, List.map_cons, List.map_nil, Act.eval, Array.getD_eq_getD_getElem?, Option.getD_some, e19]; done) | (simp only [List.map_toArray, List.map_cons, List.map_nil, Act.eval, Array.getD_eq_getD_getElem?, Option.getD_some, e19]; rfl)) ?_
       with_reducible refine (record_Number.calls kj3 a0_1 4 t140 _ A11.out).mono ?_
       rintro e w40 ⟨v141, rfl, ho0, hb⟩
       refine ⟨_, rfl, ?_⟩
       have n0_ := zA (Kd.V_elder' (by (with_reducible repeat (first | apply Kd.V_alloc | apply Kd.V_drewN | apply Kd.V_drew)); first | exact HO_133009.out | exact Kd.V_mono HO_133009.out (fun _ hk => by grind)) (Kd.R_base ho0) hb)
       have n1_ := zA (Kd.R_elder' (by (with_reducible repeat (first | apply Kd.R_alloc | apply Kd.R_drewN | apply Kd.R_drew)); first | exact HO139.out | exact Kd.R_mono HO139.out (fun _ hk => by grind)) (Kd.R_base ho0) hb)
       have n2_ := zA (Kd.R_lower (Kd.R_new' (Kd.R_newM (M := fun k_ => (w.heap.size ≤ k_)) ho0 bels (fun k_ h_ => h_)) (Kd.R_lt (by (with_reducible repeat (first | apply Kd.R_alloc | apply Kd.R_drewN | apply Kd.R_drew)); first | exact HO139.out | exact Kd.R_mono HO139.out (fun _ hk => by grind)))) bels)
       have n3_ := zA (blk_below (g := gb132) (o := .cells #[.int .i64 a0_0, .int .i64 a0_1, .int .i64 a0_2, .int .i64 a0_3, .int .i64 a0_4, .int .i64 a0_5, .int .i64 a0_6, .bool false, .int .i64 a0_8, .slice A0_9 l0_9.length c0_9] 28 (0, 0)) (blk_g BK132.out) hb)
       have n4_ := zA (belt hb)
       have z_HO136 := fun (h0_ : b 1 = true) (h1_ : b 13 = false) => (show Kd.R (Kd.int .u8) 5 w40 w.heap.size (fun k_ => (w.heap.size ≤ k_)) v135 y134 from by first | exact (Kd.R_elder' (R_g (Q_HO136 h0_ h1_)) (Kd.R_base ho0) hb) | exact Kd.R_mono (Kd.R_elder' (R_g (Q_HO136 h0_ h1_)) (Kd.R_base ho0) hb) (fun _ h_ => by first | trivial | exact h_ | exact h_.1))
       clear HO_133009
       clear HO139
       clear BK132
       clear HB
       have HO_133009 := n0_
       have HO139 := n1_
       have HO142 := n2_
       have BK132 := n3_
       have HB := n4_
       clear n0_ n1_ n2_ n3_ n4_
       (try clear hb)
       (try clear hb2)
       (try clear hk)
       (try clear hi)
       (try clear ho0)
       refine hK.out _ _ ⟨v135, v138, v141, v144, v147, v150, m15_, (by rw [ha.out]; exact putSel_upk 4 hb_ rfl rfl rfl), (V_g (Kd.V_mono HO_133009.out (fun _ hk => by first | exact ⟨hk.1.1, ⟨hk.1.2.1, ⟨hk.2, hk.1.2.2⟩⟩⟩ | exact hk | grind))), (blk_g BK132.out), bel, z_HO136, fun _ _ => (by (with_reducible repeat (first | apply Kd.R_alloc | apply Kd.R_drewN | apply Kd.R_drew)); first | exact HO139.out | exact Kd.R_mono HO139.out (fun _ hk => by grind)), fun _ _ => (R_g (Kd.R_mono HO142.out (fun _ hk => by first | exact ⟨hk.1.1, hk.2⟩ | exact hk | grind))), fun h0_ _ => absurd ((hoff 12 (by kernel_rfl)).symm.trans h0_) (by decide), fun h0_ => absurd ((hoff 13 (by kernel_rfl)).symm.trans h0_) (by decide), fun h0_ => absurd ((hoff 14 (by kernel_rfl)).symm.trans h0_) (by decide), fun h0_ => absurd ((hoff 15 (by kernel_rfl)).symm.trans h0_) (by decide)⟩
      refine steps_cons ?_ ?_
      ·rintro b a w' ⟨v135, v138, v141, v144, v147, v150, m15_, ha, Q_HO_133009, Q_BK132, Q_HB, Q_HO136, Q_HO139, Q_HO142, Q_HO145, Q_HO148, Q_HO151, Q_X15_⟩ hb_ hon hoff
       refine ⟨_, rfl, fun K hK => ?_⟩
       have e21 : a.tmps[21]? = some (.pointer (some ⟨gb132, 8, none⟩)) := by rw [ha]; exact (putSel_off rfl).trans rfl
       replace ha := zA ha
       have HO_133009 := zA Q_HO_133009
       have BK132 := zA Q_BK132
       have HB := zA Q_HB
       obtain ⟨hc0_, hc1_, hc2_, hc3_, hc4_, hc5_, hc6_, hc7_, hc8_, hc9_⟩ := bx10 BK132.out
       refine value_ (w1 := w') (v := .int .i64 a0_8) (by rfl) rfl ?_ ?_
       ·go_simp
        (try simp only [i64_w])
        try rfl
       refine hK.out _ _ ⟨v135, v138, v141, v144, v147, v150, m15_, (by rw [ha.out]; exact putSel_upk 5 hb_ rfl rfl rfl), Q_HO_133009, Q_BK132, Q_HB, Q_HO136, Q_HO139, Q_HO142, fun h0_ _ => absurd ((hoff 12 (by kernel_rfl)).symm.trans h0_) (by decide), fun h0_ => absurd ((hoff 13 (by kernel_rfl)).symm.trans h0_) (by decide), fun h0_ => absurd ((hoff 14 (by kernel_rfl)).symm.trans h0_) (by decide), fun h0_ => absurd ((hoff 15 (by kernel_rfl)).symm.trans h0_) (by decide)⟩
      refine steps_cons ?_ ?_
      ·rintro b a w' ⟨v135, v138, v141, v144, v147, v150, m15_, ha, Q_HO_133009, Q_BK132, Q_HB, Q_HO136, Q_HO139, Q_HO142, Q_HO145, Q_HO148, Q_HO151, Q_X15_⟩ hb_ hon hoff
       refine ⟨_, rfl, fun K hK => ?_⟩
       have e22 : a.tmps[22]? = some (.int .i64 a0_8) := by rw [ha]; exact putSel_on (e := (11, 22, .int .i64 a0_8)) 5 rfl rfl (hon 11 (by kernel_rfl)) rfl
       replace ha := zA ha
       have HO_133009 := zA Q_HO_133009
       have BK132 := zA Q_BK132
       have HB := zA Q_HB
       have HO139 := zA (Q_HO139 (hon 5 (by kernel_rfl)) (hoff 13 (by kernel_rfl)))
       have HO142 := zA (Q_HO142 (hon 9 (by kernel_rfl)) (hoff 13 (by kernel_rfl)))
       refine goes_ Try.func30 (by kernel_rfl) rfl #[.int .i64 a0_8, .int .i64 4] (by rfl) rfl rfl (by first | (simp only [List.map_toArray, List.map_cons, List.map_nil, Act.eval, Array.getD_eq_getD_getElem?, Option.getD_some, e22]; done) | (simp only [List.map_toArray, List.map_cons, List.map_nil, Act.eval, Array.getD_eq_getD_getElem?, Option.getD_some, e22]; rfl)) ?_
       with_reducible refine (record_Number.calls kj3 a0_8 4 t143 _ A12.out).mono ?_
       rintro e w41 ⟨v144, rfl, ho0, hb⟩
       refine ⟨_, rfl, ?_⟩
       have n0_ := zA (Kd.V_elder' (by (with_reducible repeat (first | apply Kd.V_alloc | apply Kd.V_drewN | apply Kd.V_drew)); first | exact HO_133009.out | exact Kd.V_mono HO_133009.out (fun _ hk => by grind)) (Kd.R_base ho0) hb)
       have n1_ := zA (Kd.R_elder' (by (with_reducible repeat (first | apply Kd.R_alloc | apply Kd.R_drewN | apply Kd.R_drew)); first | exact HO139.out | exact Kd.R_mono HO139.out (fun _ hk => by grind)) (Kd.R_base ho0) hb)
       have n2_ := zA (Kd.R_elder' (by (with_reducible repeat (first | apply Kd.R_alloc | apply Kd.R_drewN | apply Kd.R_drew)); first | exact HO142.out | exact Kd.R_mono HO142.out (fun _ hk => by grind)) (Kd.R_base ho0) hb)
       have n3_ := zA (Kd.R_lower (Kd.R_new' (Kd.R_new' (Kd.R_newM (M := fun k_ => (w.heap.size ≤ k_)) ho0 bels (fun k_ h_ => h_)) (Kd.R_lt (by (with_reducible repeat (first | apply Kd.R_alloc | apply Kd.R_drewN | apply Kd.R_drew)); first | exact HO139.out | exact Kd.R_mono HO139.out (fun _ hk => by grind)))) (Kd.R_lt (by (with_reducible repeat (first | apply Kd.R_alloc | apply Kd.R_drewN | apply Kd.R_drew)); first | exact HO142.out | exact Kd.R_mono HO142.out (fun _ hk => by grind)))) bels)
       have n4_ := zA (blk_below (g := gb132) (o := .cells #[.int .i64 a0_0, .int .i64 a0_1, .int .i64 a0_2, .int .i64 a0_3, .int .i64 a0_4, .int .i64 a0_5, .int .i64 a0_6, .bool false, .int .i64 a0_8, .slice A0_9 l0_9.length c0_9] 28 (0, 0)) (blk_g BK132.out) hb)
       have n5_ := zA (belt hb)
       have z_HO136 := fun (h0_ : b 1 = true) (h1_ : b 13 = false) => (show Kd.R (Kd.int .u8) 5 w41 w.heap.size (fun k_ => (w.heap.size ≤ k_)) v135 y134 from by first | exact (Kd.R_elder' (R_g (Q_HO136 h0_ h1_)) (Kd.R_base ho0) hb) | exact Kd.R_mono (Kd.R_elder' (R_g (Q_HO136 h0_ h1_)) (Kd.R_base ho0) hb) (fun _ h_ => by first | trivial | exact h_ | exact h_.1))
       clear HO_133009
       clear HO139
       clear HO142
       clear BK132
       clear HB
       have HO_133009 := n0_
       have HO139 := n1_
       have HO142 := n2_
       have HO145 := n3_
       have BK132 := n4_
       have HB := n5_
       clear n0_ n1_ n2_ n3_ n4_ n5_
       (try clear hb)
       (try clear hb2)
       (try clear hk)
       (try clear hi)
       (try clear ho0)
       refine hK.out _ _ ⟨v135, v138, v141, v144, v147, v150, m15_, (by rw [ha.out]; exact putSel_upk 6 hb_ rfl rfl rfl), (V_g (Kd.V_mono HO_133009.out (fun _ hk => by first | exact ⟨hk.1.1, ⟨hk.1.2.1, ⟨hk.1.2.2.1, ⟨hk.2, hk.1.2.2.2⟩⟩⟩⟩ | exact hk | grind))), (blk_g BK132.out), bel, z_HO136, fun _ _ => (R_g (Kd.R_mono HO139.out (fun _ hk => by first | exact ⟨hk.1.1, ⟨hk.1.2, hk.2⟩⟩ | exact hk | grind))), fun _ _ => (R_g (Kd.R_mono HO142.out (fun _ hk => by first | exact ⟨hk.1.1, ⟨hk.1.2, hk.2⟩⟩ | exact hk | grind))), fun _ _ => (R_g (Kd.R_mono HO145.out (fun _ hk => by first | exact ⟨hk.1.1.1, ⟨hk.1.2, hk.2⟩⟩ | exact hk | grind))), fun h0_ => absurd ((hoff 13 (by kernel_rfl)).symm.trans h0_) (by decide), fun h0_ => absurd ((hoff 14 (by kernel_rfl)).symm.trans h0_) (by decide), fun h0_ => absurd ((hoff 15 (by kernel_rfl)).symm.trans h0_) (by decide)⟩
      refine steps_cons ?_ ?_
      ·rintro b a w' ⟨v135, v138, v141, v144, v147, v150, m15_, ha, Q_HO_133009, Q_BK132, Q_HB, Q_HO136, Q_HO139, Q_HO142, Q_HO145, Q_HO148, Q_HO151, Q_X15_⟩ hb_ hon hoff
       refine ⟨_, rfl, fun K hK => ?_⟩
       have e12 : a.tmps[12]? = some (v135) := by rw [ha]; exact putSel_on (e := (1, 12, v135)) 0 rfl rfl (hon 1 (by kernel_rfl)) rfl
       have e16 : a.tmps[16]? = some (v138) := by rw [ha]; exact putSel_on (e := (5, 16, v138)) 2 rfl rfl (hon 5 (by kernel_rfl)) rfl
       have e20 : a.tmps[20]? = some (v141) := by rw [ha]; exact putSel_on (e := (9, 20, v141)) 4 rfl rfl (hon 9 (by kernel_rfl)) rfl
       have e23 : a.tmps[23]? = some (v144) := by rw [ha]; exact putSel_on (e := (12, 23, v144)) 6 rfl rfl (hon 12 (by kernel_rfl)) rfl
       replace ha := zA ha
       have HO_133009 := zA Q_HO_133009
       have BK132 := zA Q_BK132
       have HB := zA Q_HB
       have HO136 := zA (Q_HO136 (hon 1 (by kernel_rfl)) hb_)
       have HO139 := zA (Q_HO139 (hon 5 (by kernel_rfl)) hb_)
       have HO142 := zA (Q_HO142 (hon 9 (by kernel_rfl)) hb_)
       have HO145 := zA (Q_HO145 (hon 12 (by kernel_rfl)) hb_)
       obtain ⟨Ao44, co44, eo44⟩ := Kd.R_slice HO136.out
       (first | subst eo44 | (injection eo44 with f1_ f2_ f3_; have f4_ := f1_.symm; have f5_ := f3_.symm; clear f1_ f2_ f3_; subst f4_; subst f5_))
       obtain ⟨Ao45, co45, eo45⟩ := Kd.R_slice HO139.out
       (first | subst eo45 | (injection eo45 with f1_ f2_ f3_; have f4_ := f1_.symm; have f5_ := f3_.symm; clear f1_ f2_ f3_; subst f4_; subst f5_))
       obtain ⟨Ao46, co46, eo46⟩ := Kd.R_slice HO142.out
       (first | subst eo46 | (injection eo46 with f1_ f2_ f3_; have f4_ := f1_.symm; have f5_ := f3_.symm; clear f1_ f2_ f3_; subst f4_; subst f5_))
       obtain ⟨Ao47, co47, eo47⟩ := Kd.R_slice HO145.out
       (first | subst eo47 | (injection eo47 with f1_ f2_ f3_; have f4_ := f1_.symm; have f5_ := f3_.symm; clear f1_ f2_ f3_; subst f4_; subst f5_))
       refine Kd.N_lit_step (Kd.slice 5 (Kd.int .u8)) _ 26 ?hg (N' := 24) ?hd (xs := ([y134, t137, t140, t143] : List (List Int))) (inner := [.slice Ao44 y134.length co44, .slice Ao45 t137.length co45, .slice Ao46 t140.length co46, .slice Ao47 t143.length co47]) (ok := (fun k_ => (P0_9_ k_ ∨ w.heap.size ≤ k_) ∧ k_ ≠ gb132)) (okp := (fun k_ => (P0_9_ k_ ∨ w.heap.size ≤ k_) ∧ k_ ≠ gb132)) ?hr ?hp (fun _ hk => hk) ((show ∀ k_, w'.heap.size ≤ k_ → (fun k_ => (P0_9_ k_ ∨ w.heap.size ≤ k_) ∧ k_ ≠ gb132) k_ from fun k_ hk => ⟨(.inr (Nat.le_trans bels hk)), Kd.freshB (g := gb132) (o := .cells #[.int .i64 a0_0, .int .i64 a0_1, .int .i64 a0_2, .int .i64 a0_3, .int .i64 a0_4, .int .i64 a0_5, .int .i64 a0_6, .bool false, .int .i64 a0_8, .slice A0_9 l0_9.length c0_9] 28 (0, 0)) (blk_g BK132.out) k_ hk⟩) _ (Nat.le_refl _)) (Below.refl _ _) (Nat.le_refl _) (by simp) ?_; (case hd => rfl); (case hg => rfl); (case hr => first | (go_simp; done) | (go_simp; rfl)); (case hp => exact (Reps.one (show Kd.FK (Kd.slice 5 (Kd.int .u8)) _ _ y134 [.slice Ao44 y134.length co44] from (Kd.FK_slice_mk (Kd.R_reads' (Kd.R_mono (ok' := (fun k_ => (P0_9_ k_ ∨ w.heap.size ≤ k_) ∧ k_ ≠ gb132)) (Kd.R_types (HO136.out) BK132.out (by decide)) (fun k_ hk => by first | exact ⟨(.inr (hk.1.1)), hk.2⟩ | exact hk | grind))).2.1 (Kd.R_F (Kd.R_mono (ok' := (fun k_ => (P0_9_ k_ ∨ w.heap.size ≤ k_) ∧ k_ ≠ gb132)) (Kd.R_types (HO136.out) BK132.out (by decide)) (fun k_ hk => by first | exact ⟨(.inr (hk.1.1)), hk.2⟩ | exact hk | grind))))) (Reps.one (show Kd.FK (Kd.slice 5 (Kd.int .u8)) _ _ t137 [.slice Ao45 t137.length co45] from (Kd.FK_slice_mk (Kd.R_reads' (Kd.R_mono (ok' := (fun k_ => (P0_9_ k_ ∨ w.heap.size ≤ k_) ∧ k_ ≠ gb132)) (Kd.R_types (HO139.out) BK132.out (by decide)) (fun k_ hk => by first | exact ⟨(.inr (hk.1.1)), hk.2⟩ | exact hk | grind))).2.1 (Kd.R_F (Kd.R_mono (ok' := (fun k_ => (P0_9_ k_ ∨ w.heap.size ≤ k_) ∧ k_ ≠ gb132)) (Kd.R_types (HO139.out) BK132.out (by decide)) (fun k_ hk => by first | exact ⟨(.inr (hk.1.1)), hk.2⟩ | exact hk | grind))))) (Reps.one (show Kd.FK (Kd.slice 5 (Kd.int .u8)) _ _ t140 [.slice Ao46 t140.length co46] from (Kd.FK_slice_mk (Kd.R_reads' (Kd.R_mono (ok' := (fun k_ => (P0_9_ k_ ∨ w.heap.size ≤ k_) ∧ k_ ≠ gb132)) (Kd.R_types (HO142.out) BK132.out (by decide)) (fun k_ hk => by first | exact ⟨(.inr (hk.1.1)), hk.2⟩ | exact hk | grind))).2.1 (Kd.R_F (Kd.R_mono (ok' := (fun k_ => (P0_9_ k_ ∨ w.heap.size ≤ k_) ∧ k_ ≠ gb132)) (Kd.R_types (HO142.out) BK132.out (by decide)) (fun k_ hk => by first | exact ⟨(.inr (hk.1.1)), hk.2⟩ | exact hk | grind))))) (Reps.one (show Kd.FK (Kd.slice 5 (Kd.int .u8)) _ _ t143 [.slice Ao47 t143.length co47] from (Kd.FK_slice_mk (Kd.R_reads' (Kd.R_mono (ok' := (fun k_ => (P0_9_ k_ ∨ w.heap.size ≤ k_) ∧ k_ ≠ gb132)) (Kd.R_types (HO145.out) BK132.out (by decide)) (fun k_ hk => by first | exact ⟨(.inr (hk.1.1)), hk.2⟩ | exact hk | grind))).2.1 (Kd.R_F (Kd.R_mono (ok' := (fun k_ => (P0_9_ k_ ∨ w.heap.size ≤ k_) ∧ k_ ≠ gb132)) (Kd.R_types (HO145.out) BK132.out (by decide)) (fun k_ hk => by first | exact ⟨(.inr (hk.1.1)), hk.2⟩ | exact hk | grind))))) (Reps.none _ _))))))
       intro v147 w48 ho49 hb hg_ hnew_
       clear hg_ hnew_
       (first | rw [← Ny146.out] at ho49 | (simp only [Int.reduceToNat] at ho49; rw [← Ny146.out] at ho49))
       replace HO_133009 := zA (Kd.V_elder' (by (with_reducible repeat (first | apply Kd.V_alloc | apply Kd.V_drewN | apply Kd.V_drew)); first | exact HO_133009.out | exact Kd.V_mono HO_133009.out (fun _ hk => by grind)) (by first | exact Kd.N_base ho49 | exact Kd.N_base (Kd.S_N ho49)) hb)
       have HO148 := zA (Kd.N_lower ho49 bels)
       replace BK132 := zA (blk_below (g := gb132) (o := .cells #[.int .i64 a0_0, .int .i64 a0_1, .int .i64 a0_2, .int .i64 a0_3, .int .i64 a0_4, .int .i64 a0_5, .int .i64 a0_6, .bool false, .int .i64 a0_8, .slice A0_9 l0_9.length c0_9] 28 (0, 0)) (blk_g BK132.out) hb)
       replace HB := zA (belt hb)
       clear HO136 HO139 HO142 HO145
       clear hb ho49
       refine hK.out _ _ ⟨.slice Ao44 y134.length co44, .slice Ao45 t137.length co45, .slice Ao46 t140.length co46, .slice Ao47 t143.length co47, v147, v150, m15_, (by rw [ha.out]; exact putSel_upk 7 hb_ rfl rfl rfl), (V_g (Kd.V_mono HO_133009.out (fun _ hk => by first | exact ⟨hk.1.1, ⟨hk.2, hk.1.2.2.2.2.2⟩⟩ | exact hk | grind))), (blk_g BK132.out), bel, fun _ h1_ => absurd ((up_self b 13).symm.trans h1_) (by decide), fun _ h1_ => absurd ((up_self b 13).symm.trans h1_) (by decide), fun _ h1_ => absurd ((up_self b 13).symm.trans h1_) (by decide), fun _ h1_ => absurd ((up_self b 13).symm.trans h1_) (by decide), fun _ => (by (with_reducible repeat (first | apply Kd.N_alloc | apply Kd.N_drewN | apply Kd.N_drew)); first | exact HO148.out | exact Kd.N_mono HO148.out (fun _ hk => by grind)), fun h0_ => absurd ((hoff 14 (by kernel_rfl)).symm.trans h0_) (by decide), fun h0_ => absurd ((hoff 15 (by kernel_rfl)).symm.trans h0_) (by decide)⟩
      refine steps_cons ?_ ?_
      ·rintro b a w' ⟨v135, v138, v141, v144, v147, v150, m15_, ha, Q_HO_133009, Q_BK132, Q_HB, Q_HO136, Q_HO139, Q_HO142, Q_HO145, Q_HO148, Q_HO151, Q_X15_⟩ hb_ hon hoff
       refine ⟨_, rfl, fun K hK => ?_⟩
       have e24 : a.tmps[24]? = some (v147) := by rw [ha]; exact putSel_on (e := (13, 24, v147)) 7 rfl rfl (hon 13 (by kernel_rfl)) rfl
       replace ha := zA ha
       have HO_133009 := zA Q_HO_133009
       have BK132 := zA Q_BK132
       have HB := zA Q_HB
       have HO148 := zA (Q_HO148 (hon 13 (by kernel_rfl)))
       obtain ⟨Ao50, co50, eo50⟩ := Kd.N_slice HO148.out
       (first | subst eo50 | (injection eo50 with f1_ f2_ f3_; have f4_ := f1_.symm; have f5_ := f3_.symm; clear f1_ f2_ f3_; subst f4_; subst f5_))
       refine goes_ Try.func29 (by kernel_rfl) rfl #[.slice Ao50 y146.length co50] (by rfl) rfl rfl (by first | (simp only [List.map_toArray, List.map_cons, List.map_nil, Act.eval, Array.getD_eq_getD_getElem?, Option.getD_some, e24]; done) | (simp only [List.map_toArray, List.map_cons, List.map_nil, Act.eval, Array.getD_eq_getD_getElem?, Option.getD_some, e24]; rfl)) ?_
       with_reducible refine (cat_bb.calls kj3 _ _ y146 t149 _ ?side1 ?side2 A13.out).mono ?_
       (case side1 => repeat (first | exact (Kd.N_reads' HO148.out).2.2 | (with_reducible refine Kd.C_alloc ?_ _) | (with_reducible refine Kd.C_drewN ?_ _) | (with_reducible refine Kd.C_drew ?_)))
       (case side2 => exact (Kd.N_reads' HO148.out).2.1)
       rintro e w51 ⟨v150, rfl, ho0, hb⟩
       refine ⟨_, rfl, ?_⟩
       replace HO_133009 := zA (Kd.V_elder' (by (with_reducible repeat (first | apply Kd.V_alloc | apply Kd.V_drewN | apply Kd.V_drew)); first | exact HO_133009.out | exact Kd.V_mono HO_133009.out (fun _ hk => by grind)) (Kd.R_base ho0) hb)
       replace HO148 := zA (Kd.N_elder' (by (with_reducible repeat (first | apply Kd.N_alloc | apply Kd.N_drewN | apply Kd.N_drew)); first | exact HO148.out | exact Kd.N_mono HO148.out (fun _ hk => by grind)) (Kd.R_base ho0) hb)
       have HO151 := zA (Kd.R_lower (Kd.R_newM (M := fun k_ => (w.heap.size ≤ k_)) ho0 bels (fun k_ h_ => h_)) bels)
       replace BK132 := zA (blk_below (g := gb132) (o := .cells #[.int .i64 a0_0, .int .i64 a0_1, .int .i64 a0_2, .int .i64 a0_3, .int .i64 a0_4, .int .i64 a0_5, .int .i64 a0_6, .bool false, .int .i64 a0_8, .slice A0_9 l0_9.length c0_9] 28 (0, 0)) (blk_g BK132.out) hb)
       replace HB := zA (belt hb)
       (try clear hb)
       (try clear hb2)
       (try clear hk)
       (try clear hi)
       (try clear ho0)
       refine hK.out _ _ ⟨v135, v138, v141, v144, .slice Ao50 y146.length co50, v150, m15_, (by rw [ha.out]; exact putSel_upk 8 hb_ rfl rfl rfl), (V_g (Kd.V_mono HO_133009.out (fun _ hk => by first | exact ⟨hk.1.1, ⟨hk.1.2.1, ⟨hk.2, hk.1.2.2⟩⟩⟩ | exact hk | grind))), (blk_g BK132.out), bel, fun _ h1_ => absurd ((hon 13 (by kernel_rfl)).symm.trans h1_) (by decide), fun _ h1_ => absurd ((hon 13 (by kernel_rfl)).symm.trans h1_) (by decide), fun _ h1_ => absurd ((hon 13 (by kernel_rfl)).symm.trans h1_) (by decide), fun _ h1_ => absurd ((hon 13 (by kernel_rfl)).symm.trans h1_) (by decide), fun _ => (N_g (Kd.N_mono HO148.out (fun _ hk => by first | exact ⟨hk.1.1, ⟨hk.2, hk.1.2⟩⟩ | exact hk | grind))), fun _ => (R_g (Kd.R_mono HO151.out (fun _ hk => by first | exact hk.1 | exact hk | grind))), fun h0_ => absurd ((hoff 15 (by kernel_rfl)).symm.trans h0_) (by decide)⟩
      refine steps_cons ?_ ?_
      ·rintro b a w' ⟨v135, v138, v141, v144, v147, v150, m15_, ha, Q_HO_133009, Q_BK132, Q_HB, Q_HO136, Q_HO139, Q_HO142, Q_HO145, Q_HO148, Q_HO151, Q_X15_⟩ hb_ hon hoff
       refine ⟨_, rfl, fun K hK => ?_⟩
       have e25 : a.tmps[25]? = some (v150) := by rw [ha]; exact putSel_on (e := (14, 25, v150)) 8 rfl rfl (hon 14 (by kernel_rfl)) rfl
       replace ha := zA ha
       have HO_133009 := zA Q_HO_133009
       have BK132 := zA Q_BK132
       have HB := zA Q_HB
       have HO148 := zA (Q_HO148 (hon 13 (by kernel_rfl)))
       have HO151 := zA (Q_HO151 (hon 14 (by kernel_rfl)))
       refine value_ (w1 := w') (v := v150) (by rfl) rfl ?_ ?_
       ·go_simp
        (try simp only [i64_w])
        try rfl
       refine hK.out _ _ ⟨v135, v138, v141, v144, v147, v150, (v150), (by rw [ha.out]; exact putSel_upk 9 hb_ rfl rfl rfl), Q_HO_133009, Q_BK132, Q_HB, fun _ h1_ => absurd ((hon 13 (by kernel_rfl)).symm.trans h1_) (by decide), fun _ h1_ => absurd ((hon 13 (by kernel_rfl)).symm.trans h1_) (by decide), fun _ h1_ => absurd ((hon 13 (by kernel_rfl)).symm.trans h1_) (by decide), fun _ h1_ => absurd ((hon 13 (by kernel_rfl)).symm.trans h1_) (by decide), Q_HO148, Q_HO151, fun _ => rfl⟩
      exact steps_nil
     rintro b a w51 hall ⟨v135, v138, v141, v144, v147, v150, m15_, ha, Q_HO_133009, Q_BK132, Q_HB, Q_HO136, Q_HO139, Q_HO142, Q_HO145, Q_HO148, Q_HO151, Q_X15_⟩
     clear BK132 HB HO_133009
     have hb1_ := hall 1 (by kernel_rfl)
     have hb4_ := hall 4 (by kernel_rfl)
     have hb5_ := hall 5 (by kernel_rfl)
     have hb8_ := hall 8 (by kernel_rfl)
     have hb9_ := hall 9 (by kernel_rfl)
     have hb11_ := hall 11 (by kernel_rfl)
     have hb12_ := hall 12 (by kernel_rfl)
     have hb13_ := hall 13 (by kernel_rfl)
     have hb14_ := hall 14 (by kernel_rfl)
     have hb15_ := hall 15 (by kernel_rfl)
     subst ha
     obtain rfl := (Q_X15_ hb15_).symm
     simp only [putSel, hb1_, hb4_, hb5_, hb8_, hb9_, hb11_, hb12_, hb13_, hb14_, hb15_, if_true, Act.put, List.setIfInBounds_toArray, List.set_cons_zero, List.set_cons_succ]
     have HO_133009 := zA Q_HO_133009
     clear Q_HO_133009
     have BK132 := zA Q_BK132
     clear Q_BK132
     have HB := zA Q_HB
     clear Q_HB
     clear Q_HO136
     clear Q_HO139
     clear Q_HO142
     clear Q_HO145
     have HO148 := zA (Q_HO148 hb13_)
     clear Q_HO148
     have HO151 := zA (Q_HO151 hb14_)
     clear Q_HO151
     clear hall hb1_ hb4_ hb5_ hb8_ hb9_ hb11_ hb12_ hb13_ hb14_ hb15_
     obtain ⟨hcz52_0, hcz52_1, hcz52_2, hcz52_3, hcz52_4, hcz52_5, hcz52_6, hcz52_7, hcz52_8, hcz52_9⟩ := bx10 BK132.out
     obtain ⟨hfz52_0, hfz52_1, hfz52_2, hfz52_3, hfz52_4, hfz52_5, hfz52_6, hfz52_7, hfz52_8, hfz52_9⟩ := fz10 BK132.out
     try go_wp2_with (first | ((with_reducible refine gate_dst (N := 5) rfl ?_); refine box_event ?hg (N := 5) ?hd (cs := #[.int .i64 0, .int .i64 0, .int .i64 0]) (t := 25) ?hr ?_; (case hd => rfl); (case hg => rfl); (case hr => first | (go_simp; done) | (go_simp; rfl)); intro gb152 hg w53 hbox hb; replace HO_133009 := zA (Kd.V_below (Kd.V_elderB (by (with_reducible repeat (first | apply Kd.V_alloc | apply Kd.V_drewN | apply Kd.V_drew)); first | exact HO_133009.out | exact Kd.V_mono HO_133009.out (fun _ hk => by grind)) gb152 (Nat.le_of_eq hg.symm)) hb); replace HO148 := zA (Kd.N_below (Kd.N_elderB (by (with_reducible repeat (first | apply Kd.N_alloc | apply Kd.N_drewN | apply Kd.N_drew)); first | exact HO148.out | exact Kd.N_mono HO148.out (fun _ hk => by grind)) gb152 (Nat.le_of_eq hg.symm)) hb); replace HO151 := zA (Kd.R_below (by (with_reducible repeat (first | apply Kd.R_alloc | apply Kd.R_drewN | apply Kd.R_drew)); first | exact HO151.out | exact Kd.R_mono HO151.out (fun _ hk => by grind)) hb); have BK152 := zA (hbox); have GW152 := zA ((by rw [hg]; exact bels : w.heap.size ≤ gb152)); have GE152 := zA ((by rw [hg]; exact bels : w.heap.size ≤ gb152)); have NB132_152 := zA ((by rw [hg]; exact Nat.ne_of_lt (blk_lt (g := gb132) (o := .cells #[.int .i64 a0_0, .int .i64 a0_1, .int .i64 a0_2, .int .i64 a0_3, .int .i64 a0_4, .int .i64 a0_5, .int .i64 a0_6, .bool false, .int .i64 a0_8, .slice A0_9 l0_9.length c0_9] 28 (0, 0)) (blk_g BK132.out)) : gb132 ≠ gb152)); have NB152_132 := zA ((by rw [hg]; exact Nat.ne_of_gt (blk_lt (g := gb132) (o := .cells #[.int .i64 a0_0, .int .i64 a0_1, .int .i64 a0_2, .int .i64 a0_3, .int .i64 a0_4, .int .i64 a0_5, .int .i64 a0_6, .bool false, .int .i64 a0_8, .slice A0_9 l0_9.length c0_9] 28 (0, 0)) (blk_g BK132.out)) : gb152 ≠ gb132)); replace BK132 := zA (blk_below (g := gb132) (o := .cells #[.int .i64 a0_0, .int .i64 a0_1, .int .i64 a0_2, .int .i64 a0_3, .int .i64 a0_4, .int .i64 a0_5, .int .i64 a0_6, .bool false, .int .i64 a0_8, .slice A0_9 l0_9.length c0_9] 28 (0, 0)) (blk_g BK132.out) hb); replace HB := zA (belt hb); clear hb hbox hg; have hnb54 := NB152_132.out; have hnc54 := NB132_152.out; obtain ⟨hcz55_0, hcz55_1, hcz55_2, hfz55_0, hfz55_1, hfz55_2⟩ := box3 BK152.out))
     have n0_ : Aside0 (Kd.V (Kd.int .u8) 5 (((w53.setCell ⟨gb152, 0, none⟩ (.int .i64 a0_2)).setCell ⟨gb152, 1, none⟩ (.int .i64 a0_3)).setCell ⟨gb152, 2, none⟩ (.int .i64 a0_4)) w.heap.size (fun k_ => (P0_9_ k_ ∨ w.heap.size ≤ k_) ∧ k_ ≠ gb132 ∧ k_ ≠ gb152) (.slice A0_9 l0_9.length c0_9) l0_9) := ⟨by (with_reducible repeat (first | apply Kd.V_alloc | apply Kd.V_drewN | apply Kd.V_drew)); exact Kd.V_mono (Kd.V_far (p := ⟨gb152, 2, none⟩) (Kd.V_far (p := ⟨gb152, 1, none⟩) (Kd.V_far (p := ⟨gb152, 0, none⟩) (Kd.V_mono HO_133009.out (fun k_ hk => by first | exact (⟨hk, hk.2⟩ : _ ∧ k_ ≠ gb152) | exact hk | grind)) (fun _ hk => by first | exact hk.2 | exact hk | grind) (.int .i64 a0_2)) (fun _ hk => by first | exact hk.2 | exact hk | grind) (.int .i64 a0_3)) (fun _ hk => by first | exact hk.2 | exact hk | grind) (.int .i64 a0_4)) (fun _ hk => by first | exact ⟨hk.1.1.1, ⟨hk.1.1.2.1, ⟨hk.1.1.2.2.1, ⟨hk.1.1.2.2.2, hk.1.2⟩⟩⟩⟩ | exact hk | grind)⟩
     have n1_ : Aside0 (Kd.N (Kd.slice 5 (Kd.int .u8)) 26 (((w53.setCell ⟨gb152, 0, none⟩ (.int .i64 a0_2)).setCell ⟨gb152, 1, none⟩ (.int .i64 a0_3)).setCell ⟨gb152, 2, none⟩ (.int .i64 a0_4)) w.heap.size (fun k_ => (P0_9_ k_ ∨ w.heap.size ≤ k_) ∧ k_ ≠ gb132 ∧ k_ ≠ gb152) v147 y146) := ⟨by (with_reducible repeat (first | apply Kd.N_alloc | apply Kd.N_drewN | apply Kd.N_drew)); exact Kd.N_mono (Kd.N_far (p := ⟨gb152, 2, none⟩) (Kd.N_far (p := ⟨gb152, 1, none⟩) (Kd.N_far (p := ⟨gb152, 0, none⟩) (Kd.N_mono HO148.out (fun k_ hk => by first | exact (⟨hk, hk.2⟩ : _ ∧ k_ ≠ gb152) | exact hk | grind)) (fun _ hk => by first | exact hk.2 | exact hk | grind) (.int .i64 a0_2)) (fun _ hk => by first | exact hk.2 | exact hk | grind) (.int .i64 a0_3)) (fun _ hk => by first | exact hk.2 | exact hk | grind) (.int .i64 a0_4)) (fun _ hk => by first | exact ⟨hk.1.1.1, ⟨hk.1.1.2.1, ⟨hk.1.1.2.2, hk.1.2⟩⟩⟩ | exact hk | grind)⟩
     have n2_ : Aside0 (Kd.R (Kd.int .u8) 5 (((w53.setCell ⟨gb152, 0, none⟩ (.int .i64 a0_2)).setCell ⟨gb152, 1, none⟩ (.int .i64 a0_3)).setCell ⟨gb152, 2, none⟩ (.int .i64 a0_4)) w.heap.size (fun k_ => (w.heap.size ≤ k_)) v150 t149) := ⟨by (with_reducible repeat (first | apply Kd.R_alloc | apply Kd.R_drewN | apply Kd.R_drew)); exact Kd.R_mono (Kd.R_far (p := ⟨gb152, 2, none⟩) (Kd.R_far (p := ⟨gb152, 1, none⟩) (Kd.R_far (p := ⟨gb152, 0, none⟩) (Kd.R_types HO151.out BK152.out (by decide)) (fun _ hk => by first | exact hk.2 | exact hk | grind) (.int .i64 a0_2)) (fun _ hk => by first | exact hk.2 | exact hk | grind) (.int .i64 a0_3)) (fun _ hk => by first | exact hk.2 | exact hk | grind) (.int .i64 a0_4)) (fun _ hk => by first | exact hk.1 | exact hk | grind)⟩
     have n3_ : Aside0 ((((w53.setCell ⟨gb152, 0, none⟩ (.int .i64 a0_2)).setCell ⟨gb152, 1, none⟩ (.int .i64 a0_3)).setCell ⟨gb152, 2, none⟩ (.int .i64 a0_4)).heap[gb132]? = some (.cells #[.int .i64 a0_0, .int .i64 a0_1, .int .i64 a0_2, .int .i64 a0_3, .int .i64 a0_4, .int .i64 a0_5, .int .i64 a0_6, .bool false, .int .i64 a0_8, .slice A0_9 l0_9.length c0_9] 28 (0, 0))) := ⟨by (with_reducible repeat (first | refine blk_drewN ?_ _ | refine blk_drew ?_ | refine blk_alloc ?_ _)); refine blk_far ?_ NB132_152.out _; (with_reducible repeat (first | refine blk_drewN ?_ _ | refine blk_drew ?_ | refine blk_alloc ?_ _)); refine blk_far ?_ NB132_152.out _; (with_reducible repeat (first | refine blk_drewN ?_ _ | refine blk_drew ?_ | refine blk_alloc ?_ _)); refine blk_far ?_ NB132_152.out _; (with_reducible repeat (first | refine blk_drewN ?_ _ | refine blk_drew ?_ | refine blk_alloc ?_ _)); exact BK132.out⟩
     have n4_ : Aside0 ((((w53.setCell ⟨gb152, 0, none⟩ (.int .i64 a0_2)).setCell ⟨gb152, 1, none⟩ (.int .i64 a0_3)).setCell ⟨gb152, 2, none⟩ (.int .i64 a0_4)).heap[gb152]? = some (.cells #[.int .i64 a0_2, .int .i64 a0_3, .int .i64 a0_4] 25 (0, 0))) := ⟨by (with_reducible repeat (first | refine blk_drewN ?_ _ | refine blk_drew ?_ | refine blk_alloc ?_ _)); refine blk_put (cs := #[.int .i64 a0_2, .int .i64 a0_3, .int .i64 0]) ?_ 2 _ rfl; (with_reducible repeat (first | refine blk_drewN ?_ _ | refine blk_drew ?_ | refine blk_alloc ?_ _)); refine blk_put (cs := #[.int .i64 a0_2, .int .i64 0, .int .i64 0]) ?_ 1 _ rfl; (with_reducible repeat (first | refine blk_drewN ?_ _ | refine blk_drew ?_ | refine blk_alloc ?_ _)); refine blk_put (cs := #[.int .i64 0, .int .i64 0, .int .i64 0]) ?_ 0 _ rfl; (with_reducible repeat (first | refine blk_drewN ?_ _ | refine blk_drew ?_ | refine blk_alloc ?_ _)); exact BK152.out⟩
     have n5_ : Aside0 (Below w.heap.size w (((w53.setCell ⟨gb152, 0, none⟩ (.int .i64 a0_2)).setCell ⟨gb152, 1, none⟩ (.int .i64 a0_3)).setCell ⟨gb152, 2, none⟩ (.int .i64 a0_4))) := ⟨bel⟩
     (try clear HO_133009)
     (try clear HO148)
     (try clear HO151)
     (try clear BK132)
     (try clear BK152)
     (try clear HB)
     generalize (((w53.setCell ⟨gb152, 0, none⟩ (.int .i64 a0_2)).setCell ⟨gb152, 1, none⟩ (.int .i64 a0_3)).setCell ⟨gb152, 2, none⟩ (.int .i64 a0_4)) = w56 at n0_ n1_ n2_ n3_ n4_ n5_ ⊢
     have HO_133009 := n0_
     have HO148 := n1_
     have HO151 := n2_
     have BK132 := n3_
     have BK152 := n4_
     have HB := n5_
     clear n0_ n1_ n2_ n3_ n4_ n5_
     replace HO_133009 := zA (Kd.V_drew HO_133009.out)
     replace HO148 := zA (Kd.N_drew HO148.out)
     replace HO151 := zA (Kd.R_drew HO151.out)
     replace BK132 := zA (blk_drew BK132.out)
     replace BK152 := zA (blk_drew BK152.out)
     replace HB := zA (below_drew1 HB.out)
     refine start_ (n := 21) (S := fun w' => w'.cell? ⟨gb152, 0, none⟩ = some (.int .i64 a0_2) ∧ w'.cell? ⟨gb152, 1, none⟩ = some (.int .i64 a0_3) ∧ w'.cell? ⟨gb152, 2, none⟩ = some (.int .i64 a0_4) ∧ E10 w' gb132 (.int .i64 a0_0) (.int .i64 a0_1) (.int .i64 a0_2) (.int .i64 a0_3) (.int .i64 a0_4) (.int .i64 a0_5) (.int .i64 a0_6) (.bool false) (.int .i64 a0_8) (.slice A0_9 l0_9.length c0_9)) (ds := []) (ms 21 0) (by kernel_rfl) rfl rfl (ap3 (bx3 BK152.out) ((bx10 BK132.out))) (fun hHeld => ?_); refine with_tabW record_Bytes.tab10 record_Bytes.bits10 (fun HT_ HW_ => ?_)
     generalize w56.drew = w57 at HO_133009 HO148 HO151 BK132 BK152 HB hHeld ⊢
     refine run_ [(0, false, some 31), (1, false, some 32), (4, false, some 35), (7, false, some 38), (10, false, some 41), (13, false, some 44), (16, false, some 47), (2, true, some 33), (5, true, some 36), (8, true, some 39), (11, true, some 42), (14, true, some 45), (17, true, some 48)] (n := 13) (ms 21 224695) rfl HT_.out HW_.out (by kernel_rfl) (fun _ _ _ _ h => h) hHeld ?_
     repeat (first | (refine Run.p (v := ?_) (a' := ?_) rfl rfl (Or.inl ⟨by rfl, ?_⟩) ?_ ?_; rotate_left; (focus intro w'; go_simp; with_reducible rfl); rotate_left; (focus simp only [Act.put, sx]; rfl)) | (refine Run.t (v := ?_) (a' := ?_) rfl rfl (Or.inl ⟨by rfl, ?_⟩) ?_ ?_; rotate_left; (focus rintro w' ⟨s0, s1, s2, s3, s4, s5, s6, s7, s8, s9, s10, s11, s12⟩; go_simp; with_reducible rfl); rotate_left; (focus simp only [Act.put, sx]; rfl)))
     refine Run.nil ?_
     refine one_ (i := 3) (N := some 34) (ms 21 224703) rfl rfl (one_of HT_.out (by kernel_rfl)) (by decide) (fun K hK => ?_)
     refine goes_ Try.func30 (by kernel_rfl) rfl #[.int .i64 a0_2, .int .i64 2] (by rfl) rfl rfl (by (try simp only [List.map_toArray, List.map_cons, List.map_nil]); first | done | rfl | (simp only [List.length_drop, List.length_take]; rfl)) ?_
     with_reducible refine (record_Number.calls kj3 a0_2 2 t153 _ A31.out).mono ?_
     rintro e w58 ⟨v154, rfl, ho0, hb⟩
     refine ⟨_, rfl, ?_⟩
     replace HO_133009 := zA (Kd.V_elder' (by (with_reducible repeat (first | apply Kd.V_alloc | apply Kd.V_drewN | apply Kd.V_drew)); first | exact HO_133009.out | exact Kd.V_mono HO_133009.out (fun _ hk => by grind)) (Kd.R_base ho0) hb)
     replace HO148 := zA (Kd.N_elder' (by (with_reducible repeat (first | apply Kd.N_alloc | apply Kd.N_drewN | apply Kd.N_drew)); first | exact HO148.out | exact Kd.N_mono HO148.out (fun _ hk => by grind)) (Kd.R_base ho0) hb)
     have HO155 := zA (Kd.R_lower (Kd.R_new' (Kd.R_newM (M := fun k_ => (w.heap.size ≤ k_)) ho0 bels (fun k_ h_ => h_)) (Kd.R_lt (by (with_reducible repeat (first | apply Kd.R_alloc | apply Kd.R_drewN | apply Kd.R_drew)); first | exact HO151.out | exact Kd.R_mono HO151.out (fun _ hk => by grind)))) bels)
     replace HO151 := zA (Kd.R_elder' (by (with_reducible repeat (first | apply Kd.R_alloc | apply Kd.R_drewN | apply Kd.R_drew)); first | exact HO151.out | exact Kd.R_mono HO151.out (fun _ hk => by grind)) (Kd.R_base ho0) hb)
     replace BK132 := zA (blk_below (g := gb132) (o := .cells #[.int .i64 a0_0, .int .i64 a0_1, .int .i64 a0_2, .int .i64 a0_3, .int .i64 a0_4, .int .i64 a0_5, .int .i64 a0_6, .bool false, .int .i64 a0_8, .slice A0_9 l0_9.length c0_9] 28 (0, 0)) (blk_g BK132.out) hb)
     replace BK152 := zA (blk_below (g := gb152) (o := .cells #[.int .i64 a0_2, .int .i64 a0_3, .int .i64 a0_4] 25 (0, 0)) (blk_g BK152.out) hb)
     replace HB := zA (belt hb)
     (try clear hb)
     (try clear hb2)
     (try clear hk)
     (try clear hi)
     (try clear ho0)
     refine hK.out _ _ (ap3 (bx3 BK152.out) ((bx10 BK132.out))) (fun hHeld => ?_)
     clear hK K
     refine norm_ (a' := ?_) ?_ ?_
     rotate_left
     ·show Act.put _ (some 34) _ = _
      simp only [Act.put, sx]
      rfl
     refine one_ (i := 6) (N := some 37) (ms 21 224767) rfl rfl (one_of HT_.out (by kernel_rfl)) (by decide) (fun K hK => ?_)
     refine goes_ Try.func30 (by kernel_rfl) rfl #[.int .i64 a0_3, .int .i64 2] (by rfl) rfl rfl (by (try simp only [List.map_toArray, List.map_cons, List.map_nil]); first | done | rfl | (simp only [List.length_drop, List.length_take]; rfl)) ?_
     with_reducible refine (record_Number.calls kj3 a0_3 2 t156 _ A32.out).mono ?_
     rintro e w59 ⟨v157, rfl, ho0, hb⟩
     refine ⟨_, rfl, ?_⟩
     replace HO_133009 := zA (Kd.V_elder' (by (with_reducible repeat (first | apply Kd.V_alloc | apply Kd.V_drewN | apply Kd.V_drew)); first | exact HO_133009.out | exact Kd.V_mono HO_133009.out (fun _ hk => by grind)) (Kd.R_base ho0) hb)
     replace HO148 := zA (Kd.N_elder' (by (with_reducible repeat (first | apply Kd.N_alloc | apply Kd.N_drewN | apply Kd.N_drew)); first | exact HO148.out | exact Kd.N_mono HO148.out (fun _ hk => by grind)) (Kd.R_base ho0) hb)
     have HO158 := zA (Kd.R_lower (Kd.R_new' (Kd.R_new' (Kd.R_newM (M := fun k_ => (w.heap.size ≤ k_)) ho0 bels (fun k_ h_ => h_)) (Kd.R_lt (by (with_reducible repeat (first | apply Kd.R_alloc | apply Kd.R_drewN | apply Kd.R_drew)); first | exact HO151.out | exact Kd.R_mono HO151.out (fun _ hk => by grind)))) (Kd.R_lt (by (with_reducible repeat (first | apply Kd.R_alloc | apply Kd.R_drewN | apply Kd.R_drew)); first | exact HO155.out | exact Kd.R_mono HO155.out (fun _ hk => by grind)))) bels)
     replace HO151 := zA (Kd.R_elder' (by (with_reducible repeat (first | apply Kd.R_alloc | apply Kd.R_drewN | apply Kd.R_drew)); first | exact HO151.out | exact Kd.R_mono HO151.out (fun _ hk => by grind)) (Kd.R_base ho0) hb)
     replace HO155 := zA (Kd.R_elder' (by (with_reducible repeat (first | apply Kd.R_alloc | apply Kd.R_drewN | apply Kd.R_drew)); first | exact HO155.out | exact Kd.R_mono HO155.out (fun _ hk => by grind)) (Kd.R_base ho0) hb)
     replace BK132 := zA (blk_below (g := gb132) (o := .cells #[.int .i64 a0_0, .int .i64 a0_1, .int .i64 a0_2, .int .i64 a0_3, .int .i64 a0_4, .int .i64 a0_5, .int .i64 a0_6, .bool false, .int .i64 a0_8, .slice A0_9 l0_9.length c0_9] 28 (0, 0)) (blk_g BK132.out) hb)
     replace BK152 := zA (blk_below (g := gb152) (o := .cells #[.int .i64 a0_2, .int .i64 a0_3, .int .i64 a0_4] 25 (0, 0)) (blk_g BK152.out) hb)
     replace HB := zA (belt hb)
     (try clear hb)
     (try clear hb2)
     (try clear hk)
     (try clear hi)
     (try clear ho0)
     refine hK.out _ _ (ap3 (bx3 BK152.out) ((bx10 BK132.out))) (fun hHeld => ?_)
     clear hK K
     refine norm_ (a' := ?_) ?_ ?_
     rotate_left
     ·show Act.put _ (some 37) _ = _
      simp only [Act.put, sx]
      rfl
     refine one_ (i := 9) (N := some 40) (ms 21 225279) rfl rfl (one_of HT_.out (by kernel_rfl)) (by decide) (fun K hK => ?_)
     refine goes_ Try.func30 (by kernel_rfl) rfl #[.int .i64 a0_4, .int .i64 2] (by rfl) rfl rfl (by (try simp only [List.map_toArray, List.map_cons, List.map_nil]); first | done | rfl | (simp only [List.length_drop, List.length_take]; rfl)) ?_
     with_reducible refine (record_Number.calls kj3 a0_4 2 t159 _ A33.out).mono ?_
     rintro e w60 ⟨v160, rfl, ho0, hb⟩
     refine ⟨_, rfl, ?_⟩
     replace HO_133009 := zA (Kd.V_elder' (by (with_reducible repeat (first | apply Kd.V_alloc | apply Kd.V_drewN | apply Kd.V_drew)); first | exact HO_133009.out | exact Kd.V_mono HO_133009.out (fun _ hk => by grind)) (Kd.R_base ho0) hb)
     replace HO148 := zA (Kd.N_elder' (by (with_reducible repeat (first | apply Kd.N_alloc | apply Kd.N_drewN | apply Kd.N_drew)); first | exact HO148.out | exact Kd.N_mono HO148.out (fun _ hk => by grind)) (Kd.R_base ho0) hb)
     have HO161 := zA (Kd.R_lower (Kd.R_new' (Kd.R_new' (Kd.R_new' (Kd.R_newM (M := fun k_ => (w.heap.size ≤ k_)) ho0 bels (fun k_ h_ => h_)) (Kd.R_lt (by (with_reducible repeat (first | apply Kd.R_alloc | apply Kd.R_drewN | apply Kd.R_drew)); first | exact HO151.out | exact Kd.R_mono HO151.out (fun _ hk => by grind)))) (Kd.R_lt (by (with_reducible repeat (first | apply Kd.R_alloc | apply Kd.R_drewN | apply Kd.R_drew)); first | exact HO155.out | exact Kd.R_mono HO155.out (fun _ hk => by grind)))) (Kd.R_lt (by (with_reducible repeat (first | apply Kd.R_alloc | apply Kd.R_drewN | apply Kd.R_drew)); first | exact HO158.out | exact Kd.R_mono HO158.out (fun _ hk => by grind)))) bels)
     replace HO151 := zA (Kd.R_elder' (by (with_reducible repeat (first | apply Kd.R_alloc | apply Kd.R_drewN | apply Kd.R_drew)); first | exact HO151.out | exact Kd.R_mono HO151.out (fun _ hk => by grind)) (Kd.R_base ho0) hb)
     replace HO155 := zA (Kd.R_elder' (by (with_reducible repeat (first | apply Kd.R_alloc | apply Kd.R_drewN | apply Kd.R_drew)); first | exact HO155.out | exact Kd.R_mono HO155.out (fun _ hk => by grind)) (Kd.R_base ho0) hb)
     replace HO158 := zA (Kd.R_elder' (by (with_reducible repeat (first | apply Kd.R_alloc | apply Kd.R_drewN | apply Kd.R_drew)); first | exact HO158.out | exact Kd.R_mono HO158.out (fun _ hk => by grind)) (Kd.R_base ho0) hb)
     replace BK132 := zA (blk_below (g := gb132) (o := .cells #[.int .i64 a0_0, .int .i64 a0_1, .int .i64 a0_2, .int .i64 a0_3, .int .i64 a0_4, .int .i64 a0_5, .int .i64 a0_6, .bool false, .int .i64 a0_8, .slice A0_9 l0_9.length c0_9] 28 (0, 0)) (blk_g BK132.out) hb)
     replace BK152 := zA (blk_below (g := gb152) (o := .cells #[.int .i64 a0_2, .int .i64 a0_3, .int .i64 a0_4] 25 (0, 0)) (blk_g BK152.out) hb)
     replace HB := zA (belt hb)
     (try clear hb)
     (try clear hb2)
     (try clear hk)
     (try clear hi)
     (try clear ho0)
     refine hK.out _ _ (ap3 (bx3 BK152.out) ((bx10 BK132.out))) (fun hHeld => ?_)
     clear hK K
     refine norm_ (a' := ?_) ?_ ?_
     rotate_left
     ·show Act.put _ (some 40) _ = _
      simp only [Act.put, sx]
      rfl
     refine one_ (i := 12) (N := some 43) (ms 21 229375) rfl rfl (one_of HT_.out (by kernel_rfl)) (by decide) (fun K hK => ?_)
     refine goes_ Try.func30 (by kernel_rfl) rfl #[.int .i64 a0_5, .int .i64 2] (by rfl) rfl rfl (by (try simp only [List.map_toArray, List.map_cons, List.map_nil]); first | done | rfl | (simp only [List.length_drop, List.length_take]; rfl)) ?_
     with_reducible refine (record_Number.calls kj3 a0_5 2 t162 _ A34.out).mono ?_
     rintro e w61 ⟨v163, rfl, ho0, hb⟩
     refine ⟨_, rfl, ?_⟩
     replace HO_133009 := zA (Kd.V_elder' (by (with_reducible repeat (first | apply Kd.V_alloc | apply Kd.V_drewN | apply Kd.V_drew)); first | exact HO_133009.out | exact Kd.V_mono HO_133009.out (fun _ hk => by grind)) (Kd.R_base ho0) hb)
     replace HO148 := zA (Kd.N_elder' (by (with_reducible repeat (first | apply Kd.N_alloc | apply Kd.N_drewN | apply Kd.N_drew)); first | exact HO148.out | exact Kd.N_mono HO148.out (fun _ hk => by grind)) (Kd.R_base ho0) hb)
     have HO164 := zA (Kd.R_lower (Kd.R_new' (Kd.R_new' (Kd.R_new' (Kd.R_new' (Kd.R_newM (M := fun k_ => (w.heap.size ≤ k_)) ho0 bels (fun k_ h_ => h_)) (Kd.R_lt (by (with_reducible repeat (first | apply Kd.R_alloc | apply Kd.R_drewN | apply Kd.R_drew)); first | exact HO151.out | exact Kd.R_mono HO151.out (fun _ hk => by grind)))) (Kd.R_lt (by (with_reducible repeat (first | apply Kd.R_alloc | apply Kd.R_drewN | apply Kd.R_drew)); first | exact HO155.out | exact Kd.R_mono HO155.out (fun _ hk => by grind)))) (Kd.R_lt (by (with_reducible repeat (first | apply Kd.R_alloc | apply Kd.R_drewN | apply Kd.R_drew)); first | exact HO158.out | exact Kd.R_mono HO158.out (fun _ hk => by grind)))) (Kd.R_lt (by (with_reducible repeat (first | apply Kd.R_alloc | apply Kd.R_drewN | apply Kd.R_drew)); first | exact HO161.out | exact Kd.R_mono HO161.out (fun _ hk => by grind)))) bels)
     replace HO151 := zA (Kd.R_elder' (by (with_reducible repeat (first | apply Kd.R_alloc | apply Kd.R_drewN | apply Kd.R_drew)); first | exact HO151.out | exact Kd.R_mono HO151.out (fun _ hk => by grind)) (Kd.R_base ho0) hb)
     replace HO155 := zA (Kd.R_elder' (by (with_reducible repeat (first | apply Kd.R_alloc | apply Kd.R_drewN | apply Kd.R_drew)); first | exact HO155.out | exact Kd.R_mono HO155.out (fun _ hk => by grind)) (Kd.R_base ho0) hb)
     replace HO158 := zA (Kd.R_elder' (by (with_reducible repeat (first | apply Kd.R_alloc | apply Kd.R_drewN | apply Kd.R_drew)); first | exact HO158.out | exact Kd.R_mono HO158.out (fun _ hk => by grind)) (Kd.R_base ho0) hb)
     replace HO161 := zA (Kd.R_elder' (by (with_reducible repeat (first | apply Kd.R_alloc | apply Kd.R_drewN | apply Kd.R_drew)); first | exact HO161.out | exact Kd.R_mono HO161.out (fun _ hk => by grind)) (Kd.R_base ho0) hb)
     replace BK132 := zA (blk_below (g := gb132) (o := .cells #[.int .i64 a0_0, .int .i64 a0_1, .int .i64 a0_2, .int .i64 a0_3, .int .i64 a0_4, .int .i64 a0_5, .int .i64 a0_6, .bool false, .int .i64 a0_8, .slice A0_9 l0_9.length c0_9] 28 (0, 0)) (blk_g BK132.out) hb)
     replace BK152 := zA (blk_below (g := gb152) (o := .cells #[.int .i64 a0_2, .int .i64 a0_3, .int .i64 a0_4] 25 (0, 0)) (blk_g BK152.out) hb)
     replace HB := zA (belt hb)
     (try clear hb)
     (try clear hb2)
     (try clear hk)
     (try clear hi)
     (try clear ho0)
     refine hK.out _ _ (ap3 (bx3 BK152.out) ((bx10 BK132.out))) (fun hHeld => ?_)
     clear hK K
     refine norm_ (a' := ?_) ?_ ?_
     rotate_left
     ·show Act.put _ (some 43) _ = _
      simp only [Act.put, sx]
      rfl
     refine one_ (i := 15) (N := some 46) (ms 21 262143) rfl rfl (one_of HT_.out (by kernel_rfl)) (by decide) (fun K hK => ?_)
     refine goes_ Try.func30 (by kernel_rfl) rfl #[.int .i64 a0_6, .int .i64 3] (by rfl) rfl rfl (by (try simp only [List.map_toArray, List.map_cons, List.map_nil]); first | done | rfl | (simp only [List.length_drop, List.length_take]; rfl)) ?_
     with_reducible refine (record_Number.calls kj3 a0_6 3 t165 _ A35.out).mono ?_
     rintro e w62 ⟨v166, rfl, ho0, hb⟩
     refine ⟨_, rfl, ?_⟩
     replace HO_133009 := zA (Kd.V_elder' (by (with_reducible repeat (first | apply Kd.V_alloc | apply Kd.V_drewN | apply Kd.V_drew)); first | exact HO_133009.out | exact Kd.V_mono HO_133009.out (fun _ hk => by grind)) (Kd.R_base ho0) hb)
     replace HO148 := zA (Kd.N_elder' (by (with_reducible repeat (first | apply Kd.N_alloc | apply Kd.N_drewN | apply Kd.N_drew)); first | exact HO148.out | exact Kd.N_mono HO148.out (fun _ hk => by grind)) (Kd.R_base ho0) hb)
     have HO167 := zA (Kd.R_lower (Kd.R_new' (Kd.R_new' (Kd.R_new' (Kd.R_new' (Kd.R_new' (Kd.R_newM (M := fun k_ => (w.heap.size ≤ k_)) ho0 bels (fun k_ h_ => h_)) (Kd.R_lt (by (with_reducible repeat (first | apply Kd.R_alloc | apply Kd.R_drewN | apply Kd.R_drew)); first | exact HO151.out | exact Kd.R_mono HO151.out (fun _ hk => by grind)))) (Kd.R_lt (by (with_reducible repeat (first | apply Kd.R_alloc | apply Kd.R_drewN | apply Kd.R_drew)); first | exact HO155.out | exact Kd.R_mono HO155.out (fun _ hk => by grind)))) (Kd.R_lt (by (with_reducible repeat (first | apply Kd.R_alloc | apply Kd.R_drewN | apply Kd.R_drew)); first | exact HO158.out | exact Kd.R_mono HO158.out (fun _ hk => by grind)))) (Kd.R_lt (by (with_reducible repeat (first | apply Kd.R_alloc | apply Kd.R_drewN | apply Kd.R_drew)); first | exact HO161.out | exact Kd.R_mono HO161.out (fun _ hk => by grind)))) (Kd.R_lt (by (with_reducible repeat (first | apply Kd.R_alloc | apply Kd.R_drewN | apply Kd.R_drew)); first | exact HO164.out | exact Kd.R_mono HO164.out (fun _ hk => by grind)))) bels)
     replace HO151 := zA (Kd.R_elder' (by (with_reducible repeat (first | apply Kd.R_alloc | apply Kd.R_drewN | apply Kd.R_drew)); first | exact HO151.out | exact Kd.R_mono HO151.out (fun _ hk => by grind)) (Kd.R_base ho0) hb)
     replace HO155 := zA (Kd.R_elder' (by (with_reducible repeat (first | apply Kd.R_alloc | apply Kd.R_drewN | apply Kd.R_drew)); first | exact HO155.out | exact Kd.R_mono HO155.out (fun _ hk => by grind)) (Kd.R_base ho0) hb)
     replace HO158 := zA (Kd.R_elder' (by (with_reducible repeat (first | apply Kd.R_alloc | apply Kd.R_drewN | apply Kd.R_drew)); first | exact HO158.out | exact Kd.R_mono HO158.out (fun _ hk => by grind)) (Kd.R_base ho0) hb)
     replace HO161 := zA (Kd.R_elder' (by (with_reducible repeat (first | apply Kd.R_alloc | apply Kd.R_drewN | apply Kd.R_drew)); first | exact HO161.out | exact Kd.R_mono HO161.out (fun _ hk => by grind)) (Kd.R_base ho0) hb)
     replace HO164 := zA (Kd.R_elder' (by (with_reducible repeat (first | apply Kd.R_alloc | apply Kd.R_drewN | apply Kd.R_drew)); first | exact HO164.out | exact Kd.R_mono HO164.out (fun _ hk => by grind)) (Kd.R_base ho0) hb)
     replace BK132 := zA (blk_below (g := gb132) (o := .cells #[.int .i64 a0_0, .int .i64 a0_1, .int .i64 a0_2, .int .i64 a0_3, .int .i64 a0_4, .int .i64 a0_5, .int .i64 a0_6, .bool false, .int .i64 a0_8, .slice A0_9 l0_9.length c0_9] 28 (0, 0)) (blk_g BK132.out) hb)
     replace BK152 := zA (blk_below (g := gb152) (o := .cells #[.int .i64 a0_2, .int .i64 a0_3, .int .i64 a0_4] 25 (0, 0)) (blk_g BK152.out) hb)
     replace HB := zA (belt hb)
     (try clear hb)
     (try clear hb2)
     (try clear hk)
     (try clear hi)
     (try clear ho0)
     obtain ⟨Ao63, co63, eo63⟩ := Kd.R_slice HO151.out
     (first | subst eo63 | (injection eo63 with f1_ f2_ f3_; have f4_ := f1_.symm; have f5_ := f3_.symm; clear f1_ f2_ f3_; subst f4_; subst f5_))
     obtain ⟨Ao64, co64, eo64⟩ := Kd.R_slice HO155.out
     (first | subst eo64 | (injection eo64 with f1_ f2_ f3_; have f4_ := f1_.symm; have f5_ := f3_.symm; clear f1_ f2_ f3_; subst f4_; subst f5_))
     obtain ⟨Ao65, co65, eo65⟩ := Kd.R_slice HO158.out
     (first | subst eo65 | (injection eo65 with f1_ f2_ f3_; have f4_ := f1_.symm; have f5_ := f3_.symm; clear f1_ f2_ f3_; subst f4_; subst f5_))
     obtain ⟨Ao66, co66, eo66⟩ := Kd.R_slice HO161.out
     (first | subst eo66 | (injection eo66 with f1_ f2_ f3_; have f4_ := f1_.symm; have f5_ := f3_.symm; clear f1_ f2_ f3_; subst f4_; subst f5_))
     obtain ⟨Ao67, co67, eo67⟩ := Kd.R_slice HO164.out
     (first | subst eo67 | (injection eo67 with f1_ f2_ f3_; have f4_ := f1_.symm; have f5_ := f3_.symm; clear f1_ f2_ f3_; subst f4_; subst f5_))
     obtain ⟨Ao68, co68, eo68⟩ := Kd.R_slice HO167.out
     (first | subst eo68 | (injection eo68 with f1_ f2_ f3_; have f4_ := f1_.symm; have f5_ := f3_.symm; clear f1_ f2_ f3_; subst f4_; subst f5_))
     refine hK.out _ _ (ap3 (bx3 BK152.out) ((bx10 BK132.out))) (fun hHeld => ?_)
     clear hK K
     refine norm_ (a' := ?_) ?_ ?_
     rotate_left
     ·show Act.put _ (some 46) _ = _
      simp only [Act.put, sx]
      rfl
     refine one_ (i := 18) (N := some 49) (ms 21 524287) rfl rfl (one_of HT_.out (by kernel_rfl)) (by decide) (fun K hK => ?_)
     refine Kd.N_lit_step (Kd.slice 5 (Kd.int .u8)) _ 26 ?hg (N' := 49) ?hd (xs := ([t149, t153, t156, t159, t162, t165, l0_9] : List (List Int))) (inner := [.slice Ao63 t149.length co63, .slice Ao64 t153.length co64, .slice Ao65 t156.length co65, .slice Ao66 t159.length co66, .slice Ao67 t162.length co67, .slice Ao68 t165.length co68, .slice A0_9 l0_9.length c0_9]) (ok := (fun k_ => (P0_9_ k_ ∨ w.heap.size ≤ k_) ∧ k_ ≠ gb132 ∧ k_ ≠ gb152)) (okp := (fun k_ => (P0_9_ k_ ∨ w.heap.size ≤ k_) ∧ k_ ≠ gb132 ∧ k_ ≠ gb152)) ?hr ?hp (fun _ hk => hk) ((show ∀ k_, w62.heap.size ≤ k_ → (fun k_ => (P0_9_ k_ ∨ w.heap.size ≤ k_) ∧ k_ ≠ gb132 ∧ k_ ≠ gb152) k_ from fun k_ hk => ⟨(.inr (Nat.le_trans bels hk)), Kd.freshB (g := gb132) (o := .cells #[.int .i64 a0_0, .int .i64 a0_1, .int .i64 a0_2, .int .i64 a0_3, .int .i64 a0_4, .int .i64 a0_5, .int .i64 a0_6, .bool false, .int .i64 a0_8, .slice A0_9 l0_9.length c0_9] 28 (0, 0)) (blk_g BK132.out) k_ hk, Kd.freshB (g := gb152) (o := .cells #[.int .i64 a0_2, .int .i64 a0_3, .int .i64 a0_4] 25 (0, 0)) (blk_g BK152.out) k_ hk⟩) _ (Nat.le_refl _)) (Below.refl _ _) (Nat.le_refl _) (by simp) ?_; (case hd => rfl); (case hg => rfl); (case hr => first | (go_simp; done) | (go_simp; rfl)); (case hp => exact (Reps.one (show Kd.FK (Kd.slice 5 (Kd.int .u8)) _ _ t149 [.slice Ao63 t149.length co63] from (Kd.FK_slice_mk (Kd.R_reads' (Kd.R_mono (ok' := (fun k_ => (P0_9_ k_ ∨ w.heap.size ≤ k_) ∧ k_ ≠ gb132 ∧ k_ ≠ gb152)) (Kd.R_types (Kd.R_types (Kd.R_apart' (HO151.out) (Kd.N_typed HO148.out) (by decide)) BK132.out (by decide)) BK152.out (by decide)) (fun k_ hk => by first | exact ⟨(.inr (hk.1.1.1.1.1.1.1.1)), ⟨hk.1.1.2, ⟨hk.1.2, hk.2⟩⟩⟩ | exact hk | grind))).2.1 (Kd.R_F (Kd.R_mono (ok' := (fun k_ => (P0_9_ k_ ∨ w.heap.size ≤ k_) ∧ k_ ≠ gb132 ∧ k_ ≠ gb152)) (Kd.R_types (Kd.R_types (Kd.R_apart' (HO151.out) (Kd.N_typed HO148.out) (by decide)) BK132.out (by decide)) BK152.out (by decide)) (fun k_ hk => by first | exact ⟨(.inr (hk.1.1.1.1.1.1.1.1)), ⟨hk.1.1.2, ⟨hk.1.2, hk.2⟩⟩⟩ | exact hk | grind))))) (Reps.one (show Kd.FK (Kd.slice 5 (Kd.int .u8)) _ _ t153 [.slice Ao64 t153.length co64] from (Kd.FK_slice_mk (Kd.R_reads' (Kd.R_mono (ok' := (fun k_ => (P0_9_ k_ ∨ w.heap.size ≤ k_) ∧ k_ ≠ gb132 ∧ k_ ≠ gb152)) (Kd.R_types (Kd.R_types (Kd.R_apart' (HO155.out) (Kd.N_typed HO148.out) (by decide)) BK132.out (by decide)) BK152.out (by decide)) (fun k_ hk => by first | exact ⟨(.inr (hk.1.1.1.1.1.1.1.1.1)), ⟨hk.1.1.2, ⟨hk.1.2, hk.2⟩⟩⟩ | exact hk | grind))).2.1 (Kd.R_F (Kd.R_mono (ok' := (fun k_ => (P0_9_ k_ ∨ w.heap.size ≤ k_) ∧ k_ ≠ gb132 ∧ k_ ≠ gb152)) (Kd.R_types (Kd.R_types (Kd.R_apart' (HO155.out) (Kd.N_typed HO148.out) (by decide)) BK132.out (by decide)) BK152.out (by decide)) (fun k_ hk => by first | exact ⟨(.inr (hk.1.1.1.1.1.1.1.1.1)), ⟨hk.1.1.2, ⟨hk.1.2, hk.2⟩⟩⟩ | exact hk | grind))))) (Reps.one (show Kd.FK (Kd.slice 5 (Kd.int .u8)) _ _ t156 [.slice Ao65 t156.length co65] from (Kd.FK_slice_mk (Kd.R_reads' (Kd.R_mono (ok' := (fun k_ => (P0_9_ k_ ∨ w.heap.size ≤ k_) ∧ k_ ≠ gb132 ∧ k_ ≠ gb152)) (Kd.R_types (Kd.R_types (Kd.R_apart' (HO158.out) (Kd.N_typed HO148.out) (by decide)) BK132.out (by decide)) BK152.out (by decide)) (fun k_ hk => by first | exact ⟨(.inr (hk.1.1.1.1.1.1.1.1.1)), ⟨hk.1.1.2, ⟨hk.1.2, hk.2⟩⟩⟩ | exact hk | grind))).2.1 (Kd.R_F (Kd.R_mono (ok' := (fun k_ => (P0_9_ k_ ∨ w.heap.size ≤ k_) ∧ k_ ≠ gb132 ∧ k_ ≠ gb152)) (Kd.R_types (Kd.R_types (Kd.R_apart' (HO158.out) (Kd.N_typed HO148.out) (by decide)) BK132.out (by decide)) BK152.out (by decide)) (fun k_ hk => by first | exact ⟨(.inr (hk.1.1.1.1.1.1.1.1.1)), ⟨hk.1.1.2, ⟨hk.1.2, hk.2⟩⟩⟩ | exact hk | grind))))) (Reps.one (show Kd.FK (Kd.slice 5 (Kd.int .u8)) _ _ t159 [.slice Ao66 t159.length co66] from (Kd.FK_slice_mk (Kd.R_reads' (Kd.R_mono (ok' := (fun k_ => (P0_9_ k_ ∨ w.heap.size ≤ k_) ∧ k_ ≠ gb132 ∧ k_ ≠ gb152)) (Kd.R_types (Kd.R_types (Kd.R_apart' (HO161.out) (Kd.N_typed HO148.out) (by decide)) BK132.out (by decide)) BK152.out (by decide)) (fun k_ hk => by first | exact ⟨(.inr (hk.1.1.1.1.1.1.1.1.1)), ⟨hk.1.1.2, ⟨hk.1.2, hk.2⟩⟩⟩ | exact hk | grind))).2.1 (Kd.R_F (Kd.R_mono (ok' := (fun k_ => (P0_9_ k_ ∨ w.heap.size ≤ k_) ∧ k_ ≠ gb132 ∧ k_ ≠ gb152)) (Kd.R_types (Kd.R_types (Kd.R_apart' (HO161.out) (Kd.N_typed HO148.out) (by decide)) BK132.out (by decide)) BK152.out (by decide)) (fun k_ hk => by first | exact ⟨(.inr (hk.1.1.1.1.1.1.1.1.1)), ⟨hk.1.1.2, ⟨hk.1.2, hk.2⟩⟩⟩ | exact hk | grind))))) (Reps.one (show Kd.FK (Kd.slice 5 (Kd.int .u8)) _ _ t162 [.slice Ao67 t162.length co67] from (Kd.FK_slice_mk (Kd.R_reads' (Kd.R_mono (ok' := (fun k_ => (P0_9_ k_ ∨ w.heap.size ≤ k_) ∧ k_ ≠ gb132 ∧ k_ ≠ gb152)) (Kd.R_types (Kd.R_types (Kd.R_apart' (HO164.out) (Kd.N_typed HO148.out) (by decide)) BK132.out (by decide)) BK152.out (by decide)) (fun k_ hk => by first | exact ⟨(.inr (hk.1.1.1.1.1.1.1.1.1)), ⟨hk.1.1.2, ⟨hk.1.2, hk.2⟩⟩⟩ | exact hk | grind))).2.1 (Kd.R_F (Kd.R_mono (ok' := (fun k_ => (P0_9_ k_ ∨ w.heap.size ≤ k_) ∧ k_ ≠ gb132 ∧ k_ ≠ gb152)) (Kd.R_types (Kd.R_types (Kd.R_apart' (HO164.out) (Kd.N_typed HO148.out) (by decide)) BK132.out (by decide)) BK152.out (by decide)) (fun k_ hk => by first | exact ⟨(.inr (hk.1.1.1.1.1.1.1.1.1)), ⟨hk.1.1.2, ⟨hk.1.2, hk.2⟩⟩⟩ | exact hk | grind))))) (Reps.one (show Kd.FK (Kd.slice 5 (Kd.int .u8)) _ _ t165 [.slice Ao68 t165.length co68] from (Kd.FK_slice_mk (Kd.R_reads' (Kd.R_mono (ok' := (fun k_ => (P0_9_ k_ ∨ w.heap.size ≤ k_) ∧ k_ ≠ gb132 ∧ k_ ≠ gb152)) (Kd.R_types (Kd.R_types (Kd.R_apart' (HO167.out) (Kd.N_typed HO148.out) (by decide)) BK132.out (by decide)) BK152.out (by decide)) (fun k_ hk => by first | exact ⟨(.inr (hk.1.1.1.1.1.1.1.1.1)), ⟨hk.1.1.2, ⟨hk.1.2, hk.2⟩⟩⟩ | exact hk | grind))).2.1 (Kd.R_F (Kd.R_mono (ok' := (fun k_ => (P0_9_ k_ ∨ w.heap.size ≤ k_) ∧ k_ ≠ gb132 ∧ k_ ≠ gb152)) (Kd.R_types (Kd.R_types (Kd.R_apart' (HO167.out) (Kd.N_typed HO148.out) (by decide)) BK132.out (by decide)) BK152.out (by decide)) (fun k_ hk => by first | exact ⟨(.inr (hk.1.1.1.1.1.1.1.1.1)), ⟨hk.1.1.2, ⟨hk.1.2, hk.2⟩⟩⟩ | exact hk | grind))))) (Reps.one (show Kd.FK (Kd.slice 5 (Kd.int .u8)) _ _ l0_9 [.slice A0_9 l0_9.length c0_9] from (Kd.FK_slice_mk (Kd.V_reads' (Kd.V_mono (ok' := (fun k_ => (P0_9_ k_ ∨ w.heap.size ≤ k_) ∧ k_ ≠ gb132 ∧ k_ ≠ gb152)) (HO_133009.out) (fun k_ hk => by first | exact ⟨hk.1.1.1.1.1.1, ⟨hk.1.1.1.1.1.2.1, ⟨hk.1.1.1.1.1.2.2.2.1, hk.1.1.1.1.1.2.2.2.2⟩⟩⟩ | exact hk | grind))).2.1 (Kd.V_F (Kd.V_mono (ok' := (fun k_ => (P0_9_ k_ ∨ w.heap.size ≤ k_) ∧ k_ ≠ gb132 ∧ k_ ≠ gb152)) (HO_133009.out) (fun k_ hk => by first | exact ⟨hk.1.1.1.1.1.1, ⟨hk.1.1.1.1.1.2.1, ⟨hk.1.1.1.1.1.2.2.2.1, hk.1.1.1.1.1.2.2.2.2⟩⟩⟩ | exact hk | grind))))) (Reps.none _ _)))))))))
     intro v169 w69 ho70 hb hg_ hnew_
     clear hg_ hnew_
     (first | rw [← Ny168.out] at ho70 | (simp only [Int.reduceToNat] at ho70; rw [← Ny168.out] at ho70))
     replace HO_133009 := zA (Kd.V_elder' (by (with_reducible repeat (first | apply Kd.V_alloc | apply Kd.V_drewN | apply Kd.V_drew)); first | exact HO_133009.out | exact Kd.V_mono HO_133009.out (fun _ hk => by grind)) (by first | exact Kd.N_base ho70 | exact Kd.N_base (Kd.S_N ho70)) hb)
     replace HO148 := zA (Kd.N_elder' (by (with_reducible repeat (first | apply Kd.N_alloc | apply Kd.N_drewN | apply Kd.N_drew)); first | exact HO148.out | exact Kd.N_mono HO148.out (fun _ hk => by grind)) (by first | exact Kd.N_base ho70 | exact Kd.N_base (Kd.S_N ho70)) hb)
     have HO170 := zA (Kd.N_lower ho70 bels)
     replace BK132 := zA (blk_below (g := gb132) (o := .cells #[.int .i64 a0_0, .int .i64 a0_1, .int .i64 a0_2, .int .i64 a0_3, .int .i64 a0_4, .int .i64 a0_5, .int .i64 a0_6, .bool false, .int .i64 a0_8, .slice A0_9 l0_9.length c0_9] 28 (0, 0)) (blk_g BK132.out) hb)
     replace BK152 := zA (blk_below (g := gb152) (o := .cells #[.int .i64 a0_2, .int .i64 a0_3, .int .i64 a0_4] 25 (0, 0)) (blk_g BK152.out) hb)
     replace HB := zA (belt hb)
     clear HO151 HO155 HO158 HO161 HO164 HO167
     clear hb ho70
     obtain ⟨Ao71, co71, eo71⟩ := Kd.N_slice HO170.out
     (first | subst eo71 | (injection eo71 with f1_ f2_ f3_; have f4_ := f1_.symm; have f5_ := f3_.symm; clear f1_ f2_ f3_; subst f4_; subst f5_))
     refine hK.out _ _ (ap3 (bx3 BK152.out) ((bx10 BK132.out))) (fun hHeld => ?_)
     clear hK K
     refine norm_ (a' := ?_) ?_ ?_
     rotate_left
     ·show Act.put _ (some 49) _ = _
      simp only [Act.put, sx]
      rfl
     refine one_ (i := 19) (N := some 50) (ms 21 1048575) rfl rfl (one_of HT_.out (by kernel_rfl)) (by decide) (fun K hK => ?_)
     refine goes_ Try.func29 (by kernel_rfl) rfl #[.slice Ao71 y168.length co71] (by rfl) rfl rfl (by (try simp only [List.map_toArray, List.map_cons, List.map_nil]); first | done | rfl | (simp only [List.length_drop, List.length_take]; rfl)) ?_
     with_reducible refine (cat_bb.calls kj3 _ _ y168 t171 _ ?side1 ?side2 A36.out).mono ?_
     (case side1 => repeat (first | exact (Kd.N_reads' HO170.out).2.2 | (with_reducible refine Kd.C_alloc ?_ _) | (with_reducible refine Kd.C_drewN ?_ _) | (with_reducible refine Kd.C_drew ?_)))
     (case side2 => exact (Kd.N_reads' HO170.out).2.1)
     rintro e w72 ⟨v172, rfl, ho0, hb⟩
     refine ⟨_, rfl, ?_⟩
     replace HO_133009 := zA (Kd.V_elder' (by (with_reducible repeat (first | apply Kd.V_alloc | apply Kd.V_drewN | apply Kd.V_drew)); first | exact HO_133009.out | exact Kd.V_mono HO_133009.out (fun _ hk => by grind)) (Kd.R_base ho0) hb)
     replace HO148 := zA (Kd.N_elder' (by (with_reducible repeat (first | apply Kd.N_alloc | apply Kd.N_drewN | apply Kd.N_drew)); first | exact HO148.out | exact Kd.N_mono HO148.out (fun _ hk => by grind)) (Kd.R_base ho0) hb)
     replace HO170 := zA (Kd.N_elder' (by (with_reducible repeat (first | apply Kd.N_alloc | apply Kd.N_drewN | apply Kd.N_drew)); first | exact HO170.out | exact Kd.N_mono HO170.out (fun _ hk => by grind)) (Kd.R_base ho0) hb)
     have HO173 := zA (Kd.R_lower (Kd.R_newM (M := fun k_ => (w.heap.size ≤ k_)) ho0 bels (fun k_ h_ => h_)) bels)
     replace BK132 := zA (blk_below (g := gb132) (o := .cells #[.int .i64 a0_0, .int .i64 a0_1, .int .i64 a0_2, .int .i64 a0_3, .int .i64 a0_4, .int .i64 a0_5, .int .i64 a0_6, .bool false, .int .i64 a0_8, .slice A0_9 l0_9.length c0_9] 28 (0, 0)) (blk_g BK132.out) hb)
     replace BK152 := zA (blk_below (g := gb152) (o := .cells #[.int .i64 a0_2, .int .i64 a0_3, .int .i64 a0_4] 25 (0, 0)) (blk_g BK152.out) hb)
     replace HB := zA (belt hb)
     (try clear hb)
     (try clear hb2)
     (try clear hk)
     (try clear hi)
     (try clear ho0)
     refine hK.out _ _ (ap3 (bx3 BK152.out) ((bx10 BK132.out))) (fun hHeld => ?_)
     clear hK K
     refine norm_ (a' := ?_) ?_ ?_
     rotate_left
     ·show Act.put _ (some 50) _ = _
      simp only [Act.put, sx]
      rfl
     refine pure_ (i := 20) (N := some 2) (v := ?_) (a' := ?_) (ms 21 2097151) rfl rfl (any_of HT_.out (by kernel_rfl)) (fun _ _ _ h => h) (Or.inl ⟨by rfl, ?_⟩) ?_ ?_
     rotate_left
     ·intro w'
      go_simp
      with_reducible rfl
     rotate_left
     ·simp only [Act.put, sx]
      rfl
     refine done_ (done_of HT_.out (by kernel_rfl)) ?_
     try go_wp2
     go_ret
     exact ⟨_, by first | rfl | (simp [errW_none, errW_some] <;> rfl) | (simp [*, errW_none, errW_some] <;> rfl), by (with_reducible repeat (first | apply Kd.R_alloc | apply Kd.R_drewN | apply Kd.R_drew)); exact Kd.R_mono HO173.out (fun _ hk => by first | exact hk.1 | exact hk | grind), bel⟩
 ·replace c3 := Bool.eq_false_iff.mpr c3
  subst c3
  have H1 : (some ([] : List Int)) = some r := by rw [if_neg (show ¬ (false = true) by decide)] at H; exact H
  clear H
  have H := H1
  clear H1
  obtain rfl := Option.some.inj H
  go_enter Try.func11, Try.ntmps11
  go_wp2_with (first | ((with_reducible refine gate_dst (N := 1) rfl ?_); refine box_event ?hg (N := 1) ?hd (cs := #[.int .i64 a0_0, .int .i64 a0_1, .int .i64 a0_2, .int .i64 a0_3, .int .i64 a0_4, .int .i64 a0_5, .int .i64 a0_6, .bool a0_7, .int .i64 a0_8, .slice A0_9 l0_9.length c0_9]) (t := 28) ?hr ?_; (case hd => rfl); (case hg => rfl); (case hr => first | (go_simp; done) | (go_simp; rfl)); intro gb132 hg w73 hbox hb; replace HO0_9 := zA (Kd.V_below (Kd.V_elderB (by (with_reducible repeat (first | apply Kd.V_alloc | apply Kd.V_drewN | apply Kd.V_drew)); first | exact HO0_9.out | exact Kd.V_mono HO0_9.out (fun _ hk => by grind)) gb132 (Nat.le_of_eq hg.symm)) hb); have BK132 := zA (hbox); have GW132 := zA ((by rw [hg]; exact bels : w.heap.size ≤ gb132)); have GE132 := zA ((by rw [hg]; exact bels : w.heap.size ≤ gb132)); replace HB := zA (belt hb); clear hb hbox hg; obtain ⟨hcz74_0, hcz74_1, hcz74_2, hcz74_3, hcz74_4, hcz74_5, hcz74_6, hcz74_7, hcz74_8, hcz74_9⟩ := bx10 BK132.out; obtain ⟨hfz74_0, hfz74_1, hfz74_2, hfz74_3, hfz74_4, hfz74_5, hfz74_6, hfz74_7, hfz74_8, hfz74_9⟩ := fz10 BK132.out) | ((with_reducible refine gate_callee (f := 14) rfl ?_); refine goesL_ (some 7) rfl rfl Try.func14 (by kernel_rfl) rfl #[.agg #[.int .i64 a0_0, .int .i64 a0_1, .int .i64 a0_2, .int .i64 a0_3, .int .i64 a0_4, .int .i64 a0_5, .int .i64 a0_6, .bool a0_7, .int .i64 a0_8, .slice A0_9 l0_9.length c0_9]] rfl (by (try simp only [List.map_toArray, List.map_cons, List.map_nil]); first | done | rfl | (simp only [List.length_drop, List.length_take]; rfl)) ?_; (with_reducible refine (record_Right.calls k a0_0 a0_1 a0_2 a0_3 a0_4 a0_5 a0_6 a0_7 a0_8 _ _ l0_9 false _ ?side1 ?side2 A2.out).mono ?_); (case side1 => repeat (first | exact (Kd.V_reads' HO0_9.out).2.2 | (with_reducible refine Kd.C_alloc ?_ _) | (with_reducible refine Kd.C_drewN ?_ _) | (with_reducible refine Kd.C_drew ?_))); (case side2 => exact (Kd.V_reads' HO0_9.out).2.1); rintro e w75 ⟨rfl, hb⟩; refine ⟨_, rfl, ?_⟩; replace HO0_9 := zA (Kd.V_below (by (with_reducible repeat (first | apply Kd.V_alloc | apply Kd.V_drewN | apply Kd.V_drew)); first | exact HO0_9.out | exact Kd.V_mono HO0_9.out (fun _ hk => by grind)) hb); replace BK132 := zA (blk_below (g := gb132) (o := .cells #[.int .i64 a0_0, .int .i64 a0_1, .int .i64 a0_2, .int .i64 a0_3, .int .i64 a0_4, .int .i64 a0_5, .int .i64 a0_6, .bool a0_7, .int .i64 a0_8, .slice A0_9 l0_9.length c0_9] 28 (0, 0)) (blk_g BK132.out) hb); replace HB := zA (belt hb)))
  go_ret
  exact ⟨_, by first | rfl | (simp [errW_none, errW_some] <;> rfl) | (simp [*, errW_none, errW_some] <;> rfl), by first | exact Kd.R_nil _ _ _ _ _ | exact Kd.N_nil _ _ _ _ _ | exact Kd.V_nil _ _ _ _ _ | exact Kd.Q_nil _ _ _ _ _ | exact Kd.S_nil _ _ _ _ _, bel⟩
end Go.Proofs.Ytjcfmfdkligmoaa.PRecordTells
