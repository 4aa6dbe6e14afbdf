/- Written by a program (this session's own): functions that the law reaches, as plain Lean functions, each with the proof that the code comes to it. No conditions but those that stand in the theorems. -/
import Derived.Test.YtjcfmfdkligmoaaPRecordTellsx5
import Derived.Test.YtjcfmfdkligmoaaPRecordTellsx6
import Derived.Test.YtjcfmfdkligmoaaLt
import Derived.Test.YtjcfmfdkligmoaaPLetterLimitsx0
set_option maxHeartbeats 8000000
set_option maxRecDepth 100000
namespace Go.Proofs.Ytjcfmfdkligmoaa.PLetterLimits
open Go.RowKit Go.Proofs.YtjcfmfdkligmoaaW.PrintWords Go.Proofs.YtjcfmfdkligmoaaW.PrintLast Go.Proofs.YtjcfmfdkligmoaaW.PrintMore Go.Proofs.Ytjcfmfdkligmoaa.PRecordTells
attribute [local go_sem] max2_int min2_int max_two min_two max_three min_three max_four min_four
set_option linter.unusedVariables false
set_option linter.unusedSimpArgs false
mutual
def letter_Bytes.l0 : Nat → List Int → List Int → Int → Int → Int → Int → Int → Int → Int → Int → List Int → List (S28) → Option (List Int)
  | 0, _, _, _, _, _, _, _, _, _, _, _, _ => none
  | k + 1, x3, x19, x20, x21, x183000, x183001, x183002, x183003, x183004, x183005, x183006, x183007 => if x21 < x20 then (if 0 ≤ x21 then (if x21 < (x19.length : Int) then ((record_Number.f k (rd x19 x21) 4).bind fun t191 => (if x3.length + t191.length < 140737488355328 then (letter_Bytes.l0 k (x3 ++ t191) x19 x20 (wrap64 (x21 + 1)) x183000 x183001 x183002 x183003 x183004 x183005 x183006 x183007) else (none))) else (none)) else (none)) else (if x3.length < 140737488355328 then (letter_Bytes.l1 k (x3 ++ [((x183006.length : Int)) % 256]) x183006 (x183006.length : Int) 0 x183000 x183001 x183002 x183003 x183004 x183005 x183006 x183007) else (none))
def letter_Bytes.l1 : Nat → List Int → List Int → Int → Int → Int → Int → Int → Int → Int → Int → List Int → List (S28) → Option (List Int)
  | 0, _, _, _, _, _, _, _, _, _, _, _, _ => none
  | k + 1, x3, x38, x39, x40, x183000, x183001, x183002, x183003, x183004, x183005, x183006, x183007 => if x40 < x39 then (if 0 ≤ x40 then (if x40 < (x38.length : Int) then ((record_Number.f k (rd x38 x40) 4).bind fun t201 => (if x3.length + t201.length < 140737488355328 then (letter_Bytes.l1 k (x3 ++ t201) x38 x39 (wrap64 (x40 + 1)) x183000 x183001 x183002 x183003 x183004 x183005 x183006 x183007) else (none))) else (none)) else (none)) else (if x3.length < 140737488355328 then (letter_Bytes.l2 k (x3 ++ [((x183007.length : Int)) % 256]) x183007 (x183007.length : Int) 0) else (none))
def letter_Bytes.l2 : Nat → List Int → List (S28) → Int → Int → Option (List Int)
  | 0, _, _, _, _ => none
  | k + 1, x3, x57, x58, x59 => if x59 < x58 then (if 0 ≤ x59 then (if x59 < (x57.length : Int) then ((record_Bytes.f k ((rd_T28 x57 x59).f0.f0) ((rd_T28 x57 x59).f0.f1) ((rd_T28 x57 x59).f1.f0) ((rd_T28 x57 x59).f1.f1) ((rd_T28 x57 x59).f1.f2) ((rd_T28 x57 x59).f2) ((rd_T28 x57 x59).f3) ((rd_T28 x57 x59).f4) ((rd_T28 x57 x59).f5) ((rd_T28 x57 x59).f6)).bind fun t212 => ((record_Number.f k (t212.length : Int) 2).bind fun t215 => (if x3.length + t215.length < 140737488355328 then ((some (x3 ++ t215 : List Int)).bind fun y218 => (if y218.length + t212.length < 140737488355328 then (letter_Bytes.l2 k (y218 ++ t212) x57 x58 (wrap64 (x59 + 1))) else (none))) else (none)))) else (none)) else (none)) else (some x3)
end
def letter_Bytes.f (k : Nat) (a0_0 : Int) (a0_1 : Int) (a0_2 : Int) (a0_3 : Int) (a0_4 : Int) (a0_5 : Int) (l0_6 : List Int) (l0_7 : List (S28)) : Option (List Int) := (Lt.right.f a0_0 a0_1 a0_2 a0_3 a0_4 a0_5 l0_6 l0_7).bind fun t183 => (if t183 = true then ((letter_numbers.f a0_0 a0_1 a0_2 a0_3 a0_4 a0_5 l0_6 l0_7).bind fun t187 => (letter_Bytes.l0 k (([(a0_0) % 256] : List Int)) t187 (t187.length : Int) 0 a0_0 a0_1 a0_2 a0_3 a0_4 a0_5 l0_6 l0_7)) else (some ([] : List Int)))
theorem letter_Bytes.mono_l : ∀ k, (∀ y0 y1 y2 y3 y4 y5 y6 y7 y8 y9 y10 y11, LeO (letter_Bytes.l0 k y0 y1 y2 y3 y4 y5 y6 y7 y8 y9 y10 y11) (letter_Bytes.l0 (k + 1) y0 y1 y2 y3 y4 y5 y6 y7 y8 y9 y10 y11)) ∧ (∀ y0 y1 y2 y3 y4 y5 y6 y7 y8 y9 y10 y11, LeO (letter_Bytes.l1 k y0 y1 y2 y3 y4 y5 y6 y7 y8 y9 y10 y11) (letter_Bytes.l1 (k + 1) y0 y1 y2 y3 y4 y5 y6 y7 y8 y9 y10 y11)) ∧ (∀ y0 y1 y2 y3, LeO (letter_Bytes.l2 k y0 y1 y2 y3) (letter_Bytes.l2 (k + 1) y0 y1 y2 y3))
  | 0 => ⟨fun _ _ _ _ _ _ _ _ _ _ _ _ r h => by simp [letter_Bytes.l0] at h, fun _ _ _ _ _ _ _ _ _ _ _ _ r h => by simp [letter_Bytes.l1] at h, fun _ _ _ _ r h => by simp [letter_Bytes.l2] at h⟩
  | k + 1 => by
    obtain ⟨ih0, ih1, ih2⟩ := letter_Bytes.mono_l k
    refine ⟨?_, ?_, ?_⟩
    · intro y0 y1 y2 y3 y4 y5 y6 y7 y8 y9 y10 y11
      unfold letter_Bytes.l0
      repeat' first
      | (with_reducible exact ih0 _ _ _ _ _ _ _ _ _ _ _ _)
      | (with_reducible exact ih1 _ _ _ _ _ _ _ _ _ _ _ _)
      | (with_reducible exact ih2 _ _ _ _)
      | (with_reducible exact record_Bytes.mono _ _ _ _ _ _ _ _ _ _ _)
      | (with_reducible exact record_Number.mono _ _ _)
      | (with_reducible exact LeO.refl _)
      | (with_reducible exact LeO.none _)
      | (with_reducible refine LeO.ite ?_ ?_)
      | (with_reducible refine LeO.bind ?_ (fun _ => ?_))
      | exact ih0 _ _ _ _ _ _ _ _ _ _ _ _
      | exact ih1 _ _ _ _ _ _ _ _ _ _ _ _
      | exact ih2 _ _ _ _
      | exact record_Bytes.mono _ _ _ _ _ _ _ _ _ _ _
      | exact record_Number.mono _ _ _
      | exact LeO.none _
      | refine LeO.ite ?_ ?_
      | refine LeO.bind ?_ (fun _ => ?_)
    · intro y0 y1 y2 y3 y4 y5 y6 y7 y8 y9 y10 y11
      unfold letter_Bytes.l1
      repeat' first
      | (with_reducible exact ih0 _ _ _ _ _ _ _ _ _ _ _ _)
      | (with_reducible exact ih1 _ _ _ _ _ _ _ _ _ _ _ _)
      | (with_reducible exact ih2 _ _ _ _)
      | (with_reducible exact record_Bytes.mono _ _ _ _ _ _ _ _ _ _ _)
      | (with_reducible exact record_Number.mono _ _ _)
      | (with_reducible exact LeO.refl _)
      | (with_reducible exact LeO.none _)
      | (with_reducible refine LeO.ite ?_ ?_)
      | (with_reducible refine LeO.bind ?_ (fun _ => ?_))
      | exact ih0 _ _ _ _ _ _ _ _ _ _ _ _
      | exact ih1 _ _ _ _ _ _ _ _ _ _ _ _
      | exact ih2 _ _ _ _
      | exact record_Bytes.mono _ _ _ _ _ _ _ _ _ _ _
      | exact record_Number.mono _ _ _
      | exact LeO.none _
      | refine LeO.ite ?_ ?_
      | refine LeO.bind ?_ (fun _ => ?_)
    · intro y0 y1 y2 y3
      unfold letter_Bytes.l2
      repeat' first
      | (with_reducible exact ih0 _ _ _ _ _ _ _ _ _ _ _ _)
      | (with_reducible exact ih1 _ _ _ _ _ _ _ _ _ _ _ _)
      | (with_reducible exact ih2 _ _ _ _)
      | (with_reducible exact record_Bytes.mono _ _ _ _ _ _ _ _ _ _ _)
      | (with_reducible exact record_Number.mono _ _ _)
      | (with_reducible exact LeO.refl _)
      | (with_reducible exact LeO.none _)
      | (with_reducible refine LeO.ite ?_ ?_)
      | (with_reducible refine LeO.bind ?_ (fun _ => ?_))
      | exact ih0 _ _ _ _ _ _ _ _ _ _ _ _
      | exact ih1 _ _ _ _ _ _ _ _ _ _ _ _
      | exact ih2 _ _ _ _
      | exact record_Bytes.mono _ _ _ _ _ _ _ _ _ _ _
      | exact record_Number.mono _ _ _
      | exact LeO.none _
      | refine LeO.ite ?_ ?_
      | refine LeO.bind ?_ (fun _ => ?_)
theorem letter_Bytes.mono : ∀ a0 a1 a2 a3 a4 a5 a6 a7 k, LeO (letter_Bytes.f k a0 a1 a2 a3 a4 a5 a6 a7) (letter_Bytes.f (k + 1) a0 a1 a2 a3 a4 a5 a6 a7) := by
  intro a0 a1 a2 a3 a4 a5 a6 a7 k
  obtain ⟨ih0, ih1, ih2⟩ := letter_Bytes.mono_l k
  unfold letter_Bytes.f
  repeat' first
      | (with_reducible exact ih0 _ _ _ _ _ _ _ _ _ _ _ _)
      | (with_reducible exact ih1 _ _ _ _ _ _ _ _ _ _ _ _)
      | (with_reducible exact ih2 _ _ _ _)
      | (with_reducible exact record_Bytes.mono _ _ _ _ _ _ _ _ _ _ _)
      | (with_reducible exact record_Number.mono _ _ _)
      | (with_reducible exact LeO.refl _)
      | (with_reducible exact LeO.none _)
      | (with_reducible refine LeO.ite ?_ ?_)
      | (with_reducible refine LeO.bind ?_ (fun _ => ?_))
      | exact ih0 _ _ _ _ _ _ _ _ _ _ _ _
      | exact ih1 _ _ _ _ _ _ _ _ _ _ _ _
      | exact ih2 _ _ _ _
      | exact record_Bytes.mono _ _ _ _ _ _ _ _ _ _ _
      | exact record_Number.mono _ _ _
      | exact LeO.none _
      | refine LeO.ite ?_ ?_
      | refine LeO.bind ?_ (fun _ => ?_)
theorem letter_Bytes.calls (k : Nat) (a0_0 : Int) (a0_1 : Int) (a0_2 : Int) (a0_3 : Int) (a0_4 : Int) (a0_5 : Int) (A0_6 : Option Addr) (c0_6 : Nat) (l0_6 : List Int) (A0_7 : Option Addr) (c0_7 : Nat) (l0_7 : List (S28)) (r : List Int) (w : World) (hr0_6 : Kd.C (Kd.int .i64) w A0_6 l0_6.length l0_6) (hc0_6 : l0_6.length ≤ c0_6) (hr0_7 : Kd.C k28 w A0_7 l0_7.length l0_7) (hc0_7 : l0_7.length ≤ c0_7) (h : letter_Bytes.f k a0_0 a0_1 a0_2 a0_3 a0_4 a0_5 l0_6 l0_7 = some r) :
    Calls Try.prog 20 #[.agg #[.int .i64 a0_0, .int .i64 a0_1, .int .i64 a0_2, .int .i64 a0_3, .int .i64 a0_4, .int .i64 a0_5, .slice A0_6 l0_6.length c0_6, .slice A0_7 l0_7.length c0_7]] w fun e w' => ∃ v0_ : Value, e = .returned (v0_) ∧ Kd.R (Kd.int .u8) 5 w' w.heap.size (fun _ => True) v0_ r ∧ Below w.heap.size w w' := by
  have hu45 := Try.underlying45
  have hu28 := Try.underlying28
  have HR0_6 := zA hr0_6
  have HC0_6 := zA hc0_6
  clear hr0_6 hc0_6
  have HR0_7 := zA hr0_7
  have HC0_7 := zA hc0_7
  clear hr0_7 hc0_7
  have HB := zA (Below.refl w.heap.size w)
  have H : ((Lt.right.f a0_0 a0_1 a0_2 a0_3 a0_4 a0_5 l0_6 l0_7).bind fun t183 => (if t183 = true then ((letter_numbers.f a0_0 a0_1 a0_2 a0_3 a0_4 a0_5 l0_6 l0_7).bind fun t187 => (letter_Bytes.l0 k (([(a0_0) % 256] : List Int)) t187 (t187.length : Int) 0 a0_0 a0_1 a0_2 a0_3 a0_4 a0_5 l0_6 l0_7)) else (some ([] : List Int)))) = some r := h
  clear h
  replace H := Option.bind_eq_some_iff.mp H
  obtain ⟨t183, A20, H⟩ := H
  replace H : (if t183 = true then ((letter_numbers.f a0_0 a0_1 a0_2 a0_3 a0_4 a0_5 l0_6 l0_7).bind fun t187 => (letter_Bytes.l0 k (([(a0_0) % 256] : List Int)) t187 (t187.length : Int) 0 a0_0 a0_1 a0_2 a0_3 a0_4 a0_5 l0_6 l0_7)) else (some ([] : List Int))) = some r := H
  have A2 := zA A20
  clear A20
  by_cases c3 : t183 = true
  · subst c3
    have H1 : ((letter_numbers.f a0_0 a0_1 a0_2 a0_3 a0_4 a0_5 l0_6 l0_7).bind fun t187 => (letter_Bytes.l0 k (([(a0_0) % 256] : List Int)) t187 (t187.length : Int) 0 a0_0 a0_1 a0_2 a0_3 a0_4 a0_5 l0_6 l0_7)) = some r := by rw [if_pos rfl] at H; exact H
    clear H
    have H := H1
    clear H1
    obtain ⟨y184, hy184⟩ : ∃ y_ : List Int, y_ = (([(a0_0) % 256] : List Int)) := ⟨_, rfl⟩
    replace H : ((letter_numbers.f a0_0 a0_1 a0_2 a0_3 a0_4 a0_5 l0_6 l0_7).bind fun t187 => (letter_Bytes.l0 k y184 t187 (t187.length : Int) 0 a0_0 a0_1 a0_2 a0_3 a0_4 a0_5 l0_6 l0_7)) = some r := zC H hy184
    have Ny184 := zA hy184
    clear hy184
    replace H := Option.bind_eq_some_iff.mp H
    obtain ⟨t187, A40, H⟩ := H
    replace H : (letter_Bytes.l0 k y184 t187 (t187.length : Int) 0 a0_0 a0_1 a0_2 a0_3 a0_4 a0_5 l0_6 l0_7) = some r := H
    have A4 := zA A40
    clear A40
    have H' := zA H
    clear H
    go_enter Try.func20, Try.ntmps20
    go_wp2_with (first | ((with_reducible refine gate_dst (N := 1) rfl ?_); refine box_event ?hg (N := 1) ?hd (cs := #[.int .i64 a0_0, .int .i64 a0_1, .int .i64 a0_2, .int .i64 a0_3, .int .i64 a0_4, .int .i64 a0_5, .slice A0_6 l0_6.length c0_6, .slice A0_7 l0_7.length c0_7]) (t := 45) ?hr ?_; (case hd => rfl); (case hg => rfl); (case hr => first | (go_simp; done) | (go_simp; rfl)); intro gb182 hg w5 hbox hb; have BK182 := zA (hbox); have GW182 := zA ((by rw [hg]; exact (below_size (by repeat (first | (with_reducible first | exact HB.out | apply below_alloc | apply pw_below_drewN | apply below_drew1) | exact HB.out))) : w.heap.size ≤ gb182)); have GE182 := zA ((by rw [hg]; exact (below_size (by repeat (first | (with_reducible first | exact HB.out | apply below_alloc | apply pw_below_drewN | apply below_drew1) | exact HB.out))) : w.heap.size ≤ gb182)); replace HB := zA (below_step (by repeat (first | (with_reducible first | exact HB.out | apply below_alloc | apply pw_below_drewN | apply below_drew1) | exact HB.out)) hb); clear hb hbox hg; obtain ⟨hcz6_0, hcz6_1, hcz6_2, hcz6_3, hcz6_4, hcz6_5, hcz6_6, hcz6_7⟩ := bx8 BK182.out; obtain ⟨hfz6_0, hfz6_1, hfz6_2, hfz6_3, hfz6_4, hfz6_5, hfz6_6, hfz6_7⟩ := fz8 BK182.out) | ((with_reducible refine gate_callee (f := 39) rfl ?_); refine goesL_ (some 12) rfl rfl Try.func39 (by kernel_rfl) rfl #[.agg #[.int .i64 a0_0, .int .i64 a0_1, .int .i64 a0_2, .int .i64 a0_3, .int .i64 a0_4, .int .i64 a0_5, .slice A0_6 l0_6.length c0_6, .slice A0_7 l0_7.length c0_7]] rfl (by (try simp only [List.map_toArray, List.map_cons, List.map_nil]); first | done | rfl | (simp only [List.length_drop, List.length_take]; rfl)) ?_; (with_reducible refine (Lt.right.calls a0_0 a0_1 a0_2 a0_3 a0_4 a0_5 _ _ l0_6 _ _ l0_7 true _ ?side1 ?side2 ?side3 ?side4 A2.out).mono ?_); (case side1 => repeat (first | exact (Kd.C_below HR0_6.out HB.out) | (with_reducible refine Kd.C_alloc ?_ _) | (with_reducible refine Kd.C_drewN ?_ _) | (with_reducible refine Kd.C_drew ?_))); (case side2 => exact HC0_6.out); (case side3 => repeat (first | exact (Kd.C_below HR0_7.out HB.out) | (with_reducible refine Kd.C_alloc ?_ _) | (with_reducible refine Kd.C_drewN ?_ _) | (with_reducible refine Kd.C_drew ?_))); (case side4 => exact HC0_7.out); rintro e w7 ⟨rfl, hb⟩; refine ⟨_, rfl, ?_⟩; replace BK182 := zA (blk_below (g := gb182) (o := .cells #[.int .i64 a0_0, .int .i64 a0_1, .int .i64 a0_2, .int .i64 a0_3, .int .i64 a0_4, .int .i64 a0_5, .slice A0_6 l0_6.length c0_6, .slice A0_7 l0_7.length c0_7] 45 (0, 0)) (rdB BK182.out) hb); replace HB := zA (below_step (by repeat (first | (with_reducible first | exact HB.out | apply below_alloc | apply pw_below_drewN | apply below_drew1 | refine below_set ?_ GE182.out) | exact HB.out)) hb); obtain ⟨hcz8_0, hcz8_1, hcz8_2, hcz8_3, hcz8_4, hcz8_5, hcz8_6, hcz8_7⟩ := bx8 BK182.out; obtain ⟨hfz8_0, hfz8_1, hfz8_2, hfz8_3, hfz8_4, hfz8_5, hfz8_6, hfz8_7⟩ := fz8 BK182.out) | ((with_reducible refine gate_dst (N := 17) rfl ?_); refine Kd.R_lit (Kd.int .u8) _ 5 ?hg (N := 17) ?hd (xs := ([(a0_0) % 256] : List Int)) (inner := [.int .u8 ((a0_0) % 256)]) (ok := fun _ => True) (okp := fun _ => True) ?hr ?hp (fun _ hk => hk) trivial (Below.refl _ _) (Nat.le_refl _) (by simp) ?_; (case hd => rfl); (case hg => rfl); (case hr => first | (go_simp; done) | (go_simp; rfl)); (case hp => exact (Reps.one (show Kd.M (Kd.int .u8) _ _ _ ((a0_0) % 256) [.int .u8 ((a0_0) % 256)] from rfl) (Reps.none _ _))); intro v185 w9 ho10 hb hg_ hnew_; clear hg_ hnew_; (first | rw [← Ny184.out] at ho10 | (simp only [Int.reduceToNat] at ho10; rw [← Ny184.out] at ho10)); have HO186 := zA (Kd.R_lower ho10 (below_size (by repeat (first | (with_reducible first | exact HB.out | apply below_alloc | apply pw_below_drewN | apply below_drew1 | refine below_set ?_ GE182.out) | exact HB.out)))); replace BK182 := zA (blk_below (g := gb182) (o := .cells #[.int .i64 a0_0, .int .i64 a0_1, .int .i64 a0_2, .int .i64 a0_3, .int .i64 a0_4, .int .i64 a0_5, .slice A0_6 l0_6.length c0_6, .slice A0_7 l0_7.length c0_7] 45 (0, 0)) (rdB BK182.out) hb); replace HB := zA (below_step (by repeat (first | (with_reducible first | exact HB.out | apply below_alloc | apply pw_below_drewN | apply below_drew1 | refine below_set ?_ GE182.out) | exact HB.out)) hb); clear hb ho10; obtain ⟨hcz11_0, hcz11_1, hcz11_2, hcz11_3, hcz11_4, hcz11_5, hcz11_6, hcz11_7⟩ := bx8 BK182.out; obtain ⟨hfz11_0, hfz11_1, hfz11_2, hfz11_3, hfz11_4, hfz11_5, hfz11_6, hfz11_7⟩ := fz8 BK182.out) | ((with_reducible refine gate_callee (f := 40) rfl ?_); refine goesL_ (some 19) rfl rfl Try.func40 (by kernel_rfl) rfl #[.agg #[.int .i64 a0_0, .int .i64 a0_1, .int .i64 a0_2, .int .i64 a0_3, .int .i64 a0_4, .int .i64 a0_5, .slice A0_6 l0_6.length c0_6, .slice A0_7 l0_7.length c0_7]] rfl (by (try simp only [List.map_toArray, List.map_cons, List.map_nil]); first | done | rfl | (simp only [List.length_drop, List.length_take]; rfl)) ?_; (with_reducible refine (letter_numbers.calls a0_0 a0_1 a0_2 a0_3 a0_4 a0_5 _ _ l0_6 _ _ l0_7 t187 _ ?side1 ?side2 ?side3 ?side4 A4.out).mono ?_); (case side1 => repeat (first | exact (Kd.C_below HR0_6.out HB.out) | (with_reducible refine Kd.C_alloc ?_ _) | (with_reducible refine Kd.C_drewN ?_ _) | (with_reducible refine Kd.C_drew ?_))); (case side2 => exact HC0_6.out); (case side3 => repeat (first | exact (Kd.C_below HR0_7.out HB.out) | (with_reducible refine Kd.C_alloc ?_ _) | (with_reducible refine Kd.C_drewN ?_ _) | (with_reducible refine Kd.C_drew ?_))); (case side4 => exact HC0_7.out); rintro e w12 ⟨v188, rfl, ho0, hb⟩; refine ⟨_, rfl, ?_⟩; replace HO186 := zA (Kd.R_below (rdR HO186.out) hb); have HO189 := zA (Kd.R_lower ho0 (below_size (by repeat (first | (with_reducible first | exact HB.out | apply below_alloc | apply pw_below_drewN | apply below_drew1 | refine below_set ?_ GE182.out) | exact HB.out)))); replace BK182 := zA (blk_below (g := gb182) (o := .cells #[.int .i64 a0_0, .int .i64 a0_1, .int .i64 a0_2, .int .i64 a0_3, .int .i64 a0_4, .int .i64 a0_5, .slice A0_6 l0_6.length c0_6, .slice A0_7 l0_7.length c0_7] 45 (0, 0)) (rdB BK182.out) hb); replace HB := zA (below_step (by repeat (first | (with_reducible first | exact HB.out | apply below_alloc | apply pw_below_drewN | apply below_drew1 | refine below_set ?_ GE182.out) | exact HB.out)) hb); obtain ⟨Ao13, co13, eo13⟩ := Kd.R_slice HO189.out; subst eo13))
    go_loopg [3, 21] k (fun kq v3 v21 w' => ∃ (x3_1 : List Int) (x21_1 : Int), v21 = .int .i64 x21_1 ∧ Aside0 (letter_Bytes.l0 kq x3_1 t187 (t187.length : Int) x21_1 a0_0 a0_1 a0_2 a0_3 a0_4 a0_5 l0_6 l0_7 = some r) ∧ Aside0 (kq ≤ k) ∧ Aside0 (Kd.R (Kd.int .u8) 5 w' w.heap.size (fun _ => True) v3 x3_1) ∧ Aside0 (Kd.R (Kd.int .i64) 3 w' w.heap.size (fun _ => True) (.slice Ao13 t187.length co13) t187) ∧ Aside0 (w'.heap[gb182]? = some (.cells #[.int .i64 a0_0, .int .i64 a0_1, .int .i64 a0_2, .int .i64 a0_3, .int .i64 a0_4, .int .i64 a0_5, (.slice A0_6 l0_6.length c0_6), (.slice A0_7 l0_7.length c0_7)] 45 (0, 0))) ∧ Aside0 (Below w.heap.size w w'))
    case atStart => exact ⟨(y184), (0), frs, H', ⟨Nat.le_refl _⟩, ⟨rdR HO186.out⟩, ⟨rdR HO189.out⟩, ⟨rdB BK182.out⟩, ⟨by repeat (first | (with_reducible first | exact HB.out | apply below_alloc | apply pw_below_drewN | apply below_drew1 | refine below_set ?_ GE182.out) | exact HB.out)⟩⟩
    case round =>
      clear H'
      obtain ⟨x3_1, x21_1, rfl, HA, HK1, HO_3, HO_19, BK182, HB⟩ := hrel
      cases gk with
      | zero => exact absurd HA.out (by simp [letter_Bytes.l0])
      | succ k1 =>
        have H := HA.out
        clear HA
        simp only [letter_Bytes.l0] at H
        by_cases c14 : x21_1 < (t187.length : Int)
        · rw [if_pos c14] at H
          have c14b0 : decide (x21_1 < (t187.length : Int)) = true := decide_eq_true c14
          clear c14
          by_cases c15 : 0 ≤ x21_1
          · rw [if_pos c15] at H
            have c15b0 : decide (0 ≤ x21_1) = true := decide_eq_true c15
            clear c15
            by_cases c16 : x21_1 < (t187.length : Int)
            · rw [if_pos c16] at H
              have c16b0 : decide (x21_1 < (t187.length : Int)) = true := decide_eq_true c16
              clear c16
              replace H := Option.bind_eq_some_iff.mp H
              obtain ⟨t191, A170, H⟩ := H
              replace H : (if x3_1.length + t191.length < 140737488355328 then (letter_Bytes.l0 k1 (x3_1 ++ t191) t187 (t187.length : Int) (wrap64 (x21_1 + 1)) a0_0 a0_1 a0_2 a0_3 a0_4 a0_5 l0_6 l0_7) else (none)) = some r := H
              have A17 := zA A170
              clear A170
              by_cases c18 : x3_1.length + t191.length < 140737488355328
              · rw [if_pos c18] at H
                have LMc18 := zA c18
                clear c18
                obtain ⟨y194, hy194⟩ : ∃ y_ : List Int, y_ = (x3_1 ++ t191) := ⟨_, rfl⟩
                replace H : (letter_Bytes.l0 k1 y194 t187 (t187.length : Int) (wrap64 (x21_1 + 1)) a0_0 a0_1 a0_2 a0_3 a0_4 a0_5 l0_6 l0_7) = some r := zC H hy194
                have Ny194 := zA hy194
                clear hy194
                have H' := zA H
                clear H
                have p190 : 0 ≤ (x21_1 : Int) := of_decide_eq_true (by first | (with_reducible assumption) | assumption)
                have q190 : x21_1 < (t187.length : Int) := of_decide_eq_true (by first | (with_reducible assumption) | assumption)
                obtain ⟨ad190, e190, hx190_0⟩ := Kd.at_int (Kd.R_reads' HO_19.out).2.2 x21_1 p190 q190
                cases e190
                replace p190 := eq_true p190
                replace q190 := eq_true q190
                go_wp2_with (first | ((with_reducible refine gate_callee (f := 30) rfl ?_); refine goesL_ (some 27) rfl rfl Try.func30 (by kernel_rfl) rfl #[.int .i64 (rd t187 x21_1), .int .i64 4] rfl (by (try simp only [List.map_toArray, List.map_cons, List.map_nil]); first | done | rfl | (simp only [List.length_drop, List.length_take]; rfl)) ?_; (with_reducible refine (record_Number.calls k1 (rd t187 x21_1) 4 t191 _ A17.out).mono ?_); rintro e w19 ⟨v192, rfl, ho0, hb⟩; refine ⟨_, rfl, ?_⟩; replace HO_19 := zA (Kd.R_below (rdR HO_19.out) hb); have HO193 := zA (Kd.R_lower (Kd.R_new' ho0 (Kd.R_lt (rdR HO_3.out))) (below_size (by repeat (first | (with_reducible first | exact HB.out | apply below_alloc | apply pw_below_drewN | apply below_drew1 | refine below_set ?_ GE182.out) | exact HB.out)))); replace HO_3 := zA (Kd.R_elder' (rdR HO_3.out) (Kd.R_base ho0) hb); replace BK182 := zA (blk_below (g := gb182) (o := .cells #[.int .i64 a0_0, .int .i64 a0_1, .int .i64 a0_2, .int .i64 a0_3, .int .i64 a0_4, .int .i64 a0_5, .slice A0_6 l0_6.length c0_6, .slice A0_7 l0_7.length c0_7] 45 (0, 0)) (rdB BK182.out) hb); replace HB := zA (below_step (by repeat (first | (with_reducible first | exact HB.out | apply below_alloc | apply pw_below_drewN | apply below_drew1 | refine below_set ?_ GE182.out) | exact HB.out)) hb); obtain ⟨Ao21, co21, eo21⟩ := Kd.R_slice HO193.out; subst eo21) | ((with_reducible refine gate_builtin (b := .append) (xs := #[.tmp 25, .tmp 27]) rfl ?_); at_builtin; refine Kd.R_append_rows (Kd.int .u8) (w0 := w) w.heap.size rfl (.tmp 25) (.tmp 27) 26 5 (.int .u8 0) 1 rfl Try.underlying26 info5 rfl (by decide) (by omega) u3 x3_1 t191 _ _ _ (fun k_ => some k_ ≠ (.slice Ao21 t191.length co21 : Value).ownBlock) (fun _ => False) rfl rfl ?aO ?aR (fun _ _ h => h) (fun _ h => h.elim) ?aF ?aB ?aS ?aL ?_; (case aR => repeat (first | exact (Kd.R_reads' HO193.out).2.2 | (with_reducible refine Kd.C_alloc ?_ _) | (with_reducible refine Kd.C_drewN ?_ _) | (with_reducible refine Kd.C_drew ?_))); (case aB => exact (by repeat (first | (with_reducible first | exact HB.out | apply below_alloc | apply pw_below_drewN | apply below_drew1 | refine below_set ?_ GE182.out) | exact HB.out))); (case aF => exact (fun k_ hk => Kd.fresh' (Kd.R_lt (rdR HO193.out)) k_ hk)); (case aO => exact (by (with_reducible repeat (first | apply Kd.R_alloc | apply Kd.R_drewN | apply Kd.R_drew)); exact Kd.R_mono HO_3.out (fun _ hk => hk.2))); (case aS => exact (below_size (by repeat (first | (with_reducible first | exact HB.out | apply below_alloc | apply pw_below_drewN | apply below_drew1 | refine below_set ?_ GE182.out) | exact HB.out)))); (case aL => have := LMc18.out; omega); intro v195 w20 ho hb hg hat; rw [← Ny194.out] at ho; replace HO_19 := zA (Kd.R_over' (rdR HO_19.out) (Kd.R_typed (rdR HO_3.out)) (by decide) hg); replace BK182 := zA (blk_grown (g := gb182) (o := .cells #[.int .i64 a0_0, .int .i64 a0_1, .int .i64 a0_2, .int .i64 a0_3, .int .i64 a0_4, .int .i64 a0_5, .slice A0_6 l0_6.length c0_6, .slice A0_7 l0_7.length c0_7] 45 (0, 0)) (rdB BK182.out) hg (Kd.R_ne HO_3.out BK182.out (by decide))); replace HO193 := zA (Kd.R_after (ok := (fun _ => True)) (rdR HO193.out) hg hat); replace HB := zA (hb); have HO196 := zA (ho); clear HO_3; clear ho hb hg hat))
                go_roundg k1
                case measure => have := HK1.out; omega
                case rel => exact ⟨(y194), (wrap64 (x21_1 + 1)), frs, H', ⟨by have := HK1.out; omega⟩, ⟨by (with_reducible repeat (first | apply Kd.R_alloc | apply Kd.R_drewN | apply Kd.R_drew)); exact Kd.R_mono HO196.out (fun _ hk => trivial)⟩, ⟨rdR HO_19.out⟩, ⟨rdB BK182.out⟩, ⟨by repeat (first | (with_reducible first | exact HB.out | apply below_alloc | apply pw_below_drewN | apply below_drew1 | refine below_set ?_ GE182.out) | exact HB.out)⟩⟩
              · rw [if_neg c18] at H
                exact absurd H (by simp)
            · rw [if_neg c16] at H
              exact absurd H (by simp)
          · rw [if_neg c15] at H
            exact absurd H (by simp)
        · rw [if_neg c14] at H
          have c14b0 : decide (x21_1 < (t187.length : Int)) = false := decide_eq_false c14
          clear c14
          by_cases c22 : x3_1.length < 140737488355328
          · rw [if_pos c22] at H
            have LMc22 := zA c22
            clear c22
            obtain ⟨y197, hy197⟩ : ∃ y_ : List Int, y_ = (x3_1 ++ [((l0_6.length : Int)) % 256]) := ⟨_, rfl⟩
            replace H : (letter_Bytes.l1 k1 y197 l0_6 (l0_6.length : Int) 0 a0_0 a0_1 a0_2 a0_3 a0_4 a0_5 l0_6 l0_7) = some r := zC H hy197
            have Ny197 := zA hy197
            clear hy197
            have H' := zA H
            clear H
            obtain ⟨hcz23_0, hcz23_1, hcz23_2, hcz23_3, hcz23_4, hcz23_5, hcz23_6, hcz23_7⟩ := bx8 BK182.out
            obtain ⟨hfz23_0, hfz23_1, hfz23_2, hfz23_3, hfz23_4, hfz23_5, hfz23_6, hfz23_7⟩ := fz8 BK182.out
            go_wp2_with (first | ((with_reducible refine gate_builtin (b := .append) (xs := #[.tmp 30, .tmp 35]) rfl ?_); at_builtin; refine Kd.R_append (Kd.int .u8) (w0 := w) w.heap.size rfl (.tmp 30) (.tmp 35) 26 5 (.int .u8 0) 1 rfl Try.underlying26 info5 rfl (by decide) (by omega) u3 x3_1 (((l0_6.length : Int)) % 256) [.int .u8 (((l0_6.length : Int)) % 256)] (fun _ => True) (fun _ => False) rfl rfl ?aP (fun _ hk => hk.elim) ?aF ?aO ?aB ?aS ?aL ?_; (case aP => exact rfl); (case aB => exact (by repeat (first | (with_reducible first | exact HB.out | apply below_alloc | apply pw_below_drewN | apply below_drew1 | refine below_set ?_ GE182.out) | exact HB.out))); (case aF => exact (fun _ _ => trivial)); (case aO => exact (rdR HO_3.out)); (case aS => exact (below_size (by repeat (first | (with_reducible first | exact HB.out | apply below_alloc | apply pw_below_drewN | apply below_drew1 | refine below_set ?_ GE182.out) | exact HB.out)))); (case aL => have := LMc22.out; omega); intro v198 w24 ho hb hg hat; rw [← Ny197.out] at ho; replace HO_19 := zA (Kd.R_over' (rdR HO_19.out) (Kd.R_typed (rdR HO_3.out)) (by decide) hg); replace BK182 := zA (blk_grown (g := gb182) (o := .cells #[.int .i64 a0_0, .int .i64 a0_1, .int .i64 a0_2, .int .i64 a0_3, .int .i64 a0_4, .int .i64 a0_5, .slice A0_6 l0_6.length c0_6, .slice A0_7 l0_7.length c0_7] 45 (0, 0)) (rdB BK182.out) hg (Kd.R_ne HO_3.out BK182.out (by decide))); replace HB := zA (hb); have HO199 := zA (ho); clear HO_3; clear ho hb hg hat; obtain ⟨hcz25_0, hcz25_1, hcz25_2, hcz25_3, hcz25_4, hcz25_5, hcz25_6, hcz25_7⟩ := bx8 BK182.out; obtain ⟨hfz25_0, hfz25_1, hfz25_2, hfz25_3, hfz25_4, hfz25_5, hfz25_6, hfz25_7⟩ := fz8 BK182.out))
            go_loopg [3, 40] k1 (fun kq v3 v40 w' => ∃ (x3_2 : List Int) (x40_2 : Int), v40 = .int .i64 x40_2 ∧ Aside0 (letter_Bytes.l1 kq x3_2 l0_6 (l0_6.length : Int) x40_2 a0_0 a0_1 a0_2 a0_3 a0_4 a0_5 l0_6 l0_7 = some r) ∧ Aside0 (kq ≤ k1) ∧ Aside0 (Kd.R (Kd.int .u8) 5 w' w.heap.size (fun _ => True) v3 x3_2) ∧ Aside0 (w'.heap[gb182]? = some (.cells #[.int .i64 a0_0, .int .i64 a0_1, .int .i64 a0_2, .int .i64 a0_3, .int .i64 a0_4, .int .i64 a0_5, (.slice A0_6 l0_6.length c0_6), (.slice A0_7 l0_7.length c0_7)] 45 (0, 0))) ∧ Aside0 (Below w.heap.size w w'))
            case atStart => exact ⟨(y197), (0), frs, H', ⟨Nat.le_refl _⟩, ⟨rdR HO199.out⟩, ⟨rdB BK182.out⟩, ⟨by repeat (first | (with_reducible first | exact HB.out | apply below_alloc | apply pw_below_drewN | apply below_drew1 | refine below_set ?_ GE182.out) | exact HB.out)⟩⟩
            case round =>
              clear H'
              obtain ⟨x3_2, x40_2, rfl, HA, HK2, HO_3, BK182, HB⟩ := hrel
              cases gk with
              | zero => exact absurd HA.out (by simp [letter_Bytes.l1])
              | succ k2 =>
                have H := HA.out
                clear HA
                simp only [letter_Bytes.l1] at H
                by_cases c26 : x40_2 < (l0_6.length : Int)
                · rw [if_pos c26] at H
                  have c26b0 : decide (x40_2 < (l0_6.length : Int)) = true := decide_eq_true c26
                  clear c26
                  by_cases c27 : 0 ≤ x40_2
                  · rw [if_pos c27] at H
                    have c27b0 : decide (0 ≤ x40_2) = true := decide_eq_true c27
                    clear c27
                    by_cases c28 : x40_2 < (l0_6.length : Int)
                    · rw [if_pos c28] at H
                      have c28b0 : decide (x40_2 < (l0_6.length : Int)) = true := decide_eq_true c28
                      clear c28
                      replace H := Option.bind_eq_some_iff.mp H
                      obtain ⟨t201, A290, H⟩ := H
                      replace H : (if x3_2.length + t201.length < 140737488355328 then (letter_Bytes.l1 k2 (x3_2 ++ t201) l0_6 (l0_6.length : Int) (wrap64 (x40_2 + 1)) a0_0 a0_1 a0_2 a0_3 a0_4 a0_5 l0_6 l0_7) else (none)) = some r := H
                      have A29 := zA A290
                      clear A290
                      by_cases c30 : x3_2.length + t201.length < 140737488355328
                      · rw [if_pos c30] at H
                        have LMc30 := zA c30
                        clear c30
                        obtain ⟨y204, hy204⟩ : ∃ y_ : List Int, y_ = (x3_2 ++ t201) := ⟨_, rfl⟩
                        replace H : (letter_Bytes.l1 k2 y204 l0_6 (l0_6.length : Int) (wrap64 (x40_2 + 1)) a0_0 a0_1 a0_2 a0_3 a0_4 a0_5 l0_6 l0_7) = some r := zC H hy204
                        have Ny204 := zA hy204
                        clear hy204
                        have H' := zA H
                        clear H
                        have p200 : 0 ≤ (x40_2 : Int) := of_decide_eq_true (by first | (with_reducible assumption) | assumption)
                        have q200 : x40_2 < (l0_6.length : Int) := of_decide_eq_true (by first | (with_reducible assumption) | assumption)
                        obtain ⟨ad200, e200, hx200_0⟩ := Kd.at_int HR0_6.out x40_2 p200 q200
                        cases e200
                        replace hx200_0 := (HB.out.cell (World.block_lt_of_cell? w _ hx200_0)).trans hx200_0
                        replace p200 := eq_true p200
                        replace q200 := eq_true q200
                        go_wp2_with (first | ((with_reducible refine gate_callee (f := 30) rfl ?_); refine goesL_ (some 46) rfl rfl Try.func30 (by kernel_rfl) rfl #[.int .i64 (rd l0_6 x40_2), .int .i64 4] rfl (by (try simp only [List.map_toArray, List.map_cons, List.map_nil]); first | done | rfl | (simp only [List.length_drop, List.length_take]; rfl)) ?_; (with_reducible refine (record_Number.calls k2 (rd l0_6 x40_2) 4 t201 _ A29.out).mono ?_); rintro e w31 ⟨v202, rfl, ho0, hb⟩; refine ⟨_, rfl, ?_⟩; have HO203 := zA (Kd.R_lower (Kd.R_new' ho0 (Kd.R_lt (rdR HO_3.out))) (below_size (by repeat (first | (with_reducible first | exact HB.out | apply below_alloc | apply pw_below_drewN | apply below_drew1 | refine below_set ?_ GE182.out) | exact HB.out)))); replace HO_3 := zA (Kd.R_elder' (rdR HO_3.out) (Kd.R_base ho0) hb); replace BK182 := zA (blk_below (g := gb182) (o := .cells #[.int .i64 a0_0, .int .i64 a0_1, .int .i64 a0_2, .int .i64 a0_3, .int .i64 a0_4, .int .i64 a0_5, .slice (some ad200) l0_6.length c0_6, .slice A0_7 l0_7.length c0_7] 45 (0, 0)) (rdB BK182.out) hb); replace HB := zA (below_step (by repeat (first | (with_reducible first | exact HB.out | apply below_alloc | apply pw_below_drewN | apply below_drew1 | refine below_set ?_ GE182.out) | exact HB.out)) hb); obtain ⟨Ao33, co33, eo33⟩ := Kd.R_slice HO203.out; subst eo33) | ((with_reducible refine gate_builtin (b := .append) (xs := #[.tmp 44, .tmp 46]) rfl ?_); at_builtin; refine Kd.R_append_rows (Kd.int .u8) (w0 := w) w.heap.size rfl (.tmp 44) (.tmp 46) 26 5 (.int .u8 0) 1 rfl Try.underlying26 info5 rfl (by decide) (by omega) u3 x3_2 t201 _ _ _ (fun k_ => some k_ ≠ (.slice Ao33 t201.length co33 : Value).ownBlock) (fun _ => False) rfl rfl ?aO ?aR (fun _ _ h => h) (fun _ h => h.elim) ?aF ?aB ?aS ?aL ?_; (case aR => repeat (first | exact (Kd.R_reads' HO203.out).2.2 | (with_reducible refine Kd.C_alloc ?_ _) | (with_reducible refine Kd.C_drewN ?_ _) | (with_reducible refine Kd.C_drew ?_))); (case aB => exact (by repeat (first | (with_reducible first | exact HB.out | apply below_alloc | apply pw_below_drewN | apply below_drew1 | refine below_set ?_ GE182.out) | exact HB.out))); (case aF => exact (fun k_ hk => Kd.fresh' (Kd.R_lt (rdR HO203.out)) k_ hk)); (case aO => exact (by (with_reducible repeat (first | apply Kd.R_alloc | apply Kd.R_drewN | apply Kd.R_drew)); exact Kd.R_mono HO_3.out (fun _ hk => hk.2))); (case aS => exact (below_size (by repeat (first | (with_reducible first | exact HB.out | apply below_alloc | apply pw_below_drewN | apply below_drew1 | refine below_set ?_ GE182.out) | exact HB.out)))); (case aL => have := LMc30.out; omega); intro v205 w32 ho hb hg hat; rw [← Ny204.out] at ho; replace BK182 := zA (blk_grown (g := gb182) (o := .cells #[.int .i64 a0_0, .int .i64 a0_1, .int .i64 a0_2, .int .i64 a0_3, .int .i64 a0_4, .int .i64 a0_5, .slice (some ad200) l0_6.length c0_6, .slice A0_7 l0_7.length c0_7] 45 (0, 0)) (rdB BK182.out) hg (Kd.R_ne HO_3.out BK182.out (by decide))); replace HO203 := zA (Kd.R_after (ok := (fun _ => True)) (rdR HO203.out) hg hat); replace HB := zA (hb); have HO206 := zA (ho); clear HO_3; clear ho hb hg hat))
                        go_roundg k2
                        case measure => have := HK1.out; have := HK2.out; omega
                        case rel => exact ⟨(y204), (wrap64 (x40_2 + 1)), frs, H', ⟨by have := HK1.out; have := HK2.out; omega⟩, ⟨by (with_reducible repeat (first | apply Kd.R_alloc | apply Kd.R_drewN | apply Kd.R_drew)); exact Kd.R_mono HO206.out (fun _ hk => trivial)⟩, ⟨rdB BK182.out⟩, ⟨by repeat (first | (with_reducible first | exact HB.out | apply below_alloc | apply pw_below_drewN | apply below_drew1 | refine below_set ?_ GE182.out) | exact HB.out)⟩⟩
                      · rw [if_neg c30] at H
                        exact absurd H (by simp)
                    · rw [if_neg c28] at H
                      exact absurd H (by simp)
                  · rw [if_neg c27] at H
                    exact absurd H (by simp)
                · rw [if_neg c26] at H
                  have c26b0 : decide (x40_2 < (l0_6.length : Int)) = false := decide_eq_false c26
                  clear c26
                  by_cases c34 : x3_2.length < 140737488355328
                  · rw [if_pos c34] at H
                    have LMc34 := zA c34
                    clear c34
                    obtain ⟨y207, hy207⟩ : ∃ y_ : List Int, y_ = (x3_2 ++ [((l0_7.length : Int)) % 256]) := ⟨_, rfl⟩
                    replace H : (letter_Bytes.l2 k2 y207 l0_7 (l0_7.length : Int) 0) = some r := zC H hy207
                    have Ny207 := zA hy207
                    clear hy207
                    have H' := zA H
                    clear H
                    obtain ⟨hcz35_0, hcz35_1, hcz35_2, hcz35_3, hcz35_4, hcz35_5, hcz35_6, hcz35_7⟩ := bx8 BK182.out
                    obtain ⟨hfz35_0, hfz35_1, hfz35_2, hfz35_3, hfz35_4, hfz35_5, hfz35_6, hfz35_7⟩ := fz8 BK182.out
                    go_wp2_with (first | ((with_reducible refine gate_builtin (b := .append) (xs := #[.tmp 49, .tmp 54]) rfl ?_); at_builtin; refine Kd.R_append (Kd.int .u8) (w0 := w) w.heap.size rfl (.tmp 49) (.tmp 54) 26 5 (.int .u8 0) 1 rfl Try.underlying26 info5 rfl (by decide) (by omega) u3 x3_2 (((l0_7.length : Int)) % 256) [.int .u8 (((l0_7.length : Int)) % 256)] (fun _ => True) (fun _ => False) rfl rfl ?aP (fun _ hk => hk.elim) ?aF ?aO ?aB ?aS ?aL ?_; (case aP => exact rfl); (case aB => exact (by repeat (first | (with_reducible first | exact HB.out | apply below_alloc | apply pw_below_drewN | apply below_drew1 | refine below_set ?_ GE182.out) | exact HB.out))); (case aF => exact (fun _ _ => trivial)); (case aO => exact (rdR HO_3.out)); (case aS => exact (below_size (by repeat (first | (with_reducible first | exact HB.out | apply below_alloc | apply pw_below_drewN | apply below_drew1 | refine below_set ?_ GE182.out) | exact HB.out)))); (case aL => have := LMc34.out; omega); intro v208 w36 ho hb hg hat; rw [← Ny207.out] at ho; replace BK182 := zA (blk_grown (g := gb182) (o := .cells #[.int .i64 a0_0, .int .i64 a0_1, .int .i64 a0_2, .int .i64 a0_3, .int .i64 a0_4, .int .i64 a0_5, .slice A0_6 l0_6.length c0_6, .slice A0_7 l0_7.length c0_7] 45 (0, 0)) (rdB BK182.out) hg (Kd.R_ne HO_3.out BK182.out (by decide))); replace HB := zA (hb); have HO209 := zA (ho); clear HO_3; clear ho hb hg hat; obtain ⟨hcz37_0, hcz37_1, hcz37_2, hcz37_3, hcz37_4, hcz37_5, hcz37_6, hcz37_7⟩ := bx8 BK182.out; obtain ⟨hfz37_0, hfz37_1, hfz37_2, hfz37_3, hfz37_4, hfz37_5, hfz37_6, hfz37_7⟩ := fz8 BK182.out))
                    go_loopg [3, 59] k2 (fun kq v3 v59 w' => ∃ (x3_3 : List Int) (x59_3 : Int), v59 = .int .i64 x59_3 ∧ Aside0 (letter_Bytes.l2 kq x3_3 l0_7 (l0_7.length : Int) x59_3 = some r) ∧ Aside0 (kq ≤ k2) ∧ Aside0 (Kd.R (Kd.int .u8) 5 w' w.heap.size (fun _ => True) v3 x3_3) ∧ Aside0 (w'.heap[gb182]? = some (.cells #[.int .i64 a0_0, .int .i64 a0_1, .int .i64 a0_2, .int .i64 a0_3, .int .i64 a0_4, .int .i64 a0_5, (.slice A0_6 l0_6.length c0_6), (.slice A0_7 l0_7.length c0_7)] 45 (0, 0))) ∧ Aside0 (Below w.heap.size w w'))
                    case atStart => exact ⟨(y207), (0), frs, H', ⟨Nat.le_refl _⟩, ⟨rdR HO209.out⟩, ⟨rdB BK182.out⟩, ⟨by repeat (first | (with_reducible first | exact HB.out | apply below_alloc | apply pw_below_drewN | apply below_drew1 | refine below_set ?_ GE182.out) | exact HB.out)⟩⟩
                    case round =>
                      clear H'
                      obtain ⟨x3_3, x59_3, rfl, HA, HK3, HO_3, BK182, HB⟩ := hrel
                      cases gk with
                      | zero => exact absurd HA.out (by simp [letter_Bytes.l2])
                      | succ k3 =>
                        have H := HA.out
                        clear HA
                        simp only [letter_Bytes.l2] at H
                        by_cases c38 : x59_3 < (l0_7.length : Int)
                        · rw [if_pos c38] at H
                          have c38b0 : decide (x59_3 < (l0_7.length : Int)) = true := decide_eq_true c38
                          clear c38
                          by_cases c39 : 0 ≤ x59_3
                          · rw [if_pos c39] at H
                            have c39b0 : decide (0 ≤ x59_3) = true := decide_eq_true c39
                            clear c39
                            by_cases c40 : x59_3 < (l0_7.length : Int)
                            · rw [if_pos c40] at H
                              have c40b0 : decide (x59_3 < (l0_7.length : Int)) = true := decide_eq_true c40
                              clear c40
                              replace H := Option.bind_eq_some_iff.mp H
                              obtain ⟨t212, A410, H⟩ := H
                              replace H : ((record_Number.f k3 (t212.length : Int) 2).bind fun t215 => (if x3_3.length + t215.length < 140737488355328 then ((some (x3_3 ++ t215 : List Int)).bind fun y218 => (if y218.length + t212.length < 140737488355328 then (letter_Bytes.l2 k3 (y218 ++ t212) l0_7 (l0_7.length : Int) (wrap64 (x59_3 + 1))) else (none))) else (none))) = some r := H
                              have A41 := zA A410
                              clear A410
                              replace H := Option.bind_eq_some_iff.mp H
                              obtain ⟨t215, A420, H⟩ := H
                              replace H : (if x3_3.length + t215.length < 140737488355328 then ((some (x3_3 ++ t215 : List Int)).bind fun y218 => (if y218.length + t212.length < 140737488355328 then (letter_Bytes.l2 k3 (y218 ++ t212) l0_7 (l0_7.length : Int) (wrap64 (x59_3 + 1))) else (none))) else (none)) = some r := H
                              have A42 := zA A420
                              clear A420
                              by_cases c43 : x3_3.length + t215.length < 140737488355328
                              · rw [if_pos c43] at H
                                have LMc43 := zA c43
                                clear c43
                                obtain ⟨y218, hy218⟩ : ∃ y_ : List Int, y_ = (x3_3 ++ t215) := ⟨_, rfl⟩
                                replace H : (if y218.length + t212.length < 140737488355328 then (letter_Bytes.l2 k3 (y218 ++ t212) l0_7 (l0_7.length : Int) (wrap64 (x59_3 + 1))) else (none)) = some r := zC H hy218
                                have Ny218 := zA hy218
                                clear hy218
                                by_cases c44 : y218.length + t212.length < 140737488355328
                                · rw [if_pos c44] at H
                                  have LMc44 := zA c44
                                  clear c44
                                  obtain ⟨y221, hy221⟩ : ∃ y_ : List Int, y_ = (y218 ++ t212) := ⟨_, rfl⟩
                                  replace H : (letter_Bytes.l2 k3 y221 l0_7 (l0_7.length : Int) (wrap64 (x59_3 + 1))) = some r := zC H hy221
                                  have Ny221 := zA hy221
                                  clear hy221
                                  have H' := zA H
                                  clear H
                                  have p210 : 0 ≤ (x59_3 : Int) := of_decide_eq_true (by first | (with_reducible assumption) | assumption)
                                  have q210 : x59_3 < (l0_7.length : Int) := of_decide_eq_true (by first | (with_reducible assumption) | assumption)
                                  obtain ⟨ad210, A210_9, c210_9, e210, hx210_0, hx210_1, hx210_2, hx210_3, hx210_4, hx210_5, hx210_6, hx210_7, hx210_8, hx210_9, hl210_9, hi210_9⟩ := at_T28 HR0_7.out x59_3 p210 q210
                                  cases e210
                                  replace hx210_0 := (HB.out.cell (World.block_lt_of_cell? w _ hx210_0)).trans hx210_0
                                  replace hx210_1 := (HB.out.cell (World.block_lt_of_cell? w _ hx210_1)).trans hx210_1
                                  replace hx210_2 := (HB.out.cell (World.block_lt_of_cell? w _ hx210_2)).trans hx210_2
                                  replace hx210_3 := (HB.out.cell (World.block_lt_of_cell? w _ hx210_3)).trans hx210_3
                                  replace hx210_4 := (HB.out.cell (World.block_lt_of_cell? w _ hx210_4)).trans hx210_4
                                  replace hx210_5 := (HB.out.cell (World.block_lt_of_cell? w _ hx210_5)).trans hx210_5
                                  replace hx210_6 := (HB.out.cell (World.block_lt_of_cell? w _ hx210_6)).trans hx210_6
                                  replace hx210_7 := (HB.out.cell (World.block_lt_of_cell? w _ hx210_7)).trans hx210_7
                                  replace hx210_8 := (HB.out.cell (World.block_lt_of_cell? w _ hx210_8)).trans hx210_8
                                  replace hx210_9 := (HB.out.cell (World.block_lt_of_cell? w _ hx210_9)).trans hx210_9
                                  have HR210_9 := zA hi210_9
                                  have HC210_9 := zA hl210_9
                                  clear hi210_9 hl210_9
                                  replace p210 := eq_true p210
                                  replace q210 := eq_true q210
                                  go_wp2_with (first | ((with_reducible refine gate_dst (N := 9) rfl ?_); refine box_event ?hg (N := 9) ?hd (cs := #[.int .i64 0, .int .i64 0, .int .i64 0, .int .i64 0, .int .i64 0, .int .i64 0, .int .i64 0, .bool false, .int .i64 0, .slice none 0 0]) (t := 28) ?hr ?_; (case hd => rfl); (case hg => rfl); (case hr => first | (go_simp; done) | (go_simp; rfl)); intro gb211 hg w45 hbox hb; replace HO_3 := zA (Kd.R_below (rdR HO_3.out) hb); have BK211 := zA (hbox); have GW211 := zA ((by rw [hg]; exact (below_size (by repeat (first | (with_reducible first | exact HB.out | apply below_alloc | apply pw_below_drewN | apply below_drew1 | refine below_set ?_ GE182.out) | exact HB.out))) : w.heap.size ≤ gb211)); have GE211 := zA ((by rw [hg]; exact (below_size (by repeat (first | (with_reducible first | exact HB.out | apply below_alloc | apply pw_below_drewN | apply below_drew1 | refine below_set ?_ GE182.out) | exact HB.out))) : w.heap.size ≤ gb211)); replace HB := zA (below_step (by repeat (first | (with_reducible first | exact HB.out | apply below_alloc | apply pw_below_drewN | apply below_drew1 | refine below_set ?_ GE182.out) | exact HB.out)) hb); have NB182_211 := zA ((by rw [hg]; exact Nat.ne_of_lt (blk_lt (g := gb182) (o := .cells #[.int .i64 a0_0, .int .i64 a0_1, .int .i64 a0_2, .int .i64 a0_3, .int .i64 a0_4, .int .i64 a0_5, .slice A0_6 l0_6.length c0_6, .slice (some ad210) l0_7.length c0_7] 45 (0, 0)) (rdB BK182.out)) : gb182 ≠ gb211)); have NB211_182 := zA ((by rw [hg]; exact Nat.ne_of_gt (blk_lt (g := gb182) (o := .cells #[.int .i64 a0_0, .int .i64 a0_1, .int .i64 a0_2, .int .i64 a0_3, .int .i64 a0_4, .int .i64 a0_5, .slice A0_6 l0_6.length c0_6, .slice (some ad210) l0_7.length c0_7] 45 (0, 0)) (rdB BK182.out)) : gb211 ≠ gb182)); replace BK182 := zA (blk_below (g := gb182) (o := .cells #[.int .i64 a0_0, .int .i64 a0_1, .int .i64 a0_2, .int .i64 a0_3, .int .i64 a0_4, .int .i64 a0_5, .slice A0_6 l0_6.length c0_6, .slice (some ad210) l0_7.length c0_7] 45 (0, 0)) (rdB BK182.out) hb); clear hb hbox hg; have hnb46 := NB211_182.out; have hnc46 := NB182_211.out; obtain ⟨hcz47_0, hcz47_1, hcz47_2, hcz47_3, hcz47_4, hcz47_5, hcz47_6, hcz47_7, hcz47_8, hcz47_9⟩ := bx10 BK211.out; obtain ⟨hfz47_0, hfz47_1, hfz47_2, hfz47_3, hfz47_4, hfz47_5, hfz47_6, hfz47_7, hfz47_8, hfz47_9⟩ := fz10 BK211.out) | ((with_reducible refine gate_store (t := 28) (p := 9) rfl ?_); refine store_event (t := 28) (p := 9) (v := ?vo_w48) (w1 := ((((((((((w45.setCell ⟨gb211, 0, none⟩ (.int .i64 ((rd_T28 l0_7 x59_3).f0.f0))).setCell ⟨gb211, 1, none⟩ (.int .i64 ((rd_T28 l0_7 x59_3).f0.f1))).setCell ⟨gb211, 2, none⟩ (.int .i64 ((rd_T28 l0_7 x59_3).f1.f0))).setCell ⟨gb211, 3, none⟩ (.int .i64 ((rd_T28 l0_7 x59_3).f1.f1))).setCell ⟨gb211, 4, none⟩ (.int .i64 ((rd_T28 l0_7 x59_3).f1.f2))).setCell ⟨gb211, 5, none⟩ (.int .i64 ((rd_T28 l0_7 x59_3).f2))).setCell ⟨gb211, 6, none⟩ (.int .i64 ((rd_T28 l0_7 x59_3).f3))).setCell ⟨gb211, 7, none⟩ (.bool ((rd_T28 l0_7 x59_3).f4))).setCell ⟨gb211, 8, none⟩ (.int .i64 ((rd_T28 l0_7 x59_3).f5))).setCell ⟨gb211, 9, none⟩ (.slice A210_9 ((rd_T28 l0_7 x59_3).f6).length c210_9))) ?hg ?ho ?hn ?hr ?_; (case ho => rfl); (case hg => rfl); (case hn => rfl); (case hr => first | (go_simp; done) | (go_simp; rfl)); intro w48 hw; have n0_ : Aside0 (Kd.R (Kd.int .u8) 5 w48 w.heap.size (fun _ => True) u3 x3_3) := ⟨(by rw [hw]; exact (by (with_reducible repeat (first | apply Kd.R_alloc | apply Kd.R_drewN | apply Kd.R_drew)); exact Kd.R_mono (Kd.R_far (p := ⟨gb211, 9, none⟩) (Kd.R_far (p := ⟨gb211, 8, none⟩) (Kd.R_far (p := ⟨gb211, 7, none⟩) (Kd.R_far (p := ⟨gb211, 6, none⟩) (Kd.R_far (p := ⟨gb211, 5, none⟩) (Kd.R_far (p := ⟨gb211, 4, none⟩) (Kd.R_far (p := ⟨gb211, 3, none⟩) (Kd.R_far (p := ⟨gb211, 2, none⟩) (Kd.R_far (p := ⟨gb211, 1, none⟩) (Kd.R_far (p := ⟨gb211, 0, none⟩) (Kd.R_types HO_3.out BK211.out (by decide)) (fun _ hk => hk.2) (.int .i64 ((rd_T28 l0_7 x59_3).f0.f0))) (fun _ hk => hk.2) (.int .i64 ((rd_T28 l0_7 x59_3).f0.f1))) (fun _ hk => hk.2) (.int .i64 ((rd_T28 l0_7 x59_3).f1.f0))) (fun _ hk => hk.2) (.int .i64 ((rd_T28 l0_7 x59_3).f1.f1))) (fun _ hk => hk.2) (.int .i64 ((rd_T28 l0_7 x59_3).f1.f2))) (fun _ hk => hk.2) (.int .i64 ((rd_T28 l0_7 x59_3).f2))) (fun _ hk => hk.2) (.int .i64 ((rd_T28 l0_7 x59_3).f3))) (fun _ hk => hk.2) (.bool ((rd_T28 l0_7 x59_3).f4))) (fun _ hk => hk.2) (.int .i64 ((rd_T28 l0_7 x59_3).f5))) (fun _ hk => hk.2) (.slice A210_9 ((rd_T28 l0_7 x59_3).f6).length c210_9)) (fun _ hk => trivial)))⟩; have n1_ : Aside0 (w48.heap[gb182]? = some (.cells #[.int .i64 a0_0, .int .i64 a0_1, .int .i64 a0_2, .int .i64 a0_3, .int .i64 a0_4, .int .i64 a0_5, .slice A0_6 l0_6.length c0_6, .slice (some ad210) l0_7.length c0_7] 45 (0, 0))) := ⟨(by rw [hw]; exact (by (with_reducible repeat (first | refine blk_drewN ?_ _ | refine blk_drew ?_ | refine blk_alloc ?_ _)); refine blk_far ?_ NB182_211.out _; (with_reducible repeat (first | refine blk_drewN ?_ _ | refine blk_drew ?_ | refine blk_alloc ?_ _)); refine blk_far ?_ NB182_211.out _; (with_reducible repeat (first | refine blk_drewN ?_ _ | refine blk_drew ?_ | refine blk_alloc ?_ _)); refine blk_far ?_ NB182_211.out _; (with_reducible repeat (first | refine blk_drewN ?_ _ | refine blk_drew ?_ | refine blk_alloc ?_ _)); refine blk_far ?_ NB182_211.out _; (with_reducible repeat (first | refine blk_drewN ?_ _ | refine blk_drew ?_ | refine blk_alloc ?_ _)); refine blk_far ?_ NB182_211.out _; (with_reducible repeat (first | refine blk_drewN ?_ _ | refine blk_drew ?_ | refine blk_alloc ?_ _)); refine blk_far ?_ NB182_211.out _; (with_reducible repeat (first | refine blk_drewN ?_ _ | refine blk_drew ?_ | refine blk_alloc ?_ _)); refine blk_far ?_ NB182_211.out _; (with_reducible repeat (first | refine blk_drewN ?_ _ | refine blk_drew ?_ | refine blk_alloc ?_ _)); refine blk_far ?_ NB182_211.out _; (with_reducible repeat (first | refine blk_drewN ?_ _ | refine blk_drew ?_ | refine blk_alloc ?_ _)); refine blk_far ?_ NB182_211.out _; (with_reducible repeat (first | refine blk_drewN ?_ _ | refine blk_drew ?_ | refine blk_alloc ?_ _)); refine blk_far ?_ NB182_211.out _; (with_reducible repeat (first | refine blk_drewN ?_ _ | refine blk_drew ?_ | refine blk_alloc ?_ _)); exact BK182.out))⟩; have n2_ : Aside0 (w48.heap[gb211]? = some (.cells #[.int .i64 ((rd_T28 l0_7 x59_3).f0.f0), .int .i64 ((rd_T28 l0_7 x59_3).f0.f1), .int .i64 ((rd_T28 l0_7 x59_3).f1.f0), .int .i64 ((rd_T28 l0_7 x59_3).f1.f1), .int .i64 ((rd_T28 l0_7 x59_3).f1.f2), .int .i64 ((rd_T28 l0_7 x59_3).f2), .int .i64 ((rd_T28 l0_7 x59_3).f3), .bool ((rd_T28 l0_7 x59_3).f4), .int .i64 ((rd_T28 l0_7 x59_3).f5), .slice A210_9 ((rd_T28 l0_7 x59_3).f6).length c210_9] 28 (0, 0))) := ⟨(by rw [hw]; exact (by (with_reducible repeat (first | refine blk_drewN ?_ _ | refine blk_drew ?_ | refine blk_alloc ?_ _)); refine blk_put (cs := #[.int .i64 ((rd_T28 l0_7 x59_3).f0.f0), .int .i64 ((rd_T28 l0_7 x59_3).f0.f1), .int .i64 ((rd_T28 l0_7 x59_3).f1.f0), .int .i64 ((rd_T28 l0_7 x59_3).f1.f1), .int .i64 ((rd_T28 l0_7 x59_3).f1.f2), .int .i64 ((rd_T28 l0_7 x59_3).f2), .int .i64 ((rd_T28 l0_7 x59_3).f3), .bool ((rd_T28 l0_7 x59_3).f4), .int .i64 ((rd_T28 l0_7 x59_3).f5), .slice none 0 0]) ?_ 9 _ rfl; (with_reducible repeat (first | refine blk_drewN ?_ _ | refine blk_drew ?_ | refine blk_alloc ?_ _)); refine blk_put (cs := #[.int .i64 ((rd_T28 l0_7 x59_3).f0.f0), .int .i64 ((rd_T28 l0_7 x59_3).f0.f1), .int .i64 ((rd_T28 l0_7 x59_3).f1.f0), .int .i64 ((rd_T28 l0_7 x59_3).f1.f1), .int .i64 ((rd_T28 l0_7 x59_3).f1.f2), .int .i64 ((rd_T28 l0_7 x59_3).f2), .int .i64 ((rd_T28 l0_7 x59_3).f3), .bool ((rd_T28 l0_7 x59_3).f4), .int .i64 0, .slice none 0 0]) ?_ 8 _ rfl; (with_reducible repeat (first | refine blk_drewN ?_ _ | refine blk_drew ?_ | refine blk_alloc ?_ _)); refine blk_put (cs := #[.int .i64 ((rd_T28 l0_7 x59_3).f0.f0), .int .i64 ((rd_T28 l0_7 x59_3).f0.f1), .int .i64 ((rd_T28 l0_7 x59_3).f1.f0), .int .i64 ((rd_T28 l0_7 x59_3).f1.f1), .int .i64 ((rd_T28 l0_7 x59_3).f1.f2), .int .i64 ((rd_T28 l0_7 x59_3).f2), .int .i64 ((rd_T28 l0_7 x59_3).f3), .bool false, .int .i64 0, .slice none 0 0]) ?_ 7 _ rfl; (with_reducible repeat (first | refine blk_drewN ?_ _ | refine blk_drew ?_ | refine blk_alloc ?_ _)); refine blk_put (cs := #[.int .i64 ((rd_T28 l0_7 x59_3).f0.f0), .int .i64 ((rd_T28 l0_7 x59_3).f0.f1), .int .i64 ((rd_T28 l0_7 x59_3).f1.f0), .int .i64 ((rd_T28 l0_7 x59_3).f1.f1), .int .i64 ((rd_T28 l0_7 x59_3).f1.f2), .int .i64 ((rd_T28 l0_7 x59_3).f2), .int .i64 0, .bool false, .int .i64 0, .slice none 0 0]) ?_ 6 _ rfl; (with_reducible repeat (first | refine blk_drewN ?_ _ | refine blk_drew ?_ | refine blk_alloc ?_ _)); refine blk_put (cs := #[.int .i64 ((rd_T28 l0_7 x59_3).f0.f0), .int .i64 ((rd_T28 l0_7 x59_3).f0.f1), .int .i64 ((rd_T28 l0_7 x59_3).f1.f0), .int .i64 ((rd_T28 l0_7 x59_3).f1.f1), .int .i64 ((rd_T28 l0_7 x59_3).f1.f2), .int .i64 0, .int .i64 0, .bool false, .int .i64 0, .slice none 0 0]) ?_ 5 _ rfl; (with_reducible repeat (first | refine blk_drewN ?_ _ | refine blk_drew ?_ | refine blk_alloc ?_ _)); refine blk_put (cs := #[.int .i64 ((rd_T28 l0_7 x59_3).f0.f0), .int .i64 ((rd_T28 l0_7 x59_3).f0.f1), .int .i64 ((rd_T28 l0_7 x59_3).f1.f0), .int .i64 ((rd_T28 l0_7 x59_3).f1.f1), .int .i64 0, .int .i64 0, .int .i64 0, .bool false, .int .i64 0, .slice none 0 0]) ?_ 4 _ rfl; (with_reducible repeat (first | refine blk_drewN ?_ _ | refine blk_drew ?_ | refine blk_alloc ?_ _)); refine blk_put (cs := #[.int .i64 ((rd_T28 l0_7 x59_3).f0.f0), .int .i64 ((rd_T28 l0_7 x59_3).f0.f1), .int .i64 ((rd_T28 l0_7 x59_3).f1.f0), .int .i64 0, .int .i64 0, .int .i64 0, .int .i64 0, .bool false, .int .i64 0, .slice none 0 0]) ?_ 3 _ rfl; (with_reducible repeat (first | refine blk_drewN ?_ _ | refine blk_drew ?_ | refine blk_alloc ?_ _)); refine blk_put (cs := #[.int .i64 ((rd_T28 l0_7 x59_3).f0.f0), .int .i64 ((rd_T28 l0_7 x59_3).f0.f1), .int .i64 0, .int .i64 0, .int .i64 0, .int .i64 0, .int .i64 0, .bool false, .int .i64 0, .slice none 0 0]) ?_ 2 _ rfl; (with_reducible repeat (first | refine blk_drewN ?_ _ | refine blk_drew ?_ | refine blk_alloc ?_ _)); refine blk_put (cs := #[.int .i64 ((rd_T28 l0_7 x59_3).f0.f0), .int .i64 0, .int .i64 0, .int .i64 0, .int .i64 0, .int .i64 0, .int .i64 0, .bool false, .int .i64 0, .slice none 0 0]) ?_ 1 _ rfl; (with_reducible repeat (first | refine blk_drewN ?_ _ | refine blk_drew ?_ | refine blk_alloc ?_ _)); refine blk_put (cs := #[.int .i64 0, .int .i64 0, .int .i64 0, .int .i64 0, .int .i64 0, .int .i64 0, .int .i64 0, .bool false, .int .i64 0, .slice none 0 0]) ?_ 0 _ rfl; (with_reducible repeat (first | refine blk_drewN ?_ _ | refine blk_drew ?_ | refine blk_alloc ?_ _)); exact BK211.out))⟩; have n3_ : Aside0 (Below w.heap.size w w48) := ⟨(by rw [hw]; exact (by repeat (first | (with_reducible first | exact HB.out | apply below_alloc | apply pw_below_drewN | apply below_drew1 | refine below_set ?_ GE182.out | refine below_set ?_ GE211.out) | exact HB.out)))⟩; clear hw; clear HO_3; clear BK182; clear BK211; clear HB; have HO_3 := n0_; have BK182 := n1_; have BK211 := n2_; have HB := n3_; clear n0_ n1_ n2_ n3_; obtain ⟨hcz49_0, hcz49_1, hcz49_2, hcz49_3, hcz49_4, hcz49_5, hcz49_6, hcz49_7, hcz49_8, hcz49_9⟩ := bx10 BK211.out; obtain ⟨hfz49_0, hfz49_1, hfz49_2, hfz49_3, hfz49_4, hfz49_5, hfz49_6, hfz49_7, hfz49_8, hfz49_9⟩ := fz10 BK211.out) | ((with_reducible refine gate_callee (f := 11) rfl ?_); refine goesL_ (some 64) rfl rfl Try.func11 (by kernel_rfl) rfl #[.agg #[.int .i64 ((rd_T28 l0_7 x59_3).f0.f0), .int .i64 ((rd_T28 l0_7 x59_3).f0.f1), .int .i64 ((rd_T28 l0_7 x59_3).f1.f0), .int .i64 ((rd_T28 l0_7 x59_3).f1.f1), .int .i64 ((rd_T28 l0_7 x59_3).f1.f2), .int .i64 ((rd_T28 l0_7 x59_3).f2), .int .i64 ((rd_T28 l0_7 x59_3).f3), .bool ((rd_T28 l0_7 x59_3).f4), .int .i64 ((rd_T28 l0_7 x59_3).f5), .slice A210_9 ((rd_T28 l0_7 x59_3).f6).length c210_9]] rfl (by (try simp only [List.map_toArray, List.map_cons, List.map_nil]); first | done | rfl | (simp only [List.length_drop, List.length_take]; rfl)) ?_; (with_reducible refine (record_Bytes.calls k3 ((rd_T28 l0_7 x59_3).f0.f0) ((rd_T28 l0_7 x59_3).f0.f1) ((rd_T28 l0_7 x59_3).f1.f0) ((rd_T28 l0_7 x59_3).f1.f1) ((rd_T28 l0_7 x59_3).f1.f2) ((rd_T28 l0_7 x59_3).f2) ((rd_T28 l0_7 x59_3).f3) ((rd_T28 l0_7 x59_3).f4) ((rd_T28 l0_7 x59_3).f5) (fun k_ => k_ < w.heap.size) _ _ ((rd_T28 l0_7 x59_3).f6) t212 _ ?side1 A41.out).mono ?_); (case side1 => exact Kd.V_mk HC210_9.out (Kd.F_below (Kd.C_F (Kd.heap_int .u8) HR210_9.out) (by repeat (first | (with_reducible first | exact HB.out | apply below_alloc | apply pw_below_drewN | apply below_drew1 | refine below_set ?_ GE182.out | refine below_set ?_ GE211.out) | exact HB.out)))); rintro e w50 ⟨v213, rfl, ho0, hb⟩; refine ⟨_, rfl, ?_⟩; have HO214 := zA (Kd.R_lower (Kd.R_new' (Kd.R_mono (ok' := fun k_ => True) ho0 (fun _ hk_ => trivial)) (Kd.R_lt (rdR HO_3.out))) (below_size (by repeat (first | (with_reducible first | exact HB.out | apply below_alloc | apply pw_below_drewN | apply below_drew1 | refine below_set ?_ GE182.out | refine below_set ?_ GE211.out) | exact HB.out)))); replace HO_3 := zA (Kd.R_elder' (rdR HO_3.out) (Kd.R_base ho0) hb); replace BK182 := zA (blk_below (g := gb182) (o := .cells #[.int .i64 a0_0, .int .i64 a0_1, .int .i64 a0_2, .int .i64 a0_3, .int .i64 a0_4, .int .i64 a0_5, .slice A0_6 l0_6.length c0_6, .slice (some ad210) l0_7.length c0_7] 45 (0, 0)) (rdB BK182.out) hb); replace BK211 := zA (blk_below (g := gb211) (o := .cells #[.int .i64 ((rd_T28 l0_7 x59_3).f0.f0), .int .i64 ((rd_T28 l0_7 x59_3).f0.f1), .int .i64 ((rd_T28 l0_7 x59_3).f1.f0), .int .i64 ((rd_T28 l0_7 x59_3).f1.f1), .int .i64 ((rd_T28 l0_7 x59_3).f1.f2), .int .i64 ((rd_T28 l0_7 x59_3).f2), .int .i64 ((rd_T28 l0_7 x59_3).f3), .bool ((rd_T28 l0_7 x59_3).f4), .int .i64 ((rd_T28 l0_7 x59_3).f5), .slice A210_9 ((rd_T28 l0_7 x59_3).f6).length c210_9] 28 (0, 0)) (rdB BK211.out) hb); replace HB := zA (below_step (by repeat (first | (with_reducible first | exact HB.out | apply below_alloc | apply pw_below_drewN | apply below_drew1 | refine below_set ?_ GE182.out | refine below_set ?_ GE211.out) | exact HB.out)) hb); obtain ⟨Ao51, co51, eo51⟩ := Kd.R_slice HO214.out; subst eo51) | ((with_reducible refine gate_callee (f := 30) rfl ?_); refine goesL_ (some 68) rfl rfl Try.func30 (by kernel_rfl) rfl #[.int .i64 (t212.length : Int), .int .i64 2] rfl (by (try simp only [List.map_toArray, List.map_cons, List.map_nil]); first | done | rfl | (simp only [List.length_drop, List.length_take]; rfl)) ?_; (with_reducible refine (record_Number.calls k3 (t212.length : Int) 2 t215 _ A42.out).mono ?_); rintro e w52 ⟨v216, rfl, ho0, hb⟩; refine ⟨_, rfl, ?_⟩; have HO217 := zA (Kd.R_lower (Kd.R_new' (Kd.R_new' ho0 (Kd.R_lt (rdR HO_3.out))) (Kd.R_lt (rdR HO214.out))) (below_size (by repeat (first | (with_reducible first | exact HB.out | apply below_alloc | apply pw_below_drewN | apply below_drew1 | refine below_set ?_ GE182.out | refine below_set ?_ GE211.out) | exact HB.out)))); replace HO_3 := zA (Kd.R_elder' (rdR HO_3.out) (Kd.R_base ho0) hb); replace HO214 := zA (Kd.R_elder' (rdR HO214.out) (Kd.R_base ho0) hb); replace BK182 := zA (blk_below (g := gb182) (o := .cells #[.int .i64 a0_0, .int .i64 a0_1, .int .i64 a0_2, .int .i64 a0_3, .int .i64 a0_4, .int .i64 a0_5, .slice A0_6 l0_6.length c0_6, .slice (some ad210) l0_7.length c0_7] 45 (0, 0)) (rdB BK182.out) hb); replace BK211 := zA (blk_below (g := gb211) (o := .cells #[.int .i64 ((rd_T28 l0_7 x59_3).f0.f0), .int .i64 ((rd_T28 l0_7 x59_3).f0.f1), .int .i64 ((rd_T28 l0_7 x59_3).f1.f0), .int .i64 ((rd_T28 l0_7 x59_3).f1.f1), .int .i64 ((rd_T28 l0_7 x59_3).f1.f2), .int .i64 ((rd_T28 l0_7 x59_3).f2), .int .i64 ((rd_T28 l0_7 x59_3).f3), .bool ((rd_T28 l0_7 x59_3).f4), .int .i64 ((rd_T28 l0_7 x59_3).f5), .slice A210_9 ((rd_T28 l0_7 x59_3).f6).length c210_9] 28 (0, 0)) (rdB BK211.out) hb); replace HB := zA (below_step (by repeat (first | (with_reducible first | exact HB.out | apply below_alloc | apply pw_below_drewN | apply below_drew1 | refine below_set ?_ GE182.out | refine below_set ?_ GE211.out) | exact HB.out)) hb); obtain ⟨Ao54, co54, eo54⟩ := Kd.R_slice HO217.out; subst eo54) | ((with_reducible refine gate_builtin (b := .append) (xs := #[.tmp 65, .tmp 68]) rfl ?_); at_builtin; refine Kd.R_append_rows (Kd.int .u8) (w0 := w) w.heap.size rfl (.tmp 65) (.tmp 68) 26 5 (.int .u8 0) 1 rfl Try.underlying26 info5 rfl (by decide) (by omega) u3 x3_3 t215 _ _ _ (fun k_ => some k_ ≠ (.slice Ao51 t212.length co51 : Value).ownBlock ∧ some k_ ≠ (.slice Ao54 t215.length co54 : Value).ownBlock) (fun _ => False) rfl rfl ?aO ?aR (fun _ _ h => h) (fun _ h => h.elim) ?aF ?aB ?aS ?aL ?_; (case aR => repeat (first | exact (Kd.R_reads' HO217.out).2.2 | (with_reducible refine Kd.C_alloc ?_ _) | (with_reducible refine Kd.C_drewN ?_ _) | (with_reducible refine Kd.C_drew ?_))); (case aB => exact (by repeat (first | (with_reducible first | exact HB.out | apply below_alloc | apply pw_below_drewN | apply below_drew1 | refine below_set ?_ GE182.out | refine below_set ?_ GE211.out) | exact HB.out))); (case aF => exact (fun k_ hk => ⟨Kd.fresh' (Kd.R_lt (rdR HO214.out)) k_ hk, Kd.fresh' (Kd.R_lt (rdR HO217.out)) k_ hk⟩)); (case aO => exact (by (with_reducible repeat (first | apply Kd.R_alloc | apply Kd.R_drewN | apply Kd.R_drew)); exact Kd.R_mono HO_3.out (fun _ hk => ⟨hk.1.2, hk.2⟩))); (case aS => exact (below_size (by repeat (first | (with_reducible first | exact HB.out | apply below_alloc | apply pw_below_drewN | apply below_drew1 | refine below_set ?_ GE182.out | refine below_set ?_ GE211.out) | exact HB.out)))); (case aL => have := LMc43.out; omega); intro v219 w53 ho hb hg hat; rw [← Ny218.out] at ho; replace BK182 := zA (blk_grown (g := gb182) (o := .cells #[.int .i64 a0_0, .int .i64 a0_1, .int .i64 a0_2, .int .i64 a0_3, .int .i64 a0_4, .int .i64 a0_5, .slice A0_6 l0_6.length c0_6, .slice (some ad210) l0_7.length c0_7] 45 (0, 0)) (rdB BK182.out) hg (Kd.R_ne HO_3.out BK182.out (by decide))); replace BK211 := zA (blk_grown (g := gb211) (o := .cells #[.int .i64 ((rd_T28 l0_7 x59_3).f0.f0), .int .i64 ((rd_T28 l0_7 x59_3).f0.f1), .int .i64 ((rd_T28 l0_7 x59_3).f1.f0), .int .i64 ((rd_T28 l0_7 x59_3).f1.f1), .int .i64 ((rd_T28 l0_7 x59_3).f1.f2), .int .i64 ((rd_T28 l0_7 x59_3).f2), .int .i64 ((rd_T28 l0_7 x59_3).f3), .bool ((rd_T28 l0_7 x59_3).f4), .int .i64 ((rd_T28 l0_7 x59_3).f5), .slice A210_9 ((rd_T28 l0_7 x59_3).f6).length c210_9] 28 (0, 0)) (rdB BK211.out) hg (Kd.R_ne HO_3.out BK211.out (by decide))); replace HO214 := zA (Kd.R_after (ok := (fun k_ => some k_ ≠ (.slice Ao54 t215.length co54 : Value).ownBlock)) (by (with_reducible repeat (first | apply Kd.R_alloc | apply Kd.R_drewN | apply Kd.R_drew)); exact Kd.R_mono HO214.out (fun _ hk => ⟨hk.2, hk.1.2⟩)) hg hat); replace HO217 := zA (Kd.R_after (ok := (fun k_ => some k_ ≠ (.slice Ao51 t212.length co51 : Value).ownBlock)) (by (with_reducible repeat (first | apply Kd.R_alloc | apply Kd.R_drewN | apply Kd.R_drew)); exact Kd.R_mono HO217.out (fun _ hk => ⟨hk.2, hk.1.2⟩)) hg hat); replace HB := zA (hb); have HO220 := zA (ho); clear HO_3; clear ho hb hg hat) | ((with_reducible refine gate_builtin (b := .append) (xs := #[.tmp 70, .tmp 71]) rfl ?_); at_builtin; refine Kd.R_append_rows (Kd.int .u8) (w0 := w) w.heap.size rfl (.tmp 70) (.tmp 71) 26 5 (.int .u8 0) 1 rfl Try.underlying26 info5 rfl (by decide) (by omega) v219 y218 t212 _ _ _ (fun k_ => some k_ ≠ (.slice Ao51 t212.length co51 : Value).ownBlock ∧ some k_ ≠ (.slice Ao54 t215.length co54 : Value).ownBlock) (fun _ => False) rfl rfl ?aO ?aR (fun _ _ h => h) (fun _ h => h.elim) ?aF ?aB ?aS ?aL ?_; (case aR => repeat (first | exact (Kd.R_reads' HO214.out).2.2 | (with_reducible refine Kd.C_alloc ?_ _) | (with_reducible refine Kd.C_drewN ?_ _) | (with_reducible refine Kd.C_drew ?_))); (case aB => exact (by repeat (first | (with_reducible first | exact HB.out | apply below_alloc | apply pw_below_drewN | apply below_drew1 | refine below_set ?_ GE182.out | refine below_set ?_ GE211.out) | exact HB.out))); (case aF => exact (fun k_ hk => ⟨Kd.fresh' (Kd.R_lt (rdR HO214.out)) k_ hk, Kd.fresh' (Kd.R_lt (rdR HO217.out)) k_ hk⟩)); (case aO => exact (rdR HO220.out)); (case aS => exact (below_size (by repeat (first | (with_reducible first | exact HB.out | apply below_alloc | apply pw_below_drewN | apply below_drew1 | refine below_set ?_ GE182.out | refine below_set ?_ GE211.out) | exact HB.out)))); (case aL => have := LMc44.out; omega); intro v222 w55 ho hb hg hat; rw [← Ny221.out] at ho; replace BK182 := zA (blk_grown (g := gb182) (o := .cells #[.int .i64 a0_0, .int .i64 a0_1, .int .i64 a0_2, .int .i64 a0_3, .int .i64 a0_4, .int .i64 a0_5, .slice A0_6 l0_6.length c0_6, .slice (some ad210) l0_7.length c0_7] 45 (0, 0)) (rdB BK182.out) hg (Kd.R_ne HO220.out BK182.out (by decide))); replace BK211 := zA (blk_grown (g := gb211) (o := .cells #[.int .i64 ((rd_T28 l0_7 x59_3).f0.f0), .int .i64 ((rd_T28 l0_7 x59_3).f0.f1), .int .i64 ((rd_T28 l0_7 x59_3).f1.f0), .int .i64 ((rd_T28 l0_7 x59_3).f1.f1), .int .i64 ((rd_T28 l0_7 x59_3).f1.f2), .int .i64 ((rd_T28 l0_7 x59_3).f2), .int .i64 ((rd_T28 l0_7 x59_3).f3), .bool ((rd_T28 l0_7 x59_3).f4), .int .i64 ((rd_T28 l0_7 x59_3).f5), .slice A210_9 ((rd_T28 l0_7 x59_3).f6).length c210_9] 28 (0, 0)) (rdB BK211.out) hg (Kd.R_ne HO220.out BK211.out (by decide))); replace HO214 := zA (Kd.R_after (ok := (fun k_ => some k_ ≠ (.slice Ao54 t215.length co54 : Value).ownBlock)) (rdR HO214.out) hg hat); replace HO217 := zA (Kd.R_after (ok := (fun k_ => some k_ ≠ (.slice Ao51 t212.length co51 : Value).ownBlock)) (rdR HO217.out) hg hat); replace HB := zA (hb); have HO223 := zA (ho); clear HO220; clear ho hb hg hat))
                                  go_roundg k3
                                  case measure => have := HK1.out; have := HK2.out; have := HK3.out; omega
                                  case rel => exact ⟨(y221), (wrap64 (x59_3 + 1)), frs, H', ⟨by have := HK1.out; have := HK2.out; have := HK3.out; omega⟩, ⟨by (with_reducible repeat (first | apply Kd.R_alloc | apply Kd.R_drewN | apply Kd.R_drew)); exact Kd.R_mono HO223.out (fun _ hk => trivial)⟩, ⟨rdB BK182.out⟩, ⟨by repeat (first | (with_reducible first | exact HB.out | apply below_alloc | apply pw_below_drewN | apply below_drew1 | refine below_set ?_ GE182.out | refine below_set ?_ GE211.out) | exact HB.out)⟩⟩
                                · rw [if_neg c44] at H
                                  exact absurd H (by simp)
                              · rw [if_neg c43] at H
                                exact absurd H (by simp)
                            · rw [if_neg c40] at H
                              exact absurd H (by simp)
                          · rw [if_neg c39] at H
                            exact absurd H (by simp)
                        · rw [if_neg c38] at H
                          have c38b0 : decide (x59_3 < (l0_7.length : Int)) = false := decide_eq_false c38
                          clear c38
                          obtain rfl := Option.some.inj H
                          go_wp2
                          go_ret
                          exact ⟨_, by first | rfl | (simp [errW_none, errW_some] <;> rfl) | (simp [*, errW_none, errW_some] <;> rfl), rdR HO_3.out, by repeat (first | (with_reducible first | exact HB.out | apply below_alloc | apply pw_below_drewN | apply below_drew1 | refine below_set ?_ GE182.out) | exact HB.out)⟩
                  · rw [if_neg c34] at H
                    exact absurd H (by simp)
          · rw [if_neg c22] at H
            exact absurd H (by simp)
  · replace c3 := Bool.eq_false_iff.mpr c3
    subst c3
    have H1 : (some ([] : List Int)) = some r := by rw [if_neg (show ¬ (false = true) by decide)] at H; exact H
    clear H
    have H := H1
    clear H1
    obtain rfl := Option.some.inj H
    go_enter Try.func20, Try.ntmps20
    go_wp2_with (first | ((with_reducible refine gate_dst (N := 1) rfl ?_); refine box_event ?hg (N := 1) ?hd (cs := #[.int .i64 a0_0, .int .i64 a0_1, .int .i64 a0_2, .int .i64 a0_3, .int .i64 a0_4, .int .i64 a0_5, .slice A0_6 l0_6.length c0_6, .slice A0_7 l0_7.length c0_7]) (t := 45) ?hr ?_; (case hd => rfl); (case hg => rfl); (case hr => first | (go_simp; done) | (go_simp; rfl)); intro gb182 hg w56 hbox hb; have BK182 := zA (hbox); have GW182 := zA ((by rw [hg]; exact (below_size (by repeat (first | (with_reducible first | exact HB.out | apply below_alloc | apply pw_below_drewN | apply below_drew1) | exact HB.out))) : w.heap.size ≤ gb182)); have GE182 := zA ((by rw [hg]; exact (below_size (by repeat (first | (with_reducible first | exact HB.out | apply below_alloc | apply pw_below_drewN | apply below_drew1) | exact HB.out))) : w.heap.size ≤ gb182)); replace HB := zA (below_step (by repeat (first | (with_reducible first | exact HB.out | apply below_alloc | apply pw_below_drewN | apply below_drew1) | exact HB.out)) hb); clear hb hbox hg; obtain ⟨hcz57_0, hcz57_1, hcz57_2, hcz57_3, hcz57_4, hcz57_5, hcz57_6, hcz57_7⟩ := bx8 BK182.out; obtain ⟨hfz57_0, hfz57_1, hfz57_2, hfz57_3, hfz57_4, hfz57_5, hfz57_6, hfz57_7⟩ := fz8 BK182.out) | ((with_reducible refine gate_callee (f := 39) rfl ?_); refine goesL_ (some 12) rfl rfl Try.func39 (by kernel_rfl) rfl #[.agg #[.int .i64 a0_0, .int .i64 a0_1, .int .i64 a0_2, .int .i64 a0_3, .int .i64 a0_4, .int .i64 a0_5, .slice A0_6 l0_6.length c0_6, .slice A0_7 l0_7.length c0_7]] rfl (by (try simp only [List.map_toArray, List.map_cons, List.map_nil]); first | done | rfl | (simp only [List.length_drop, List.length_take]; rfl)) ?_; (with_reducible refine (Lt.right.calls a0_0 a0_1 a0_2 a0_3 a0_4 a0_5 _ _ l0_6 _ _ l0_7 false _ ?side1 ?side2 ?side3 ?side4 A2.out).mono ?_); (case side1 => repeat (first | exact (Kd.C_below HR0_6.out HB.out) | (with_reducible refine Kd.C_alloc ?_ _) | (with_reducible refine Kd.C_drewN ?_ _) | (with_reducible refine Kd.C_drew ?_))); (case side2 => exact HC0_6.out); (case side3 => repeat (first | exact (Kd.C_below HR0_7.out HB.out) | (with_reducible refine Kd.C_alloc ?_ _) | (with_reducible refine Kd.C_drewN ?_ _) | (with_reducible refine Kd.C_drew ?_))); (case side4 => exact HC0_7.out); rintro e w58 ⟨rfl, hb⟩; refine ⟨_, rfl, ?_⟩; replace BK182 := zA (blk_below (g := gb182) (o := .cells #[.int .i64 a0_0, .int .i64 a0_1, .int .i64 a0_2, .int .i64 a0_3, .int .i64 a0_4, .int .i64 a0_5, .slice A0_6 l0_6.length c0_6, .slice A0_7 l0_7.length c0_7] 45 (0, 0)) (rdB BK182.out) hb); replace HB := zA (below_step (by repeat (first | (with_reducible first | exact HB.out | apply below_alloc | apply pw_below_drewN | apply below_drew1 | refine below_set ?_ GE182.out) | exact HB.out)) hb)))
    go_ret
    exact ⟨_, by first | rfl | (simp [errW_none, errW_some] <;> rfl) | (simp [*, errW_none, errW_some] <;> rfl), by first | exact Kd.R_nil _ _ _ _ _ | exact Kd.N_nil _ _ _ _ _ | exact Kd.V_nil _ _ _ _ _ | exact Kd.Q_nil _ _ _ _ _ | exact Kd.S_nil _ _ _ _ _, by repeat (first | (with_reducible first | exact HB.out | apply below_alloc | apply pw_below_drewN | apply below_drew1 | refine below_set ?_ GE182.out) | exact HB.out)⟩
end Go.Proofs.Ytjcfmfdkligmoaa.PLetterLimits
