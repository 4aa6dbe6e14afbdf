/- Written by a program (this session's own): functions that the law reaches, as plain Lean functions, each with the proof that the code comes to it. No conditions but those that stand in the theorems. -/
import Derived.Test.YtinplhdjgjijiaaPSplitZerosx0
import Derived.Test.YtinplhdjgjijiaaPSplitZerosx3
namespace Go.Proofs.Ytinplhdjgjijiaa.PSplitZeros
open Go.RowKit Go.Proofs.YtinplhdjgjijiaaW.PrintWords Go.Proofs.YtinplhdjgjijiaaW.PrintLast Go.Proofs.YtinplhdjgjijiaaW.PrintMore
attribute [local go_sem] max2_int min2_int max_two min_two max_three min_three max_four min_four   -- for this text's walks alone
set_option linter.unusedVariables false
set_option linter.unusedSimpArgs false

/-! ### fountainlaw12_SplitZeros: function 10 -/
mutual
def fountainlaw12_SplitZeros.j0 : Nat → Int → Int → Int → Bool → Bool → Option (Bool)
  | 0, _, _, _, _, _ => none
  | k + 1, x0, x1, x2, x7, x43 => if x43 = true then (some x7) else (if 0 ≤ x0 then (if (x0 : Int).toNat ≤ 281474976710656 then (fountainlaw12_SplitZeros.l0 k x0 x1 x2 (List.replicate (x0 : Int).toNat 0) 0) else (none)) else (none))
def fountainlaw12_SplitZeros.l0 : Nat → Int → Int → Int → List Int → Int → Option (Bool)
  | 0, _, _, _, _, _ => none
  | k + 1, x0, x1, x2, x8, x9 => if x9 < x0 then (if 0 ≤ x9 then (if x9 < (x8.length : Int) then (fountainlaw12_SplitZeros.l0 k x0 x1 x2 (x8.set (x9 : Int).toNat 7) (wrap64 (x9 + 1))) else (none)) else (none)) else ((split_Cut.f k x0 x1 x2 x8).bind fun bt170 => (fountainlaw12_SplitZeros.l1 k x0 x1 bt170.1 bt170.2 0 0 0))
def fountainlaw12_SplitZeros.l1 : Nat → Int → Int → List (List (List Int)) → Int → Int → Int → Int → Option (Bool)
  | 0, _, _, _, _, _, _, _ => none
  | k + 1, x0, x1, x10, x11, x12, x13, x14 => if x14 < (x10.length : Int) then (fountainlaw12_SplitZeros.l2 k x0 x1 x10 x11 x12 x13 x14 0) else ((fountainlaw12_num.f x11).bind fun t174 => (if t174 = 0 then (if x12 = x0 then (if x13 < x1 then (if x1 = 0 then (none) else (some ((Int.tmod (wrap64 (x12 + x13)) x1) == 0))) else (some false)) else (some false)) else (some false)))
def fountainlaw12_SplitZeros.l2 : Nat → Int → Int → List (List (List Int)) → Int → Int → Int → Int → Int → Option (Bool)
  | 0, _, _, _, _, _, _, _, _ => none
  | k + 1, x0, x1, x10, x11, x12, x13, x14, x15 => if 0 ≤ x14 then (if x14 < (x10.length : Int) then (if x15 < ((rd_L2 x10 x14).length : Int) then (if 0 ≤ x15 then (if ((rd_L1 (rd_L2 x10 x14) x15).length : Int) = x1 then (fountainlaw12_SplitZeros.l3 k x0 x1 x10 x11 x12 x13 x14 x15 0) else (some false)) else (none)) else (fountainlaw12_SplitZeros.l1 k x0 x1 x10 x11 x12 x13 (wrap64 (x14 + 1)))) else (none)) else (none)
def fountainlaw12_SplitZeros.l3 : Nat → Int → Int → List (List (List Int)) → Int → Int → Int → Int → Int → Int → Option (Bool)
  | 0, _, _, _, _, _, _, _, _, _ => none
  | k + 1, x0, x1, x10, x11, x12, x13, x14, x15, x16 => if x16 < x1 then (if 0 ≤ x14 then (if x14 < (x10.length : Int) then (if 0 ≤ x15 then (if x15 < ((rd_L2 x10 x14).length : Int) then (if 0 ≤ x16 then (if x16 < ((rd_L1 (rd_L2 x10 x14) x15).length : Int) then (if (rd (rd_L1 (rd_L2 x10 x14) x15) x16) = 7 then (fountainlaw12_SplitZeros.j5 k x0 x1 x10 x11 x12 x13 x14 x15 x16 (x13 == 0)) else (fountainlaw12_SplitZeros.j5 k x0 x1 x10 x11 x12 x13 x14 x15 x16 false)) else (none)) else (none)) else (none)) else (none)) else (none)) else (none)) else (fountainlaw12_SplitZeros.l2 k x0 x1 x10 x11 x12 x13 x14 (wrap64 (x15 + 1)))
def fountainlaw12_SplitZeros.j5 : Nat → Int → Int → List (List (List Int)) → Int → Int → Int → Int → Int → Int → Bool → Option (Bool)
  | 0, _, _, _, _, _, _, _, _, _, _ => none
  | k + 1, x0, x1, x10, x11, x12, x13, x14, x15, x16, x94 => if x94 = true then (fountainlaw12_SplitZeros.l3 k x0 x1 x10 x11 (wrap64 (x12 + 1)) x13 x14 x15 (wrap64 (x16 + 1))) else (if 0 ≤ x14 then (if x14 < (x10.length : Int) then (if 0 ≤ x15 then (if x15 < ((rd_L2 x10 x14).length : Int) then (if 0 ≤ x16 then (if x16 < ((rd_L1 (rd_L2 x10 x14) x15).length : Int) then (if (rd (rd_L1 (rd_L2 x10 x14) x15) x16) = 0 then (fountainlaw12_SplitZeros.l3 k x0 x1 x10 x11 x12 (wrap64 (x13 + 1)) x14 x15 (wrap64 (x16 + 1))) else (some false)) else (none)) else (none)) else (none)) else (none)) else (none)) else (none))
end
def fountainlaw12_SplitZeros.f (k : Nat) (a0 : Int) (a1 : Int) (a2 : Int) : Option (Bool) := (fountainlaw12_alive.f k).bind fun t165 => (if t165 = true then (if a0 < 1 then (fountainlaw12_SplitZeros.j0 k a0 a1 a2 t165 true) else (if a0 > 4000 then (fountainlaw12_SplitZeros.j0 k a0 a1 a2 t165 true) else (if a1 < 1 then (fountainlaw12_SplitZeros.j0 k a0 a1 a2 t165 true) else (if a1 > 64 then (fountainlaw12_SplitZeros.j0 k a0 a1 a2 t165 true) else (if a2 < 1 then (fountainlaw12_SplitZeros.j0 k a0 a1 a2 t165 true) else (fountainlaw12_SplitZeros.j0 k a0 a1 a2 t165 (decide (a2 > 40)))))))) else (fountainlaw12_SplitZeros.j0 k a0 a1 a2 t165 true))
theorem fountainlaw12_SplitZeros.mono_l : ∀ k, (∀ y0 y1 y2 y3 y4, LeO (fountainlaw12_SplitZeros.j0 k y0 y1 y2 y3 y4) (fountainlaw12_SplitZeros.j0 (k + 1) y0 y1 y2 y3 y4)) ∧ (∀ y0 y1 y2 y3 y4, LeO (fountainlaw12_SplitZeros.l0 k y0 y1 y2 y3 y4) (fountainlaw12_SplitZeros.l0 (k + 1) y0 y1 y2 y3 y4)) ∧ (∀ y0 y1 y2 y3 y4 y5 y6, LeO (fountainlaw12_SplitZeros.l1 k y0 y1 y2 y3 y4 y5 y6) (fountainlaw12_SplitZeros.l1 (k + 1) y0 y1 y2 y3 y4 y5 y6)) ∧ (∀ y0 y1 y2 y3 y4 y5 y6 y7, LeO (fountainlaw12_SplitZeros.l2 k y0 y1 y2 y3 y4 y5 y6 y7) (fountainlaw12_SplitZeros.l2 (k + 1) y0 y1 y2 y3 y4 y5 y6 y7)) ∧ (∀ y0 y1 y2 y3 y4 y5 y6 y7 y8, LeO (fountainlaw12_SplitZeros.l3 k y0 y1 y2 y3 y4 y5 y6 y7 y8) (fountainlaw12_SplitZeros.l3 (k + 1) y0 y1 y2 y3 y4 y5 y6 y7 y8)) ∧ (∀ y0 y1 y2 y3 y4 y5 y6 y7 y8 y9, LeO (fountainlaw12_SplitZeros.j5 k y0 y1 y2 y3 y4 y5 y6 y7 y8 y9) (fountainlaw12_SplitZeros.j5 (k + 1) y0 y1 y2 y3 y4 y5 y6 y7 y8 y9))
  | 0 => ⟨fun _ _ _ _ _ r h => by simp [fountainlaw12_SplitZeros.j0] at h, fun _ _ _ _ _ r h => by simp [fountainlaw12_SplitZeros.l0] at h, fun _ _ _ _ _ _ _ r h => by simp [fountainlaw12_SplitZeros.l1] at h, fun _ _ _ _ _ _ _ _ r h => by simp [fountainlaw12_SplitZeros.l2] at h, fun _ _ _ _ _ _ _ _ _ r h => by simp [fountainlaw12_SplitZeros.l3] at h, fun _ _ _ _ _ _ _ _ _ _ r h => by simp [fountainlaw12_SplitZeros.j5] at h⟩
  | k + 1 => by
    obtain ⟨ih0, ih1, ih2, ih3, ih4, ih5⟩ := fountainlaw12_SplitZeros.mono_l k
    refine ⟨?_, ?_, ?_, ?_, ?_, ?_⟩
    · intro y0 y1 y2 y3 y4
      unfold fountainlaw12_SplitZeros.j0
      repeat' first
      | (with_reducible exact ih0 _ _ _ _ _)
      | (with_reducible exact ih1 _ _ _ _ _)
      | (with_reducible exact ih2 _ _ _ _ _ _ _)
      | (with_reducible exact ih3 _ _ _ _ _ _ _ _)
      | (with_reducible exact ih4 _ _ _ _ _ _ _ _ _)
      | (with_reducible exact ih5 _ _ _ _ _ _ _ _ _ _)
      | (with_reducible exact fountainlaw12_alive.mono _)
      | (with_reducible exact split_Cut.mono _ _ _ _ _)
      | (with_reducible exact LeO.refl _)
      | (with_reducible exact LeO.none _)
      | (with_reducible refine LeO.ite ?_ ?_)
      | (with_reducible refine LeO.bind ?_ (fun _ => ?_))
      | exact ih0 _ _ _ _ _
      | exact ih1 _ _ _ _ _
      | exact ih2 _ _ _ _ _ _ _
      | exact ih3 _ _ _ _ _ _ _ _
      | exact ih4 _ _ _ _ _ _ _ _ _
      | exact ih5 _ _ _ _ _ _ _ _ _ _
      | exact fountainlaw12_alive.mono _
      | exact split_Cut.mono _ _ _ _ _
      | exact LeO.none _
      | refine LeO.ite ?_ ?_
      | refine LeO.bind ?_ (fun _ => ?_)
    · intro y0 y1 y2 y3 y4
      unfold fountainlaw12_SplitZeros.l0
      repeat' first
      | (with_reducible exact ih0 _ _ _ _ _)
      | (with_reducible exact ih1 _ _ _ _ _)
      | (with_reducible exact ih2 _ _ _ _ _ _ _)
      | (with_reducible exact ih3 _ _ _ _ _ _ _ _)
      | (with_reducible exact ih4 _ _ _ _ _ _ _ _ _)
      | (with_reducible exact ih5 _ _ _ _ _ _ _ _ _ _)
      | (with_reducible exact fountainlaw12_alive.mono _)
      | (with_reducible exact split_Cut.mono _ _ _ _ _)
      | (with_reducible exact LeO.refl _)
      | (with_reducible exact LeO.none _)
      | (with_reducible refine LeO.ite ?_ ?_)
      | (with_reducible refine LeO.bind ?_ (fun _ => ?_))
      | exact ih0 _ _ _ _ _
      | exact ih1 _ _ _ _ _
      | exact ih2 _ _ _ _ _ _ _
      | exact ih3 _ _ _ _ _ _ _ _
      | exact ih4 _ _ _ _ _ _ _ _ _
      | exact ih5 _ _ _ _ _ _ _ _ _ _
      | exact fountainlaw12_alive.mono _
      | exact split_Cut.mono _ _ _ _ _
      | exact LeO.none _
      | refine LeO.ite ?_ ?_
      | refine LeO.bind ?_ (fun _ => ?_)
    · intro y0 y1 y2 y3 y4 y5 y6
      unfold fountainlaw12_SplitZeros.l1
      repeat' first
      | (with_reducible exact ih0 _ _ _ _ _)
      | (with_reducible exact ih1 _ _ _ _ _)
      | (with_reducible exact ih2 _ _ _ _ _ _ _)
      | (with_reducible exact ih3 _ _ _ _ _ _ _ _)
      | (with_reducible exact ih4 _ _ _ _ _ _ _ _ _)
      | (with_reducible exact ih5 _ _ _ _ _ _ _ _ _ _)
      | (with_reducible exact fountainlaw12_alive.mono _)
      | (with_reducible exact split_Cut.mono _ _ _ _ _)
      | (with_reducible exact LeO.refl _)
      | (with_reducible exact LeO.none _)
      | (with_reducible refine LeO.ite ?_ ?_)
      | (with_reducible refine LeO.bind ?_ (fun _ => ?_))
      | exact ih0 _ _ _ _ _
      | exact ih1 _ _ _ _ _
      | exact ih2 _ _ _ _ _ _ _
      | exact ih3 _ _ _ _ _ _ _ _
      | exact ih4 _ _ _ _ _ _ _ _ _
      | exact ih5 _ _ _ _ _ _ _ _ _ _
      | exact fountainlaw12_alive.mono _
      | exact split_Cut.mono _ _ _ _ _
      | exact LeO.none _
      | refine LeO.ite ?_ ?_
      | refine LeO.bind ?_ (fun _ => ?_)
    · intro y0 y1 y2 y3 y4 y5 y6 y7
      unfold fountainlaw12_SplitZeros.l2
      repeat' first
      | (with_reducible exact ih0 _ _ _ _ _)
      | (with_reducible exact ih1 _ _ _ _ _)
      | (with_reducible exact ih2 _ _ _ _ _ _ _)
      | (with_reducible exact ih3 _ _ _ _ _ _ _ _)
      | (with_reducible exact ih4 _ _ _ _ _ _ _ _ _)
      | (with_reducible exact ih5 _ _ _ _ _ _ _ _ _ _)
      | (with_reducible exact fountainlaw12_alive.mono _)
      | (with_reducible exact split_Cut.mono _ _ _ _ _)
      | (with_reducible exact LeO.refl _)
      | (with_reducible exact LeO.none _)
      | (with_reducible refine LeO.ite ?_ ?_)
      | (with_reducible refine LeO.bind ?_ (fun _ => ?_))
      | exact ih0 _ _ _ _ _
      | exact ih1 _ _ _ _ _
      | exact ih2 _ _ _ _ _ _ _
      | exact ih3 _ _ _ _ _ _ _ _
      | exact ih4 _ _ _ _ _ _ _ _ _
      | exact ih5 _ _ _ _ _ _ _ _ _ _
      | exact fountainlaw12_alive.mono _
      | exact split_Cut.mono _ _ _ _ _
      | exact LeO.none _
      | refine LeO.ite ?_ ?_
      | refine LeO.bind ?_ (fun _ => ?_)
    · intro y0 y1 y2 y3 y4 y5 y6 y7 y8
      unfold fountainlaw12_SplitZeros.l3
      repeat' first
      | (with_reducible exact ih0 _ _ _ _ _)
      | (with_reducible exact ih1 _ _ _ _ _)
      | (with_reducible exact ih2 _ _ _ _ _ _ _)
      | (with_reducible exact ih3 _ _ _ _ _ _ _ _)
      | (with_reducible exact ih4 _ _ _ _ _ _ _ _ _)
      | (with_reducible exact ih5 _ _ _ _ _ _ _ _ _ _)
      | (with_reducible exact fountainlaw12_alive.mono _)
      | (with_reducible exact split_Cut.mono _ _ _ _ _)
      | (with_reducible exact LeO.refl _)
      | (with_reducible exact LeO.none _)
      | (with_reducible refine LeO.ite ?_ ?_)
      | (with_reducible refine LeO.bind ?_ (fun _ => ?_))
      | exact ih0 _ _ _ _ _
      | exact ih1 _ _ _ _ _
      | exact ih2 _ _ _ _ _ _ _
      | exact ih3 _ _ _ _ _ _ _ _
      | exact ih4 _ _ _ _ _ _ _ _ _
      | exact ih5 _ _ _ _ _ _ _ _ _ _
      | exact fountainlaw12_alive.mono _
      | exact split_Cut.mono _ _ _ _ _
      | exact LeO.none _
      | refine LeO.ite ?_ ?_
      | refine LeO.bind ?_ (fun _ => ?_)
    · intro y0 y1 y2 y3 y4 y5 y6 y7 y8 y9
      unfold fountainlaw12_SplitZeros.j5
      repeat' first
      | (with_reducible exact ih0 _ _ _ _ _)
      | (with_reducible exact ih1 _ _ _ _ _)
      | (with_reducible exact ih2 _ _ _ _ _ _ _)
      | (with_reducible exact ih3 _ _ _ _ _ _ _ _)
      | (with_reducible exact ih4 _ _ _ _ _ _ _ _ _)
      | (with_reducible exact ih5 _ _ _ _ _ _ _ _ _ _)
      | (with_reducible exact fountainlaw12_alive.mono _)
      | (with_reducible exact split_Cut.mono _ _ _ _ _)
      | (with_reducible exact LeO.refl _)
      | (with_reducible exact LeO.none _)
      | (with_reducible refine LeO.ite ?_ ?_)
      | (with_reducible refine LeO.bind ?_ (fun _ => ?_))
      | exact ih0 _ _ _ _ _
      | exact ih1 _ _ _ _ _
      | exact ih2 _ _ _ _ _ _ _
      | exact ih3 _ _ _ _ _ _ _ _
      | exact ih4 _ _ _ _ _ _ _ _ _
      | exact ih5 _ _ _ _ _ _ _ _ _ _
      | exact fountainlaw12_alive.mono _
      | exact split_Cut.mono _ _ _ _ _
      | exact LeO.none _
      | refine LeO.ite ?_ ?_
      | refine LeO.bind ?_ (fun _ => ?_)
theorem fountainlaw12_SplitZeros.mono : ∀ a0 a1 a2 k, LeO (fountainlaw12_SplitZeros.f k a0 a1 a2) (fountainlaw12_SplitZeros.f (k + 1) a0 a1 a2) := by
  intro a0 a1 a2 k
  obtain ⟨ih0, ih1, ih2, ih3, ih4, ih5⟩ := fountainlaw12_SplitZeros.mono_l k
  unfold fountainlaw12_SplitZeros.f
  repeat' first
      | (with_reducible exact ih0 _ _ _ _ _)
      | (with_reducible exact ih1 _ _ _ _ _)
      | (with_reducible exact ih2 _ _ _ _ _ _ _)
      | (with_reducible exact ih3 _ _ _ _ _ _ _ _)
      | (with_reducible exact ih4 _ _ _ _ _ _ _ _ _)
      | (with_reducible exact ih5 _ _ _ _ _ _ _ _ _ _)
      | (with_reducible exact fountainlaw12_alive.mono _)
      | (with_reducible exact split_Cut.mono _ _ _ _ _)
      | (with_reducible exact LeO.refl _)
      | (with_reducible exact LeO.none _)
      | (with_reducible refine LeO.ite ?_ ?_)
      | (with_reducible refine LeO.bind ?_ (fun _ => ?_))
      | exact ih0 _ _ _ _ _
      | exact ih1 _ _ _ _ _
      | exact ih2 _ _ _ _ _ _ _
      | exact ih3 _ _ _ _ _ _ _ _
      | exact ih4 _ _ _ _ _ _ _ _ _
      | exact ih5 _ _ _ _ _ _ _ _ _ _
      | exact fountainlaw12_alive.mono _
      | exact split_Cut.mono _ _ _ _ _
      | exact LeO.none _
      | refine LeO.ite ?_ ?_
      | refine LeO.bind ?_ (fun _ => ?_)
set_option maxHeartbeats 8000000 in
set_option maxRecDepth 100000 in
theorem fountainlaw12_SplitZeros.calls (k : Nat) (a0 : Int) (a1 : Int) (a2 : Int) (r : Bool) (w : World) (h : fountainlaw12_SplitZeros.f k a0 a1 a2 = some r) :
    Calls Try.prog 10 #[.int .i64 a0, .int .i64 a1, .int .i64 a2] w fun e w' => e = .returned (.bool r) ∧ Below w.heap.size w w' := by
  have hu48 := Try.underlying48
  have HB := Aside0.mk (Below.refl w.heap.size w)
  have H : ((fountainlaw12_alive.f k).bind fun t165 => (if t165 = true then (if a0 < 1 then (fountainlaw12_SplitZeros.j0 k a0 a1 a2 t165 true) else (if a0 > 4000 then (fountainlaw12_SplitZeros.j0 k a0 a1 a2 t165 true) else (if a1 < 1 then (fountainlaw12_SplitZeros.j0 k a0 a1 a2 t165 true) else (if a1 > 64 then (fountainlaw12_SplitZeros.j0 k a0 a1 a2 t165 true) else (if a2 < 1 then (fountainlaw12_SplitZeros.j0 k a0 a1 a2 t165 true) else (fountainlaw12_SplitZeros.j0 k a0 a1 a2 t165 (decide (a2 > 40)))))))) else (fountainlaw12_SplitZeros.j0 k a0 a1 a2 t165 true))) = some r := h
  clear h
  replace H := Option.bind_eq_some_iff.mp H
  obtain ⟨t165, A40, H⟩ := H
  replace H : (if t165 = true then (if a0 < 1 then (fountainlaw12_SplitZeros.j0 k a0 a1 a2 t165 true) else (if a0 > 4000 then (fountainlaw12_SplitZeros.j0 k a0 a1 a2 t165 true) else (if a1 < 1 then (fountainlaw12_SplitZeros.j0 k a0 a1 a2 t165 true) else (if a1 > 64 then (fountainlaw12_SplitZeros.j0 k a0 a1 a2 t165 true) else (if a2 < 1 then (fountainlaw12_SplitZeros.j0 k a0 a1 a2 t165 true) else (fountainlaw12_SplitZeros.j0 k a0 a1 a2 t165 (decide (a2 > 40)))))))) else (fountainlaw12_SplitZeros.j0 k a0 a1 a2 t165 true)) = some r := H
  have A4 := Aside0.mk A40
  clear A40
  have HC5 := Aside0.mk H
  clear H
  go_enter Try.func10, Try.ntmps10
  go_upto_region 2 with (first | ((with_reducible refine gate_callee (f := 32) rfl ?_); refine goesL_ (some 17) rfl rfl Try.func32 (by kernel_rfl) rfl #[] rfl (by (try simp only [List.map_toArray, List.map_cons, List.map_nil]); first | done | rfl | (simp only [List.length_drop, List.length_take]; rfl)) ?_; (with_reducible refine (fountainlaw12_alive.calls k  t165 _ A4.out).mono ?_); rintro e w6 ⟨rfl, hb⟩; refine ⟨_, rfl, ?_⟩; have n0_ := Aside0.mk (below_step (by repeat (first | (with_reducible first | exact HB.out | apply below_alloc | apply pw_below_drewN | apply below_drew1) | exact HB.out)) hb); clear HB; have HB := n0_; clear n0_; (try clear hb); (try clear hb2); (try clear hk); (try clear hi)))
  (try simp only [Act.put, List.setIfInBounds_toArray, List.set_cons_zero, List.set_cons_succ])
  go_cut [43] (fun v43 wc => ∃ (kq : Nat) (x43_4 : Bool), v43 = .bool x43_4 ∧ Aside0 (fountainlaw12_SplitZeros.j0 kq a0 a1 a2 t165 x43_4 = some r) ∧ Aside0 (kq ≤ k) ∧ Aside0 (Below w.heap.size w wc))
  case first =>
    have H := HC5.out
    clear HC5
    by_cases c7 : t165 = true
    · subst c7
      have H1 : (if a0 < 1 then (fountainlaw12_SplitZeros.j0 k a0 a1 a2 true true) else (if a0 > 4000 then (fountainlaw12_SplitZeros.j0 k a0 a1 a2 true true) else (if a1 < 1 then (fountainlaw12_SplitZeros.j0 k a0 a1 a2 true true) else (if a1 > 64 then (fountainlaw12_SplitZeros.j0 k a0 a1 a2 true true) else (if a2 < 1 then (fountainlaw12_SplitZeros.j0 k a0 a1 a2 true true) else (fountainlaw12_SplitZeros.j0 k a0 a1 a2 true (decide (a2 > 40)))))))) = some r := by rw [if_pos rfl] at H; exact H
      clear H
      have H := H1
      clear H1
      by_cases c8 : a0 < 1
      · rw [if_pos c8] at H
        have c8b0 : decide (a0 < 1) = true := decide_eq_true c8
        clear c8
        (first | rw [c8b0] | (simp only [i64_w, i32_w]; rw [c8b0]) | skip)
        have H' := Aside0.mk H
        clear H
        go_wp2
        go_meet
        case rel => exact ⟨_, (true), (by first | rfl | (simp; done) | (simp [*]; done)), H', ⟨by first | omega | exact Nat.le_refl _⟩, ⟨by repeat (first | (with_reducible first | exact HB.out | apply below_alloc | apply pw_below_drewN | apply below_drew1) | exact HB.out)⟩⟩
      · rw [if_neg c8] at H
        have c8b0 : decide (a0 < 1) = false := decide_eq_false c8
        clear c8
        (first | rw [c8b0] | (simp only [i64_w, i32_w]; rw [c8b0]) | skip)
        by_cases c9 : a0 > 4000
        · rw [if_pos c9] at H
          have c9b0 : decide (4000 < a0) = true := decide_eq_true c9
          clear c9
          have H' := Aside0.mk H
          clear H
          go_wp2
          go_meet
          case rel => exact ⟨_, (true), (by first | rfl | (simp; done) | (simp [*]; done)), H', ⟨by first | omega | exact Nat.le_refl _⟩, ⟨by repeat (first | (with_reducible first | exact HB.out | apply below_alloc | apply pw_below_drewN | apply below_drew1) | exact HB.out)⟩⟩
        · rw [if_neg c9] at H
          have c9b0 : decide (4000 < a0) = false := decide_eq_false c9
          clear c9
          by_cases c10 : a1 < 1
          · rw [if_pos c10] at H
            have c10b0 : decide (a1 < 1) = true := decide_eq_true c10
            clear c10
            have H' := Aside0.mk H
            clear H
            go_wp2
            go_meet
            case rel => exact ⟨_, (true), (by first | rfl | (simp; done) | (simp [*]; done)), H', ⟨by first | omega | exact Nat.le_refl _⟩, ⟨by repeat (first | (with_reducible first | exact HB.out | apply below_alloc | apply pw_below_drewN | apply below_drew1) | exact HB.out)⟩⟩
          · rw [if_neg c10] at H
            have c10b0 : decide (a1 < 1) = false := decide_eq_false c10
            clear c10
            by_cases c11 : a1 > 64
            · rw [if_pos c11] at H
              have c11b0 : decide (64 < a1) = true := decide_eq_true c11
              clear c11
              have H' := Aside0.mk H
              clear H
              go_wp2
              go_meet
              case rel => exact ⟨_, (true), (by first | rfl | (simp; done) | (simp [*]; done)), H', ⟨by first | omega | exact Nat.le_refl _⟩, ⟨by repeat (first | (with_reducible first | exact HB.out | apply below_alloc | apply pw_below_drewN | apply below_drew1) | exact HB.out)⟩⟩
            · rw [if_neg c11] at H
              have c11b0 : decide (64 < a1) = false := decide_eq_false c11
              clear c11
              by_cases c12 : a2 < 1
              · rw [if_pos c12] at H
                have c12b0 : decide (a2 < 1) = true := decide_eq_true c12
                clear c12
                have H' := Aside0.mk H
                clear H
                go_wp2
                go_meet
                case rel => exact ⟨_, (true), (by first | rfl | (simp; done) | (simp [*]; done)), H', ⟨by first | omega | exact Nat.le_refl _⟩, ⟨by repeat (first | (with_reducible first | exact HB.out | apply below_alloc | apply pw_below_drewN | apply below_drew1) | exact HB.out)⟩⟩
              · rw [if_neg c12] at H
                have c12b0 : decide (a2 < 1) = false := decide_eq_false c12
                clear c12
                have H' := Aside0.mk H
                clear H
                go_wp2
                go_meet
                case rel => exact ⟨_, (decide (a2 > 40)), (by first | rfl | (simp; done) | (simp [*]; done)), H', ⟨by first | omega | exact Nat.le_refl _⟩, ⟨by repeat (first | (with_reducible first | exact HB.out | apply below_alloc | apply pw_below_drewN | apply below_drew1) | exact HB.out)⟩⟩
    · replace c7 := Bool.eq_false_iff.mpr c7
      subst c7
      have H1 : (fountainlaw12_SplitZeros.j0 k a0 a1 a2 false true) = some r := by rw [if_neg (show ¬ (false = true) by decide)] at H; exact H
      clear H
      have H := H1
      clear H1
      have H' := Aside0.mk H
      clear H
      go_wp2
      go_meet
      case rel => exact ⟨_, (true), (by first | rfl | (simp; done) | (simp [*]; done)), H', ⟨by first | omega | exact Nat.le_refl _⟩, ⟨by repeat (first | (with_reducible first | exact HB.out | apply below_alloc | apply pw_below_drewN | apply below_drew1) | exact HB.out)⟩⟩
  case rest =>
    clear HC5
    try clear c1
    try clear p2
    try clear c3
    try clear c7
    try clear c8
    try clear c8b0
    try clear c9
    try clear c9b0
    try clear c10
    try clear c10b0
    try clear c11
    try clear c11b0
    try clear c12
    try clear c12b0
    obtain ⟨kq, x43_4, rfl, HA, HJ4, HB⟩ := hcut
    cases kq with
    | zero => exact absurd HA.out (by simp [fountainlaw12_SplitZeros.j0])
    | succ kj4 =>
      have H := HA.out
      clear HA
      simp only [fountainlaw12_SplitZeros.j0] at H
      by_cases c13 : x43_4 = true
      · subst c13
        have H1 : (some t165) = some r := by rw [if_pos rfl] at H; exact H
        clear H
        have H := H1
        clear H1
        obtain rfl := Option.some.inj H
        go_wp2
        go_ret
        exact ⟨by first | rfl | (simp [errW_none, errW_some] <;> rfl) | (simp [*, errW_none, errW_some] <;> rfl), by repeat (first | (with_reducible first | exact HB.out | apply below_alloc | apply pw_below_drewN | apply below_drew1) | exact HB.out)⟩
      · replace c13 := Bool.eq_false_iff.mpr c13
        subst c13
        have H1 : (if 0 ≤ a0 then (if (a0 : Int).toNat ≤ 281474976710656 then (fountainlaw12_SplitZeros.l0 kj4 a0 a1 a2 (List.replicate (a0 : Int).toNat 0) 0) else (none)) else (none)) = some r := by rw [if_neg (show ¬ (false = true) by decide)] at H; exact H
        clear H
        have H := H1
        clear H1
        by_cases c14 : 0 ≤ a0
        · rw [if_pos c14] at H
          have c14b0 := eq_true c14
          have c14b1 : decide (0 ≤ a0) = true := decide_eq_true c14
          clear c14
          by_cases c15 : (a0 : Int).toNat ≤ 281474976710656
          · rw [if_pos c15] at H
            have c15b0 := eq_true c15
            have c15b1 : decide ((a0 : Int).toNat ≤ 281474976710656) = true := decide_eq_true c15
            clear c15
            obtain ⟨y166, hy166⟩ : ∃ y_ : List Int, y_ = (List.replicate (a0 : Int).toNat 0) := ⟨_, rfl⟩
            replace H : (fountainlaw12_SplitZeros.l0 kj4 a0 a1 a2 y166 0) = some r := by first | (rw [hy166]; with_reducible exact H) | (have H2_ := (Option.bind_some _ _).symm.trans H; rw [hy166]; with_reducible exact H2_) | (have H2_ := (Option.bind_some _ _).symm.trans H; with_reducible exact H2_) | with_reducible exact H | (rw [hy166]; exact H) | exact H
            have Ny166 := Aside0.mk hy166
            clear hy166
            have H' := Aside0.mk H
            clear H
            go_wp2_with (first | ((with_reducible refine gate_dst (N := 46) rfl ?_); refine Kd.R_make (Kd.int .u8) _ 5 rfl (N := 46) rfl 22 _ _ rfl a0 rfl rfl Try.underlying22 (.int .u8 0) 1 info5 rfl (by decide) (by omega) 0 (ok := fun _ => True) (okp := fun _ => True) rfl (fun _ hk => hk) trivial (of_decide_eq_true (by first | (with_reducible assumption) | assumption)) (Nat.le_trans (Nat.mul_le_mul_right _ (of_decide_eq_true (by first | (with_reducible assumption) | assumption) : a0.toNat ≤ 281474976710656)) (by omega)) (Below.refl _ _) (Nat.le_refl _) ?_; intro v167 w16 ho17 hb hg_ hnew_; clear hg_ hnew_; (first | rw [← Ny166.out] at ho17 | (simp only [Int.reduceToNat] at ho17; rw [← Ny166.out] at ho17)); have n0_ := Aside0.mk (Kd.R_lower ho17 (below_size (by repeat (first | (with_reducible first | exact HB.out | apply below_alloc | apply pw_below_drewN | apply below_drew1) | exact HB.out)))); have n1_ := Aside0.mk (below_step (by repeat (first | (with_reducible first | exact HB.out | apply below_alloc | apply pw_below_drewN | apply below_drew1) | exact HB.out)) hb); clear HB; have HO168 := n0_; have HB := n1_; clear n0_ n1_; clear hb ho17))
            go_loopg [9] kj4 (fun kq v9 w' => ∃ (x8_2 : List Int) (x9_2 : Int), v9 = .int .i64 x9_2 ∧ Aside0 (fountainlaw12_SplitZeros.l0 kq a0 a1 a2 x8_2 x9_2 = some r) ∧ Aside0 (kq ≤ kj4) ∧ Aside0 (Kd.R (Kd.int .u8) 5 w' w.heap.size (fun _ => True) v167 x8_2) ∧ Aside0 (Below w.heap.size w w'))
            case atStart => exact ⟨(y166), (0), (by first | rfl | (simp; done) | (simp [*]; done)), H', ⟨Nat.le_refl _⟩, ⟨by (with_reducible repeat (first | apply Kd.R_alloc | apply Kd.R_drewN | apply Kd.R_drew)); exact HO168.out⟩, ⟨by repeat (first | (with_reducible first | exact HB.out | apply below_alloc | apply pw_below_drewN | apply below_drew1) | exact HB.out)⟩⟩
            case round =>
              clear H'
              try clear c1
              try clear p2
              try clear c3
              try clear c7
              try clear c8
              try clear c8b0
              try clear c9
              try clear c9b0
              try clear c10
              try clear c10b0
              try clear c11
              try clear c11b0
              try clear c12
              try clear c12b0
              try clear c13
              try clear c14
              try clear c14b0
              try clear c14b1
              try clear c15
              try clear c15b0
              try clear c15b1
              try clear p2
              obtain ⟨x8_2, x9_2, rfl, HA, HK2, HO_8, HB⟩ := hrel
              cases gk with
              | zero => exact absurd HA.out (by simp [fountainlaw12_SplitZeros.l0])
              | succ k2 =>
                have H := HA.out
                clear HA
                simp only [fountainlaw12_SplitZeros.l0] at H
                by_cases c18 : x9_2 < a0
                · rw [if_pos c18] at H
                  have c18b0 : decide (x9_2 < a0) = true := decide_eq_true c18
                  clear c18
                  by_cases c19 : 0 ≤ x9_2
                  · rw [if_pos c19] at H
                    have c19b0 : decide (0 ≤ x9_2) = true := decide_eq_true c19
                    clear c19
                    by_cases c20 : x9_2 < (x8_2.length : Int)
                    · rw [if_pos c20] at H
                      have c20b0 : decide (x9_2 < (x8_2.length : Int)) = true := decide_eq_true c20
                      clear c20
                      obtain ⟨y169, hy169⟩ : ∃ y_ : List Int, y_ = (x8_2.set (x9_2 : Int).toNat 7) := ⟨_, rfl⟩
                      replace H : (fountainlaw12_SplitZeros.l0 k2 a0 a1 a2 y169 (wrap64 (x9_2 + 1))) = some r := by first | (rw [hy169]; with_reducible exact H) | (have H2_ := (Option.bind_some _ _).symm.trans H; rw [hy169]; with_reducible exact H2_) | (have H2_ := (Option.bind_some _ _).symm.trans H; with_reducible exact H2_) | with_reducible exact H | (rw [hy169]; exact H) | exact H
                      have Ny169 := Aside0.mk hy169
                      clear hy169
                      have H' := Aside0.mk H
                      clear H
                      have p21 : 0 ≤ (x9_2 : Int) := of_decide_eq_true (by first | (with_reducible assumption) | assumption)
                      have q21 : (x9_2 : Int) < ((x8_2.length : Int) : Int) := of_decide_eq_true (by first | (with_reducible assumption) | assumption)
                      obtain ⟨go21, co21, eo21, gb21, gl21, cl21, HG21⟩ := Kd.R_form HO_8.out (by omega)
                      (first | cases eo21 | (injection eo21 with ea_ en_ ec_; (first | subst ea_ | (injection ea_ with ea_; subst ea_)); subst ec_; clear en_))
                      have GB21 := Aside0.mk gb21
                      have GG21 := Aside0.mk HG21
                      clear gb21 gl21 HG21
                      obtain ⟨hx21_0, hf21_0⟩ := Kd.R_celln 0 HO_8.out (x9_2 : Int) p21 q21
                      replace p21 := eq_true p21
                      replace q21 := eq_true q21
                      have HP22 := Kd.R_putg HO_8.out (x9_2 : Int) 7
                      go_wp2_with (first | ((with_reducible refine gate_store (t := 5) (p := 54) rfl ?_); refine store_event (t := 5) (p := 54) (v := ?vo_w23) (w1 := (wr.setCell ⟨go21, (x9_2 : Int).toNat, none⟩ (.int .u8 7))) ?hg ?ho ?hn ?hr ?_; (case ho => rfl); (case hg => rfl); (case hn => rfl); (case hr => first | (go_simp; done) | (go_simp; rfl)); intro w23 hw; have hg : wr.grownBy w23 (some go21) := (by rw [hw]; exact HP22.2); have hp_ : Kd.R (Kd.int .u8) 5 w23 w.heap.size (fun _ => True) (.slice (some ⟨go21, 0, none⟩) x8_2.length co21) y169 := (by rw [hw, Ny169.out]; exact HP22.1); clear HP22; have n0_ := Aside0.mk (hp_); have n1_ := Aside0.mk ((by rw [hw]; exact below_set (HB.out) GB21.out : Below w.heap.size w w23)); clear HO_8; clear HB; have HO_8 := n0_; have HB := n1_; clear n0_ n1_; clear hg hw hp_))
                      go_roundg k2
                      case measure => have := HJ4.out; have := HK2.out; omega
                      case rel => exact ⟨(y169), (wrap64 (x9_2 + 1)), (by first | rfl | (simp; done) | (simp [*]; done)), H', ⟨by have := HJ4.out; have := HK2.out; omega⟩, ⟨by (with_reducible repeat (first | apply Kd.R_alloc | apply Kd.R_drewN | apply Kd.R_drew)); exact HO_8.out⟩, ⟨by repeat (first | (with_reducible first | exact HB.out | apply below_alloc | apply pw_below_drewN | apply below_drew1) | exact HB.out)⟩⟩
                    · rw [if_neg c20] at H
                      exact absurd H (by simp)
                  · rw [if_neg c19] at H
                    exact absurd H (by simp)
                · rw [if_neg c18] at H
                  have c18b0 : decide (x9_2 < a0) = false := decide_eq_false c18
                  clear c18
                  replace H := Option.bind_eq_some_iff.mp H
                  obtain ⟨⟨t170, t173⟩, A240, H⟩ := H
                  replace H : (fountainlaw12_SplitZeros.l1 k2 a0 a1 t170 t173 0 0 0) = some r := H
                  have A24 := Aside0.mk A240
                  clear A240
                  have H' := Aside0.mk H
                  clear H
                  obtain ⟨Ao25, co25, eo25⟩ := Kd.R_slice HO_8.out
                  subst eo25
                  go_wp2_with (first | ((with_reducible refine gate_callee (f := 37) rfl ?_); refine goesL_ (some 61) rfl rfl Try.func37 (by kernel_rfl) rfl #[.agg #[.int .i64 a0, .int .i64 a1, .int .i64 a2], .slice Ao25 x8_2.length co25] rfl (by (try simp only [List.map_toArray, List.map_cons, List.map_nil]); first | done | rfl | (simp only [List.length_drop, List.length_take]; rfl)) ?_; (with_reducible refine (split_Cut.calls k2 a0 a1 a2 (fun k_ => some k_ = (.slice Ao25 x8_2.length co25 : Value).ownBlock) _ _ x8_2 t170 t173 _ ?side1 A24.out).mono ?_); (case side1 => exact Kd.R_V (Kd.R_tight rfl (HO_8.out))); rintro e w26 ⟨v171, rfl, ho0, hb⟩; refine ⟨_, rfl, ?_⟩; have n0_ := Aside0.mk (Kd.R_below (by (with_reducible repeat (first | apply Kd.R_alloc | apply Kd.R_drewN | apply Kd.R_drew)); exact HO_8.out) hb); have n1_ := Aside0.mk (Kd.R_lower (Kd.R_new' (Kd.R_mono (ok' := fun k_ => True) ho0 (fun _ hk_ => trivial)) (Kd.R_lt (by (with_reducible repeat (first | apply Kd.R_alloc | apply Kd.R_drewN | apply Kd.R_drew)); exact HO_8.out))) (below_size (by repeat (first | (with_reducible first | exact HB.out | apply below_alloc | apply pw_below_drewN | apply below_drew1) | exact HB.out)))); have n2_ := Aside0.mk (below_step (by repeat (first | (with_reducible first | exact HB.out | apply below_alloc | apply pw_below_drewN | apply below_drew1) | exact HB.out)) hb); clear HO_8; clear HB; have HO_8 := n0_; have HO172 := n1_; have HB := n2_; clear n0_ n1_ n2_; (try clear hb); (try clear hb2); (try clear hk); (try clear hi); (try clear ho0)))
                  go_loopg [12, 13, 14] k2 (fun kq v12 v13 v14 w' => ∃ (x12_3 : Int) (x13_3 : Int) (x14_3 : Int), v12 = .int .i64 x12_3 ∧ v13 = .int .i64 x13_3 ∧ v14 = .int .i64 x14_3 ∧ Aside0 (fountainlaw12_SplitZeros.l1 kq a0 a1 t170 t173 x12_3 x13_3 x14_3 = some r) ∧ Aside0 (kq ≤ k2) ∧ Aside0 (Kd.R (Kd.slice 32 (Kd.slice 5 (Kd.int .u8))) 39 w' w.heap.size (fun _ => True) v171 t170) ∧ Aside0 (Below w.heap.size w w'))
                  case atStart => exact ⟨(0), (0), (0), (by first | rfl | (simp; done) | (simp [*]; done)), (by first | rfl | (simp; done) | (simp [*]; done)), (by first | rfl | (simp; done) | (simp [*]; done)), H', ⟨Nat.le_refl _⟩, ⟨by (with_reducible repeat (first | apply Kd.R_alloc | apply Kd.R_drewN | apply Kd.R_drew)); exact Kd.R_mono HO172.out (fun _ hk => trivial)⟩, ⟨by repeat (first | (with_reducible first | exact HB.out | apply below_alloc | apply pw_below_drewN | apply below_drew1) | exact HB.out)⟩⟩
                  case round =>
                    clear H'
                    try clear c1
                    try clear c2
                    try clear p2
                    try clear q2
                    try clear hx2
                    try clear c3
                    try clear p6
                    try clear c7
                    try clear c8
                    try clear c8b0
                    try clear c9
                    try clear c9b0
                    try clear c10
                    try clear c10b0
                    try clear c11
                    try clear c11b0
                    try clear c12
                    try clear c12b0
                    try clear c13
                    try clear c14
                    try clear c14b0
                    try clear c14b1
                    try clear c15
                    try clear c15b0
                    try clear c15b1
                    try clear c18
                    try clear c18b0
                    try clear c19
                    try clear c19b0
                    try clear c20
                    try clear c20b0
                    try clear p21
                    try clear q21
                    try clear hx21
                    try clear hf21
                    try clear hx21_0
                    try clear p2
                    try clear p21
                    try clear q21
                    obtain ⟨x12_3, x13_3, x14_3, rfl, rfl, rfl, HA, HK3, HO_10, HB⟩ := hrel
                    cases gk with
                    | zero => exact absurd HA.out (by simp [fountainlaw12_SplitZeros.l1])
                    | succ k3 =>
                      have H := HA.out
                      clear HA
                      simp only [fountainlaw12_SplitZeros.l1] at H
                      by_cases c27 : x14_3 < (t170.length : Int)
                      · rw [if_pos c27] at H
                        have c27b0 : decide (x14_3 < (t170.length : Int)) = true := decide_eq_true c27
                        clear c27
                        have H' := Aside0.mk H
                        clear H
                        obtain ⟨Ao28, co28, eo28⟩ := Kd.R_slice HO_10.out
                        subst eo28
                        go_wp2
                        go_loopg [12, 13, 15] k3 (fun kq v12 v13 v15 w' => ∃ (x12_4 : Int) (x13_4 : Int) (x15_4 : Int), v12 = .int .i64 x12_4 ∧ v13 = .int .i64 x13_4 ∧ v15 = .int .i64 x15_4 ∧ Aside0 (fountainlaw12_SplitZeros.l2 kq a0 a1 t170 t173 x12_4 x13_4 x14_3 x15_4 = some r) ∧ Aside0 (kq ≤ k3) ∧ Aside0 (Kd.R (Kd.slice 32 (Kd.slice 5 (Kd.int .u8))) 39 w' w.heap.size (fun _ => True) (.slice Ao28 t170.length co28) t170) ∧ Aside0 (Below w.heap.size w w'))
                        case atStart => exact ⟨(x12_3), (x13_3), (0), (by first | rfl | (simp; done) | (simp [*]; done)), (by first | rfl | (simp; done) | (simp [*]; done)), (by first | rfl | (simp; done) | (simp [*]; done)), H', ⟨Nat.le_refl _⟩, ⟨by (with_reducible repeat (first | apply Kd.R_alloc | apply Kd.R_drewN | apply Kd.R_drew)); exact HO_10.out⟩, ⟨by repeat (first | (with_reducible first | exact HB.out | apply below_alloc | apply pw_below_drewN | apply below_drew1) | exact HB.out)⟩⟩
                        case round =>
                          clear H'
                          try clear c1
                          try clear c2
                          try clear p2
                          try clear q2
                          try clear hx2
                          try clear c3
                          try clear p6
                          try clear c7
                          try clear c8
                          try clear c8b0
                          try clear c9
                          try clear c9b0
                          try clear c10
                          try clear c10b0
                          try clear c11
                          try clear c11b0
                          try clear c12
                          try clear c12b0
                          try clear c13
                          try clear c14
                          try clear c14b0
                          try clear c14b1
                          try clear c15
                          try clear c15b0
                          try clear c15b1
                          try clear c18
                          try clear c18b0
                          try clear c19
                          try clear c19b0
                          try clear c20
                          try clear c20b0
                          try clear p21
                          try clear q21
                          try clear hx21
                          try clear hf21
                          try clear c27
                          try clear c27b0
                          try clear hx21_0
                          try clear p2
                          try clear p21
                          try clear p6
                          try clear q2
                          try clear q21
                          obtain ⟨x12_4, x13_4, x15_4, rfl, rfl, rfl, HA, HK4, HO_10, HB⟩ := hrel
                          cases gk with
                          | zero => exact absurd HA.out (by simp [fountainlaw12_SplitZeros.l2])
                          | succ k4 =>
                            have H := HA.out
                            clear HA
                            simp only [fountainlaw12_SplitZeros.l2] at H
                            by_cases c29 : 0 ≤ x14_3
                            · rw [if_pos c29] at H
                              have c29b0 : decide (0 ≤ x14_3) = true := decide_eq_true c29
                              clear c29
                              by_cases c30 : x14_3 < (t170.length : Int)
                              · rw [if_pos c30] at H
                                have c30b0 : decide (x14_3 < (t170.length : Int)) = true := decide_eq_true c30
                                clear c30
                                by_cases c31 : x15_4 < ((rd_L2 t170 x14_3).length : Int)
                                · rw [if_pos c31] at H
                                  have c31b0 : decide (x15_4 < ((rd_L2 t170 x14_3).length : Int)) = true := decide_eq_true c31
                                  clear c31
                                  by_cases c32 : 0 ≤ x15_4
                                  · rw [if_pos c32] at H
                                    have c32b0 : decide (0 ≤ x15_4) = true := decide_eq_true c32
                                    clear c32
                                    by_cases c33 : ((rd_L1 (rd_L2 t170 x14_3) x15_4).length : Int) = a1
                                    · rw [if_pos c33] at H
                                      have c33b0 : (((rd_L1 (rd_L2 t170 x14_3) x15_4).length : Int) == a1) = true := beq_iff_eq.mpr c33
                                      have c33b1 : (((rd_L1 (rd_L2 t170 x14_3) x15_4).length : Int) != a1) = false := bne_eq_false_iff_eq.mpr c33
                                      clear c33
                                      have H' := Aside0.mk H
                                      clear H
                                      have p175 : 0 ≤ (x14_3 : Int) := of_decide_eq_true (by first | (with_reducible assumption) | assumption)
                                      have q175 : x14_3 < (t170.length : Int) := of_decide_eq_true (by first | (with_reducible assumption) | assumption)
                                      obtain ⟨ad175, A175_0, c175_0, e175, hx175_0, hl175_0, hi175_0⟩ := at_L2 (Kd.R_reads' HO_10.out).2.2 x14_3 p175 q175
                                      cases e175
                                      obtain ⟨ce175, hce175, hMe175, hcc175⟩ := Kd.R_get HO_10.out [] x14_3 p175 (by first | exact q175 | exact of_decide_eq_true (by first | (with_reducible assumption) | assumption) | (have e_ := (Kd.R_reads' HO_10.out).1; omega))
                                      obtain ⟨ve175_0, rfl, ge175_0⟩ := hMe175
                                      have hv175_0 := hcc175 0 _ rfl
                                      rw [Nat.add_zero, show ((Kd.slice 32 (Kd.slice 5 (Kd.int .u8)))).sz = 1 from rfl, Nat.mul_one] at hv175_0
                                      replace hv175_0 := Option.some.inj (hv175_0.symm.trans hx175_0)
                                      rw [hv175_0] at ge175_0
                                      have HL175_0 := Aside0.mk (show Kd.R (Kd.slice 5 (Kd.int .u8)) 32 _ _ _ _ (rd_L2 t170 x14_3) from ge175_0)
                                      clear hv175_0 ge175_0
                                      clear hcc175 hce175
                                      have HR175_0 := Aside0.mk hi175_0
                                      have HC175_0 := Aside0.mk hl175_0
                                      clear hi175_0 hl175_0
                                      replace p175 := eq_true p175
                                      replace q175 := eq_true q175
                                      have p176 : 0 ≤ (x14_3 : Int) := of_decide_eq_true (by first | (with_reducible assumption) | assumption)
                                      have q176 : x14_3 < (t170.length : Int) := of_decide_eq_true (by first | (with_reducible assumption) | assumption)
                                      obtain ⟨ad176, A176_0, c176_0, e176, hx176_0, hl176_0, hi176_0⟩ := at_L2 (Kd.R_reads' HO_10.out).2.2 x14_3 p176 q176
                                      obtain rfl : ad175 = ad176 := (by injection e176)
                                      obtain ⟨ce176, hce176, hMe176, hcc176⟩ := Kd.R_get HO_10.out [] x14_3 p176 (by first | exact q176 | exact of_decide_eq_true (by first | (with_reducible assumption) | assumption) | (have e_ := (Kd.R_reads' HO_10.out).1; omega))
                                      obtain ⟨ve176_0, rfl, ge176_0⟩ := hMe176
                                      have hv176_0 := hcc176 0 _ rfl
                                      rw [Nat.add_zero, show ((Kd.slice 32 (Kd.slice 5 (Kd.int .u8)))).sz = 1 from rfl, Nat.mul_one] at hv176_0
                                      replace hv176_0 := Option.some.inj (hv176_0.symm.trans hx176_0)
                                      rw [hv176_0] at ge176_0
                                      have HL176_0 := Aside0.mk (show Kd.R (Kd.slice 5 (Kd.int .u8)) 32 _ _ _ _ (rd_L2 t170 x14_3) from ge176_0)
                                      clear hv176_0 ge176_0
                                      clear hcc176 hce176
                                      have HR176_0 := Aside0.mk hi176_0
                                      have HC176_0 := Aside0.mk hl176_0
                                      clear hi176_0 hl176_0
                                      replace p176 := eq_true p176
                                      replace q176 := eq_true q176
                                      have ea_ := Option.some.inj (hx175_0.symm.trans hx176_0)
                                      injection ea_ with ea_ en_ ec_
                                      subst ea_
                                      subst ec_
                                      clear en_
                                      have p177 : 0 ≤ (x15_4 : Int) := of_decide_eq_true (by first | (with_reducible assumption) | assumption)
                                      have q177 : x15_4 < ((rd_L2 t170 x14_3).length : Int) := of_decide_eq_true (by first | (with_reducible assumption) | assumption)
                                      obtain ⟨ad177, A177_0, c177_0, e177, hx177_0, hl177_0, hi177_0⟩ := at_L1 (by repeat (first | (with_reducible exact HR176_0.out) | (with_reducible refine Kd.C_alloc ?_ _) | (with_reducible refine Kd.C_drewN ?_ _) | (with_reducible refine Kd.C_drew ?_) | exact HR176_0.out)) x15_4 p177 q177
                                      cases e177
                                      obtain ⟨ce177, hce177, hMe177, hcc177⟩ := Kd.R_get HL176_0.out [] x15_4 p177 (by first | exact q177 | exact of_decide_eq_true (by first | (with_reducible assumption) | assumption) | (have e_ := (Kd.R_reads' HL176_0.out).1; omega))
                                      obtain ⟨ve177_0, rfl, ge177_0⟩ := hMe177
                                      have hv177_0 := hcc177 0 _ rfl
                                      rw [Nat.add_zero, show ((Kd.slice 5 (Kd.int .u8))).sz = 1 from rfl, Nat.mul_one] at hv177_0
                                      replace hv177_0 := Option.some.inj (hv177_0.symm.trans hx177_0)
                                      rw [hv177_0] at ge177_0
                                      have HL177_0 := Aside0.mk (show Kd.R (Kd.int .u8) 5 _ _ _ _ (rd_L1 (rd_L2 t170 x14_3) x15_4) from ge177_0)
                                      clear hv177_0 ge177_0
                                      clear hcc177 hce177
                                      have HR177_0 := Aside0.mk hi177_0
                                      have HC177_0 := Aside0.mk hl177_0
                                      clear hi177_0 hl177_0
                                      replace p177 := eq_true p177
                                      replace q177 := eq_true q177
                                      go_wp2
                                      go_loopg [12, 13, 16] k4 (fun kq v12 v13 v16 w' => ∃ (x12_5 : Int) (x13_5 : Int) (x16_5 : Int), v12 = .int .i64 x12_5 ∧ v13 = .int .i64 x13_5 ∧ v16 = .int .i64 x16_5 ∧ Aside0 (fountainlaw12_SplitZeros.l3 kq a0 a1 t170 t173 x12_5 x13_5 x14_3 x15_4 x16_5 = some r) ∧ Aside0 (kq ≤ k4) ∧ Aside0 (Kd.R (Kd.slice 32 (Kd.slice 5 (Kd.int .u8))) 39 w' w.heap.size (fun _ => True) (.slice (some ad175) t170.length co28) t170) ∧ Aside0 (Kd.C (Kd.slice 5 (Kd.int .u8)) w' (some ad177) (rd_L2 t170 x14_3).length (rd_L2 t170 x14_3)) ∧ Aside0 (Kd.C (Kd.slice 5 (Kd.int .u8)) w' (some ad177) (rd_L2 t170 x14_3).length (rd_L2 t170 x14_3)) ∧ Aside0 (Kd.C (Kd.int .u8) w' A177_0 (rd_L1 (rd_L2 t170 x14_3) x15_4).length (rd_L1 (rd_L2 t170 x14_3) x15_4)) ∧ Aside0 (Below w.heap.size w w'))
                                      case atStart => exact ⟨(x12_4), (x13_4), (0), (by first | rfl | (simp; done) | (simp [*]; done)), (by first | rfl | (simp; done) | (simp [*]; done)), (by first | rfl | (simp; done) | (simp [*]; done)), H', ⟨Nat.le_refl _⟩, ⟨by (with_reducible repeat (first | apply Kd.R_alloc | apply Kd.R_drewN | apply Kd.R_drew)); exact HO_10.out⟩, ⟨by repeat (first | (with_reducible exact HR175_0.out) | (with_reducible refine Kd.C_alloc ?_ _) | (with_reducible refine Kd.C_drewN ?_ _) | (with_reducible refine Kd.C_drew ?_) | exact HR175_0.out)⟩, ⟨by repeat (first | (with_reducible exact HR176_0.out) | (with_reducible refine Kd.C_alloc ?_ _) | (with_reducible refine Kd.C_drewN ?_ _) | (with_reducible refine Kd.C_drew ?_) | exact HR176_0.out)⟩, ⟨by repeat (first | (with_reducible exact HR177_0.out) | (with_reducible refine Kd.C_alloc ?_ _) | (with_reducible refine Kd.C_drewN ?_ _) | (with_reducible refine Kd.C_drew ?_) | exact HR177_0.out)⟩, ⟨by repeat (first | (with_reducible first | exact HB.out | apply below_alloc | apply pw_below_drewN | apply below_drew1) | exact HB.out)⟩⟩
                                      case round =>
                                        clear H'
                                        try clear c1
                                        try clear p1
                                        try clear q1
                                        try clear hx1
                                        try clear c2
                                        try clear p2
                                        try clear q2
                                        try clear hx2
                                        try clear c3
                                        try clear p6
                                        try clear c7
                                        try clear c8
                                        try clear c8b0
                                        try clear c9
                                        try clear c9b0
                                        try clear c10
                                        try clear c10b0
                                        try clear c11
                                        try clear c11b0
                                        try clear c12
                                        try clear c12b0
                                        try clear c13
                                        try clear c14
                                        try clear c14b0
                                        try clear c14b1
                                        try clear c15
                                        try clear c15b0
                                        try clear c15b1
                                        try clear c17
                                        try clear p17
                                        try clear q17
                                        try clear hx17
                                        try clear c18
                                        try clear c18b0
                                        try clear c19
                                        try clear c19b0
                                        try clear c20
                                        try clear c20b0
                                        try clear p21
                                        try clear q21
                                        try clear hx21
                                        try clear hf21
                                        try clear c27
                                        try clear c27b0
                                        try clear c29
                                        try clear c29b0
                                        try clear c30
                                        try clear c30b0
                                        try clear c31
                                        try clear c31b0
                                        try clear c32
                                        try clear c32b0
                                        try clear c33
                                        try clear c33b0
                                        try clear c33b1
                                        try clear hx175_0
                                        try clear hx176_0
                                        try clear hx177_0
                                        try clear hx21_0
                                        try clear p175
                                        try clear p176
                                        try clear p177
                                        try clear p2
                                        try clear p21
                                        try clear p6
                                        try clear q175
                                        try clear q176
                                        try clear q177
                                        try clear q2
                                        try clear q21
                                        obtain ⟨x12_5, x13_5, x16_5, rfl, rfl, rfl, HA, HK5, HO_10, HR175_0, HR176_0, HR177_0, HB⟩ := hrel
                                        cases gk with
                                        | zero => exact absurd HA.out (by simp [fountainlaw12_SplitZeros.l3])
                                        | succ k5 =>
                                          have H := HA.out
                                          clear HA
                                          simp only [fountainlaw12_SplitZeros.l3] at H
                                          by_cases c34 : x16_5 < a1
                                          · rw [if_pos c34] at H
                                            have c34b0 : decide (x16_5 < a1) = true := decide_eq_true c34
                                            clear c34
                                            have HC35 := Aside0.mk H
                                            clear H
                                            go_upto_region 24 with (fail)
                                            go_cut [94] (fun v94 wc => ∃ (kq : Nat) (x94_34 : Bool), v94 = .bool x94_34 ∧ Aside0 (fountainlaw12_SplitZeros.j5 kq a0 a1 t170 t173 x12_5 x13_5 x14_3 x15_4 x16_5 x94_34 = some r) ∧ Aside0 (kq ≤ k5) ∧ Aside0 (Kd.R (Kd.slice 32 (Kd.slice 5 (Kd.int .u8))) 39 wc w.heap.size (fun _ => True) (.slice (some ad175) t170.length co28) t170) ∧ Aside0 (Kd.C (Kd.slice 5 (Kd.int .u8)) wc (some ad177) (rd_L2 t170 x14_3).length (rd_L2 t170 x14_3)) ∧ Aside0 (Kd.C (Kd.slice 5 (Kd.int .u8)) wc (some ad177) (rd_L2 t170 x14_3).length (rd_L2 t170 x14_3)) ∧ Aside0 (Kd.C (Kd.int .u8) wc A177_0 (rd_L1 (rd_L2 t170 x14_3) x15_4).length (rd_L1 (rd_L2 t170 x14_3) x15_4)) ∧ Aside0 (Below w.heap.size w wc))
                                            case first =>
                                              have H := HC35.out
                                              clear HC35
                                              by_cases c36 : 0 ≤ x14_3
                                              · rw [if_pos c36] at H
                                                have c36b0 : decide (0 ≤ x14_3) = true := decide_eq_true c36
                                                clear c36
                                                (first | rw [c36b0] | (simp only [i64_w, i32_w]; rw [c36b0]) | skip)
                                                by_cases c37 : x14_3 < (t170.length : Int)
                                                · rw [if_pos c37] at H
                                                  have c37b0 : decide (x14_3 < (t170.length : Int)) = true := decide_eq_true c37
                                                  clear c37
                                                  by_cases c38 : 0 ≤ x15_4
                                                  · rw [if_pos c38] at H
                                                    have c38b0 : decide (0 ≤ x15_4) = true := decide_eq_true c38
                                                    clear c38
                                                    by_cases c39 : x15_4 < ((rd_L2 t170 x14_3).length : Int)
                                                    · rw [if_pos c39] at H
                                                      have c39b0 : decide (x15_4 < ((rd_L2 t170 x14_3).length : Int)) = true := decide_eq_true c39
                                                      clear c39
                                                      by_cases c40 : 0 ≤ x16_5
                                                      · rw [if_pos c40] at H
                                                        have c40b0 : decide (0 ≤ x16_5) = true := decide_eq_true c40
                                                        clear c40
                                                        by_cases c41 : x16_5 < ((rd_L1 (rd_L2 t170 x14_3) x15_4).length : Int)
                                                        · rw [if_pos c41] at H
                                                          have c41b0 : decide (x16_5 < ((rd_L1 (rd_L2 t170 x14_3) x15_4).length : Int)) = true := decide_eq_true c41
                                                          clear c41
                                                          by_cases c42 : (rd (rd_L1 (rd_L2 t170 x14_3) x15_4) x16_5) = 7
                                                          · rw [if_pos c42] at H
                                                            have c42b0 : ((rd (rd_L1 (rd_L2 t170 x14_3) x15_4) x16_5) == 7) = true := beq_iff_eq.mpr c42
                                                            have c42b1 : ((rd (rd_L1 (rd_L2 t170 x14_3) x15_4) x16_5) != 7) = false := bne_eq_false_iff_eq.mpr c42
                                                            clear c42
                                                            have H' := Aside0.mk H
                                                            clear H
                                                            have p178 : 0 ≤ (x14_3 : Int) := of_decide_eq_true (by first | (with_reducible assumption) | assumption)
                                                            have q178 : x14_3 < (t170.length : Int) := of_decide_eq_true (by first | (with_reducible assumption) | assumption)
                                                            obtain ⟨ad178, A178_0, c178_0, e178, hx178_0, hl178_0, hi178_0⟩ := at_L2 (Kd.R_reads' HO_10.out).2.2 x14_3 p178 q178
                                                            obtain rfl : ad175 = ad178 := (by injection e178)
                                                            obtain ⟨ce178, hce178, hMe178, hcc178⟩ := Kd.R_get HO_10.out [] x14_3 p178 (by first | exact q178 | exact of_decide_eq_true (by first | (with_reducible assumption) | assumption) | (have e_ := (Kd.R_reads' HO_10.out).1; omega))
                                                            obtain ⟨ve178_0, rfl, ge178_0⟩ := hMe178
                                                            have hv178_0 := hcc178 0 _ rfl
                                                            rw [Nat.add_zero, show ((Kd.slice 32 (Kd.slice 5 (Kd.int .u8)))).sz = 1 from rfl, Nat.mul_one] at hv178_0
                                                            replace hv178_0 := Option.some.inj (hv178_0.symm.trans hx178_0)
                                                            rw [hv178_0] at ge178_0
                                                            have HL178_0 := Aside0.mk (show Kd.R (Kd.slice 5 (Kd.int .u8)) 32 _ _ _ _ (rd_L2 t170 x14_3) from ge178_0)
                                                            clear hv178_0 ge178_0
                                                            clear hcc178 hce178
                                                            have HR178_0 := Aside0.mk hi178_0
                                                            have HC178_0 := Aside0.mk hl178_0
                                                            clear hi178_0 hl178_0
                                                            replace p178 := eq_true p178
                                                            replace q178 := eq_true q178
                                                            have p179 : 0 ≤ (x15_4 : Int) := of_decide_eq_true (by first | (with_reducible assumption) | assumption)
                                                            have q179 : x15_4 < ((rd_L2 t170 x14_3).length : Int) := of_decide_eq_true (by first | (with_reducible assumption) | assumption)
                                                            obtain ⟨ad179, A179_0, c179_0, e179, hx179_0, hl179_0, hi179_0⟩ := at_L1 (by repeat (first | (with_reducible exact HR178_0.out) | (with_reducible refine Kd.C_alloc ?_ _) | (with_reducible refine Kd.C_drewN ?_ _) | (with_reducible refine Kd.C_drew ?_) | exact HR178_0.out)) x15_4 p179 q179
                                                            cases e179
                                                            obtain ⟨ce179, hce179, hMe179, hcc179⟩ := Kd.R_get HL178_0.out [] x15_4 p179 (by first | exact q179 | exact of_decide_eq_true (by first | (with_reducible assumption) | assumption) | (have e_ := (Kd.R_reads' HL178_0.out).1; omega))
                                                            obtain ⟨ve179_0, rfl, ge179_0⟩ := hMe179
                                                            have hv179_0 := hcc179 0 _ rfl
                                                            rw [Nat.add_zero, show ((Kd.slice 5 (Kd.int .u8))).sz = 1 from rfl, Nat.mul_one] at hv179_0
                                                            replace hv179_0 := Option.some.inj (hv179_0.symm.trans hx179_0)
                                                            rw [hv179_0] at ge179_0
                                                            have HL179_0 := Aside0.mk (show Kd.R (Kd.int .u8) 5 _ _ _ _ (rd_L1 (rd_L2 t170 x14_3) x15_4) from ge179_0)
                                                            clear hv179_0 ge179_0
                                                            clear hcc179 hce179
                                                            have HR179_0 := Aside0.mk hi179_0
                                                            have HC179_0 := Aside0.mk hl179_0
                                                            clear hi179_0 hl179_0
                                                            replace p179 := eq_true p179
                                                            replace q179 := eq_true q179
                                                            have p180 : 0 ≤ (x16_5 : Int) := of_decide_eq_true (by first | (with_reducible assumption) | assumption)
                                                            have q180 : x16_5 < ((rd_L1 (rd_L2 t170 x14_3) x15_4).length : Int) := of_decide_eq_true (by first | (with_reducible assumption) | assumption)
                                                            obtain ⟨ad180, e180, hx180_0⟩ := Kd.at_int (by repeat (first | (with_reducible exact HR179_0.out) | (with_reducible refine Kd.C_alloc ?_ _) | (with_reducible refine Kd.C_drewN ?_ _) | (with_reducible refine Kd.C_drew ?_) | exact HR179_0.out)) x16_5 p180 q180
                                                            cases e180
                                                            replace p180 := eq_true p180
                                                            replace q180 := eq_true q180
                                                            go_wp2
                                                            go_meet
                                                            case rel => exact ⟨_, ((x13_5 == 0)), (by first | rfl | (simp; done) | (simp [*]; done)), H', ⟨by have := HJ4.out; have := HK2.out; have := HK3.out; have := HK4.out; have := HK5.out; first | omega | exact Nat.le_refl _⟩, ⟨by (with_reducible repeat (first | apply Kd.R_alloc | apply Kd.R_drewN | apply Kd.R_drew)); exact HO_10.out⟩, ⟨by repeat (first | (with_reducible exact HR175_0.out) | (with_reducible refine Kd.C_alloc ?_ _) | (with_reducible refine Kd.C_drewN ?_ _) | (with_reducible refine Kd.C_drew ?_) | exact HR175_0.out)⟩, ⟨by repeat (first | (with_reducible exact HR176_0.out) | (with_reducible refine Kd.C_alloc ?_ _) | (with_reducible refine Kd.C_drewN ?_ _) | (with_reducible refine Kd.C_drew ?_) | exact HR176_0.out)⟩, ⟨by repeat (first | (with_reducible exact HR177_0.out) | (with_reducible refine Kd.C_alloc ?_ _) | (with_reducible refine Kd.C_drewN ?_ _) | (with_reducible refine Kd.C_drew ?_) | exact HR177_0.out)⟩, ⟨by repeat (first | (with_reducible first | exact HB.out | apply below_alloc | apply pw_below_drewN | apply below_drew1) | exact HB.out)⟩⟩
                                                          · rw [if_neg c42] at H
                                                            have c42b0 : ((rd (rd_L1 (rd_L2 t170 x14_3) x15_4) x16_5) == 7) = false := beq_eq_false_iff_ne.mpr c42
                                                            have c42b1 : ((rd (rd_L1 (rd_L2 t170 x14_3) x15_4) x16_5) != 7) = true := bne_iff_ne.mpr c42
                                                            have H' := Aside0.mk H
                                                            clear H
                                                            have p178 : 0 ≤ (x14_3 : Int) := of_decide_eq_true (by first | (with_reducible assumption) | assumption)
                                                            have q178 : x14_3 < (t170.length : Int) := of_decide_eq_true (by first | (with_reducible assumption) | assumption)
                                                            obtain ⟨ad178, A178_0, c178_0, e178, hx178_0, hl178_0, hi178_0⟩ := at_L2 (Kd.R_reads' HO_10.out).2.2 x14_3 p178 q178
                                                            obtain rfl : ad175 = ad178 := (by injection e178)
                                                            obtain ⟨ce178, hce178, hMe178, hcc178⟩ := Kd.R_get HO_10.out [] x14_3 p178 (by first | exact q178 | exact of_decide_eq_true (by first | (with_reducible assumption) | assumption) | (have e_ := (Kd.R_reads' HO_10.out).1; omega))
                                                            obtain ⟨ve178_0, rfl, ge178_0⟩ := hMe178
                                                            have hv178_0 := hcc178 0 _ rfl
                                                            rw [Nat.add_zero, show ((Kd.slice 32 (Kd.slice 5 (Kd.int .u8)))).sz = 1 from rfl, Nat.mul_one] at hv178_0
                                                            replace hv178_0 := Option.some.inj (hv178_0.symm.trans hx178_0)
                                                            rw [hv178_0] at ge178_0
                                                            have HL178_0 := Aside0.mk (show Kd.R (Kd.slice 5 (Kd.int .u8)) 32 _ _ _ _ (rd_L2 t170 x14_3) from ge178_0)
                                                            clear hv178_0 ge178_0
                                                            clear hcc178 hce178
                                                            have HR178_0 := Aside0.mk hi178_0
                                                            have HC178_0 := Aside0.mk hl178_0
                                                            clear hi178_0 hl178_0
                                                            replace p178 := eq_true p178
                                                            replace q178 := eq_true q178
                                                            have p179 : 0 ≤ (x15_4 : Int) := of_decide_eq_true (by first | (with_reducible assumption) | assumption)
                                                            have q179 : x15_4 < ((rd_L2 t170 x14_3).length : Int) := of_decide_eq_true (by first | (with_reducible assumption) | assumption)
                                                            obtain ⟨ad179, A179_0, c179_0, e179, hx179_0, hl179_0, hi179_0⟩ := at_L1 (by repeat (first | (with_reducible exact HR178_0.out) | (with_reducible refine Kd.C_alloc ?_ _) | (with_reducible refine Kd.C_drewN ?_ _) | (with_reducible refine Kd.C_drew ?_) | exact HR178_0.out)) x15_4 p179 q179
                                                            cases e179
                                                            obtain ⟨ce179, hce179, hMe179, hcc179⟩ := Kd.R_get HL178_0.out [] x15_4 p179 (by first | exact q179 | exact of_decide_eq_true (by first | (with_reducible assumption) | assumption) | (have e_ := (Kd.R_reads' HL178_0.out).1; omega))
                                                            obtain ⟨ve179_0, rfl, ge179_0⟩ := hMe179
                                                            have hv179_0 := hcc179 0 _ rfl
                                                            rw [Nat.add_zero, show ((Kd.slice 5 (Kd.int .u8))).sz = 1 from rfl, Nat.mul_one] at hv179_0
                                                            replace hv179_0 := Option.some.inj (hv179_0.symm.trans hx179_0)
                                                            rw [hv179_0] at ge179_0
                                                            have HL179_0 := Aside0.mk (show Kd.R (Kd.int .u8) 5 _ _ _ _ (rd_L1 (rd_L2 t170 x14_3) x15_4) from ge179_0)
                                                            clear hv179_0 ge179_0
                                                            clear hcc179 hce179
                                                            have HR179_0 := Aside0.mk hi179_0
                                                            have HC179_0 := Aside0.mk hl179_0
                                                            clear hi179_0 hl179_0
                                                            replace p179 := eq_true p179
                                                            replace q179 := eq_true q179
                                                            have p180 : 0 ≤ (x16_5 : Int) := of_decide_eq_true (by first | (with_reducible assumption) | assumption)
                                                            have q180 : x16_5 < ((rd_L1 (rd_L2 t170 x14_3) x15_4).length : Int) := of_decide_eq_true (by first | (with_reducible assumption) | assumption)
                                                            obtain ⟨ad180, e180, hx180_0⟩ := Kd.at_int (by repeat (first | (with_reducible exact HR179_0.out) | (with_reducible refine Kd.C_alloc ?_ _) | (with_reducible refine Kd.C_drewN ?_ _) | (with_reducible refine Kd.C_drew ?_) | exact HR179_0.out)) x16_5 p180 q180
                                                            cases e180
                                                            replace p180 := eq_true p180
                                                            replace q180 := eq_true q180
                                                            go_wp2
                                                            go_meet
                                                            case rel => exact ⟨_, (false), (by first | rfl | (simp; done) | (simp [*]; done)), H', ⟨by have := HJ4.out; have := HK2.out; have := HK3.out; have := HK4.out; have := HK5.out; first | omega | exact Nat.le_refl _⟩, ⟨by (with_reducible repeat (first | apply Kd.R_alloc | apply Kd.R_drewN | apply Kd.R_drew)); exact HO_10.out⟩, ⟨by repeat (first | (with_reducible exact HR175_0.out) | (with_reducible refine Kd.C_alloc ?_ _) | (with_reducible refine Kd.C_drewN ?_ _) | (with_reducible refine Kd.C_drew ?_) | exact HR175_0.out)⟩, ⟨by repeat (first | (with_reducible exact HR176_0.out) | (with_reducible refine Kd.C_alloc ?_ _) | (with_reducible refine Kd.C_drewN ?_ _) | (with_reducible refine Kd.C_drew ?_) | exact HR176_0.out)⟩, ⟨by repeat (first | (with_reducible exact HR177_0.out) | (with_reducible refine Kd.C_alloc ?_ _) | (with_reducible refine Kd.C_drewN ?_ _) | (with_reducible refine Kd.C_drew ?_) | exact HR177_0.out)⟩, ⟨by repeat (first | (with_reducible first | exact HB.out | apply below_alloc | apply pw_below_drewN | apply below_drew1) | exact HB.out)⟩⟩
                                                        · rw [if_neg c41] at H
                                                          exact absurd H (by simp)
                                                      · rw [if_neg c40] at H
                                                        exact absurd H (by simp)
                                                    · rw [if_neg c39] at H
                                                      exact absurd H (by simp)
                                                  · rw [if_neg c38] at H
                                                    exact absurd H (by simp)
                                                · rw [if_neg c37] at H
                                                  exact absurd H (by simp)
                                              · rw [if_neg c36] at H
                                                exact absurd H (by simp)
                                            case rest =>
                                              clear HC35
                                              try clear c1
                                              try clear p1
                                              try clear q1
                                              try clear hx1
                                              try clear c2
                                              try clear p2
                                              try clear q2
                                              try clear hx2
                                              try clear c3
                                              try clear c4
                                              try clear p6
                                              try clear c7
                                              try clear c8
                                              try clear c8b0
                                              try clear c9
                                              try clear c9b0
                                              try clear c10
                                              try clear c10b0
                                              try clear c11
                                              try clear c11b0
                                              try clear c12
                                              try clear c12b0
                                              try clear c13
                                              try clear c14
                                              try clear c14b0
                                              try clear c14b1
                                              try clear c15
                                              try clear c15b0
                                              try clear c15b1
                                              try clear c17
                                              try clear p17
                                              try clear q17
                                              try clear hx17
                                              try clear c18
                                              try clear c18b0
                                              try clear p18
                                              try clear q18
                                              try clear hx18
                                              try clear c19
                                              try clear c19b0
                                              try clear c20
                                              try clear c20b0
                                              try clear p21
                                              try clear q21
                                              try clear hx21
                                              try clear hf21
                                              try clear c27
                                              try clear c27b0
                                              try clear c29
                                              try clear c29b0
                                              try clear c30
                                              try clear c30b0
                                              try clear c31
                                              try clear c31b0
                                              try clear c32
                                              try clear c32b0
                                              try clear c33
                                              try clear c33b0
                                              try clear c33b1
                                              try clear c34
                                              try clear c34b0
                                              try clear c36
                                              try clear c36b0
                                              try clear c37
                                              try clear c37b0
                                              try clear c38
                                              try clear c38b0
                                              try clear c39
                                              try clear c39b0
                                              try clear c40
                                              try clear c40b0
                                              try clear c41
                                              try clear c41b0
                                              try clear c42
                                              try clear c42b0
                                              try clear c42b1
                                              try clear hx175_0
                                              try clear hx176_0
                                              try clear hx177_0
                                              try clear hx178_0
                                              try clear hx179_0
                                              try clear hx180_0
                                              try clear hx21_0
                                              try clear p1
                                              try clear p17
                                              try clear p175
                                              try clear p176
                                              try clear p177
                                              try clear p178
                                              try clear p179
                                              try clear p180
                                              try clear p2
                                              try clear p21
                                              try clear p6
                                              try clear q1
                                              try clear q17
                                              try clear q175
                                              try clear q176
                                              try clear q177
                                              try clear q178
                                              try clear q179
                                              try clear q180
                                              try clear q2
                                              try clear q21
                                              obtain ⟨kq, x94_34, rfl, HA, HJ34, HO_10, HR175_0, HR176_0, HR177_0, HB⟩ := hcut
                                              cases kq with
                                              | zero => exact absurd HA.out (by simp [fountainlaw12_SplitZeros.j5])
                                              | succ kj34 =>
                                                have H := HA.out
                                                clear HA
                                                simp only [fountainlaw12_SplitZeros.j5] at H
                                                by_cases c43 : x94_34 = true
                                                · subst c43
                                                  have H1 : (fountainlaw12_SplitZeros.l3 kj34 a0 a1 t170 t173 (wrap64 (x12_5 + 1)) x13_5 x14_3 x15_4 (wrap64 (x16_5 + 1))) = some r := by rw [if_pos rfl] at H; exact H
                                                  clear H
                                                  have H := H1
                                                  clear H1
                                                  have H' := Aside0.mk H
                                                  clear H
                                                  go_wp2
                                                  go_roundg kj34
                                                  case measure => have := HJ4.out; have := HK2.out; have := HK3.out; have := HK4.out; have := HK5.out; have := HJ34.out; omega
                                                  case rel => exact ⟨(wrap64 (x12_5 + 1)), (x13_5), (wrap64 (x16_5 + 1)), (by first | rfl | (simp; done) | (simp [*]; done)), (by first | rfl | (simp; done) | (simp [*]; done)), (by first | rfl | (simp; done) | (simp [*]; done)), H', ⟨by have := HJ4.out; have := HK2.out; have := HK3.out; have := HK4.out; have := HK5.out; have := HJ34.out; omega⟩, ⟨by (with_reducible repeat (first | apply Kd.R_alloc | apply Kd.R_drewN | apply Kd.R_drew)); exact HO_10.out⟩, ⟨by repeat (first | (with_reducible exact HR175_0.out) | (with_reducible refine Kd.C_alloc ?_ _) | (with_reducible refine Kd.C_drewN ?_ _) | (with_reducible refine Kd.C_drew ?_) | exact HR175_0.out)⟩, ⟨by repeat (first | (with_reducible exact HR176_0.out) | (with_reducible refine Kd.C_alloc ?_ _) | (with_reducible refine Kd.C_drewN ?_ _) | (with_reducible refine Kd.C_drew ?_) | exact HR176_0.out)⟩, ⟨by repeat (first | (with_reducible exact HR177_0.out) | (with_reducible refine Kd.C_alloc ?_ _) | (with_reducible refine Kd.C_drewN ?_ _) | (with_reducible refine Kd.C_drew ?_) | exact HR177_0.out)⟩, ⟨by repeat (first | (with_reducible first | exact HB.out | apply below_alloc | apply pw_below_drewN | apply below_drew1) | exact HB.out)⟩⟩
                                                · replace c43 := Bool.eq_false_iff.mpr c43
                                                  subst c43
                                                  have H1 : (if 0 ≤ x14_3 then (if x14_3 < (t170.length : Int) then (if 0 ≤ x15_4 then (if x15_4 < ((rd_L2 t170 x14_3).length : Int) then (if 0 ≤ x16_5 then (if x16_5 < ((rd_L1 (rd_L2 t170 x14_3) x15_4).length : Int) then (if (rd (rd_L1 (rd_L2 t170 x14_3) x15_4) x16_5) = 0 then (fountainlaw12_SplitZeros.l3 kj34 a0 a1 t170 t173 x12_5 (wrap64 (x13_5 + 1)) x14_3 x15_4 (wrap64 (x16_5 + 1))) else (some false)) else (none)) else (none)) else (none)) else (none)) else (none)) else (none)) = some r := by rw [if_neg (show ¬ (false = true) by decide)] at H; exact H
                                                  clear H
                                                  have H := H1
                                                  clear H1
                                                  by_cases c44 : 0 ≤ x14_3
                                                  · rw [if_pos c44] at H
                                                    have c44b0 : decide (0 ≤ x14_3) = true := decide_eq_true c44
                                                    clear c44
                                                    by_cases c45 : x14_3 < (t170.length : Int)
                                                    · rw [if_pos c45] at H
                                                      have c45b0 : decide (x14_3 < (t170.length : Int)) = true := decide_eq_true c45
                                                      clear c45
                                                      by_cases c46 : 0 ≤ x15_4
                                                      · rw [if_pos c46] at H
                                                        have c46b0 : decide (0 ≤ x15_4) = true := decide_eq_true c46
                                                        clear c46
                                                        by_cases c47 : x15_4 < ((rd_L2 t170 x14_3).length : Int)
                                                        · rw [if_pos c47] at H
                                                          have c47b0 : decide (x15_4 < ((rd_L2 t170 x14_3).length : Int)) = true := decide_eq_true c47
                                                          clear c47
                                                          by_cases c48 : 0 ≤ x16_5
                                                          · rw [if_pos c48] at H
                                                            have c48b0 : decide (0 ≤ x16_5) = true := decide_eq_true c48
                                                            clear c48
                                                            by_cases c49 : x16_5 < ((rd_L1 (rd_L2 t170 x14_3) x15_4).length : Int)
                                                            · rw [if_pos c49] at H
                                                              have c49b0 : decide (x16_5 < ((rd_L1 (rd_L2 t170 x14_3) x15_4).length : Int)) = true := decide_eq_true c49
                                                              clear c49
                                                              by_cases c50 : (rd (rd_L1 (rd_L2 t170 x14_3) x15_4) x16_5) = 0
                                                              · rw [if_pos c50] at H
                                                                have c50b0 : ((rd (rd_L1 (rd_L2 t170 x14_3) x15_4) x16_5) == 0) = true := beq_iff_eq.mpr c50
                                                                have c50b1 : ((rd (rd_L1 (rd_L2 t170 x14_3) x15_4) x16_5) != 0) = false := bne_eq_false_iff_eq.mpr c50
                                                                clear c50
                                                                have H' := Aside0.mk H
                                                                clear H
                                                                have p181 : 0 ≤ (x14_3 : Int) := of_decide_eq_true (by first | (with_reducible assumption) | assumption)
                                                                have q181 : x14_3 < (t170.length : Int) := of_decide_eq_true (by first | (with_reducible assumption) | assumption)
                                                                obtain ⟨ad181, A181_0, c181_0, e181, hx181_0, hl181_0, hi181_0⟩ := at_L2 (Kd.R_reads' HO_10.out).2.2 x14_3 p181 q181
                                                                obtain rfl : ad175 = ad181 := (by injection e181)
                                                                obtain ⟨ce181, hce181, hMe181, hcc181⟩ := Kd.R_get HO_10.out [] x14_3 p181 (by first | exact q181 | exact of_decide_eq_true (by first | (with_reducible assumption) | assumption) | (have e_ := (Kd.R_reads' HO_10.out).1; omega))
                                                                obtain ⟨ve181_0, rfl, ge181_0⟩ := hMe181
                                                                have hv181_0 := hcc181 0 _ rfl
                                                                rw [Nat.add_zero, show ((Kd.slice 32 (Kd.slice 5 (Kd.int .u8)))).sz = 1 from rfl, Nat.mul_one] at hv181_0
                                                                replace hv181_0 := Option.some.inj (hv181_0.symm.trans hx181_0)
                                                                rw [hv181_0] at ge181_0
                                                                have HL181_0 := Aside0.mk (show Kd.R (Kd.slice 5 (Kd.int .u8)) 32 _ _ _ _ (rd_L2 t170 x14_3) from ge181_0)
                                                                clear hv181_0 ge181_0
                                                                clear hcc181 hce181
                                                                have HR181_0 := Aside0.mk hi181_0
                                                                have HC181_0 := Aside0.mk hl181_0
                                                                clear hi181_0 hl181_0
                                                                replace p181 := eq_true p181
                                                                replace q181 := eq_true q181
                                                                have p182 : 0 ≤ (x15_4 : Int) := of_decide_eq_true (by first | (with_reducible assumption) | assumption)
                                                                have q182 : x15_4 < ((rd_L2 t170 x14_3).length : Int) := of_decide_eq_true (by first | (with_reducible assumption) | assumption)
                                                                obtain ⟨ad182, A182_0, c182_0, e182, hx182_0, hl182_0, hi182_0⟩ := at_L1 (by repeat (first | (with_reducible exact HR181_0.out) | (with_reducible refine Kd.C_alloc ?_ _) | (with_reducible refine Kd.C_drewN ?_ _) | (with_reducible refine Kd.C_drew ?_) | exact HR181_0.out)) x15_4 p182 q182
                                                                cases e182
                                                                obtain ⟨ce182, hce182, hMe182, hcc182⟩ := Kd.R_get HL181_0.out [] x15_4 p182 (by first | exact q182 | exact of_decide_eq_true (by first | (with_reducible assumption) | assumption) | (have e_ := (Kd.R_reads' HL181_0.out).1; omega))
                                                                obtain ⟨ve182_0, rfl, ge182_0⟩ := hMe182
                                                                have hv182_0 := hcc182 0 _ rfl
                                                                rw [Nat.add_zero, show ((Kd.slice 5 (Kd.int .u8))).sz = 1 from rfl, Nat.mul_one] at hv182_0
                                                                replace hv182_0 := Option.some.inj (hv182_0.symm.trans hx182_0)
                                                                rw [hv182_0] at ge182_0
                                                                have HL182_0 := Aside0.mk (show Kd.R (Kd.int .u8) 5 _ _ _ _ (rd_L1 (rd_L2 t170 x14_3) x15_4) from ge182_0)
                                                                clear hv182_0 ge182_0
                                                                clear hcc182 hce182
                                                                have HR182_0 := Aside0.mk hi182_0
                                                                have HC182_0 := Aside0.mk hl182_0
                                                                clear hi182_0 hl182_0
                                                                replace p182 := eq_true p182
                                                                replace q182 := eq_true q182
                                                                have p183 : 0 ≤ (x16_5 : Int) := of_decide_eq_true (by first | (with_reducible assumption) | assumption)
                                                                have q183 : x16_5 < ((rd_L1 (rd_L2 t170 x14_3) x15_4).length : Int) := of_decide_eq_true (by first | (with_reducible assumption) | assumption)
                                                                obtain ⟨ad183, e183, hx183_0⟩ := Kd.at_int (by repeat (first | (with_reducible exact HR182_0.out) | (with_reducible refine Kd.C_alloc ?_ _) | (with_reducible refine Kd.C_drewN ?_ _) | (with_reducible refine Kd.C_drew ?_) | exact HR182_0.out)) x16_5 p183 q183
                                                                cases e183
                                                                replace p183 := eq_true p183
                                                                replace q183 := eq_true q183
                                                                go_wp2
                                                                go_roundg kj34
                                                                case measure => have := HJ4.out; have := HK2.out; have := HK3.out; have := HK4.out; have := HK5.out; have := HJ34.out; omega
                                                                case rel => exact ⟨(x12_5), (wrap64 (x13_5 + 1)), (wrap64 (x16_5 + 1)), (by first | rfl | (simp; done) | (simp [*]; done)), (by first | rfl | (simp; done) | (simp [*]; done)), (by first | rfl | (simp; done) | (simp [*]; done)), H', ⟨by have := HJ4.out; have := HK2.out; have := HK3.out; have := HK4.out; have := HK5.out; have := HJ34.out; omega⟩, ⟨by (with_reducible repeat (first | apply Kd.R_alloc | apply Kd.R_drewN | apply Kd.R_drew)); exact HO_10.out⟩, ⟨by repeat (first | (with_reducible exact HR175_0.out) | (with_reducible refine Kd.C_alloc ?_ _) | (with_reducible refine Kd.C_drewN ?_ _) | (with_reducible refine Kd.C_drew ?_) | exact HR175_0.out)⟩, ⟨by repeat (first | (with_reducible exact HR176_0.out) | (with_reducible refine Kd.C_alloc ?_ _) | (with_reducible refine Kd.C_drewN ?_ _) | (with_reducible refine Kd.C_drew ?_) | exact HR176_0.out)⟩, ⟨by repeat (first | (with_reducible exact HR177_0.out) | (with_reducible refine Kd.C_alloc ?_ _) | (with_reducible refine Kd.C_drewN ?_ _) | (with_reducible refine Kd.C_drew ?_) | exact HR177_0.out)⟩, ⟨by repeat (first | (with_reducible first | exact HB.out | apply below_alloc | apply pw_below_drewN | apply below_drew1) | exact HB.out)⟩⟩
                                                              · rw [if_neg c50] at H
                                                                have c50b0 : ((rd (rd_L1 (rd_L2 t170 x14_3) x15_4) x16_5) == 0) = false := beq_eq_false_iff_ne.mpr c50
                                                                have c50b1 : ((rd (rd_L1 (rd_L2 t170 x14_3) x15_4) x16_5) != 0) = true := bne_iff_ne.mpr c50
                                                                obtain rfl := Option.some.inj H
                                                                have p181 : 0 ≤ (x14_3 : Int) := of_decide_eq_true (by first | (with_reducible assumption) | assumption)
                                                                have q181 : x14_3 < (t170.length : Int) := of_decide_eq_true (by first | (with_reducible assumption) | assumption)
                                                                obtain ⟨ad181, A181_0, c181_0, e181, hx181_0, hl181_0, hi181_0⟩ := at_L2 (Kd.R_reads' HO_10.out).2.2 x14_3 p181 q181
                                                                obtain rfl : ad175 = ad181 := (by injection e181)
                                                                obtain ⟨ce181, hce181, hMe181, hcc181⟩ := Kd.R_get HO_10.out [] x14_3 p181 (by first | exact q181 | exact of_decide_eq_true (by first | (with_reducible assumption) | assumption) | (have e_ := (Kd.R_reads' HO_10.out).1; omega))
                                                                obtain ⟨ve181_0, rfl, ge181_0⟩ := hMe181
                                                                have hv181_0 := hcc181 0 _ rfl
                                                                rw [Nat.add_zero, show ((Kd.slice 32 (Kd.slice 5 (Kd.int .u8)))).sz = 1 from rfl, Nat.mul_one] at hv181_0
                                                                replace hv181_0 := Option.some.inj (hv181_0.symm.trans hx181_0)
                                                                rw [hv181_0] at ge181_0
                                                                have HL181_0 := Aside0.mk (show Kd.R (Kd.slice 5 (Kd.int .u8)) 32 _ _ _ _ (rd_L2 t170 x14_3) from ge181_0)
                                                                clear hv181_0 ge181_0
                                                                clear hcc181 hce181
                                                                have HR181_0 := Aside0.mk hi181_0
                                                                have HC181_0 := Aside0.mk hl181_0
                                                                clear hi181_0 hl181_0
                                                                replace p181 := eq_true p181
                                                                replace q181 := eq_true q181
                                                                have p182 : 0 ≤ (x15_4 : Int) := of_decide_eq_true (by first | (with_reducible assumption) | assumption)
                                                                have q182 : x15_4 < ((rd_L2 t170 x14_3).length : Int) := of_decide_eq_true (by first | (with_reducible assumption) | assumption)
                                                                obtain ⟨ad182, A182_0, c182_0, e182, hx182_0, hl182_0, hi182_0⟩ := at_L1 (by repeat (first | (with_reducible exact HR181_0.out) | (with_reducible refine Kd.C_alloc ?_ _) | (with_reducible refine Kd.C_drewN ?_ _) | (with_reducible refine Kd.C_drew ?_) | exact HR181_0.out)) x15_4 p182 q182
                                                                cases e182
                                                                obtain ⟨ce182, hce182, hMe182, hcc182⟩ := Kd.R_get HL181_0.out [] x15_4 p182 (by first | exact q182 | exact of_decide_eq_true (by first | (with_reducible assumption) | assumption) | (have e_ := (Kd.R_reads' HL181_0.out).1; omega))
                                                                obtain ⟨ve182_0, rfl, ge182_0⟩ := hMe182
                                                                have hv182_0 := hcc182 0 _ rfl
                                                                rw [Nat.add_zero, show ((Kd.slice 5 (Kd.int .u8))).sz = 1 from rfl, Nat.mul_one] at hv182_0
                                                                replace hv182_0 := Option.some.inj (hv182_0.symm.trans hx182_0)
                                                                rw [hv182_0] at ge182_0
                                                                have HL182_0 := Aside0.mk (show Kd.R (Kd.int .u8) 5 _ _ _ _ (rd_L1 (rd_L2 t170 x14_3) x15_4) from ge182_0)
                                                                clear hv182_0 ge182_0
                                                                clear hcc182 hce182
                                                                have HR182_0 := Aside0.mk hi182_0
                                                                have HC182_0 := Aside0.mk hl182_0
                                                                clear hi182_0 hl182_0
                                                                replace p182 := eq_true p182
                                                                replace q182 := eq_true q182
                                                                have p183 : 0 ≤ (x16_5 : Int) := of_decide_eq_true (by first | (with_reducible assumption) | assumption)
                                                                have q183 : x16_5 < ((rd_L1 (rd_L2 t170 x14_3) x15_4).length : Int) := of_decide_eq_true (by first | (with_reducible assumption) | assumption)
                                                                obtain ⟨ad183, e183, hx183_0⟩ := Kd.at_int (by repeat (first | (with_reducible exact HR182_0.out) | (with_reducible refine Kd.C_alloc ?_ _) | (with_reducible refine Kd.C_drewN ?_ _) | (with_reducible refine Kd.C_drew ?_) | exact HR182_0.out)) x16_5 p183 q183
                                                                cases e183
                                                                replace p183 := eq_true p183
                                                                replace q183 := eq_true q183
                                                                go_wp2
                                                                go_ret
                                                                exact ⟨by first | rfl | (simp [errW_none, errW_some] <;> rfl) | (simp [*, errW_none, errW_some] <;> rfl), by repeat (first | (with_reducible first | exact HB.out | apply below_alloc | apply pw_below_drewN | apply below_drew1) | exact HB.out)⟩
                                                            · rw [if_neg c49] at H
                                                              exact absurd H (by simp)
                                                          · rw [if_neg c48] at H
                                                            exact absurd H (by simp)
                                                        · rw [if_neg c47] at H
                                                          exact absurd H (by simp)
                                                      · rw [if_neg c46] at H
                                                        exact absurd H (by simp)
                                                    · rw [if_neg c45] at H
                                                      exact absurd H (by simp)
                                                  · rw [if_neg c44] at H
                                                    exact absurd H (by simp)
                                          · rw [if_neg c34] at H
                                            have c34b0 : decide (x16_5 < a1) = false := decide_eq_false c34
                                            clear c34
                                            have H' := Aside0.mk H
                                            clear H
                                            go_wp2
                                            go_roundg k5
                                            case measure => have := HJ4.out; have := HK2.out; have := HK3.out; have := HK4.out; have := HK5.out; omega
                                            case rel => exact ⟨(x12_5), (x13_5), (wrap64 (x15_4 + 1)), (by first | rfl | (simp; done) | (simp [*]; done)), (by first | rfl | (simp; done) | (simp [*]; done)), (by first | rfl | (simp; done) | (simp [*]; done)), H', ⟨by have := HJ4.out; have := HK2.out; have := HK3.out; have := HK4.out; have := HK5.out; omega⟩, ⟨by (with_reducible repeat (first | apply Kd.R_alloc | apply Kd.R_drewN | apply Kd.R_drew)); exact HO_10.out⟩, ⟨by repeat (first | (with_reducible first | exact HB.out | apply below_alloc | apply pw_below_drewN | apply below_drew1) | exact HB.out)⟩⟩
                                    · rw [if_neg c33] at H
                                      have c33b0 : (((rd_L1 (rd_L2 t170 x14_3) x15_4).length : Int) == a1) = false := beq_eq_false_iff_ne.mpr c33
                                      have c33b1 : (((rd_L1 (rd_L2 t170 x14_3) x15_4).length : Int) != a1) = true := bne_iff_ne.mpr c33
                                      obtain rfl := Option.some.inj H
                                      have p175 : 0 ≤ (x14_3 : Int) := of_decide_eq_true (by first | (with_reducible assumption) | assumption)
                                      have q175 : x14_3 < (t170.length : Int) := of_decide_eq_true (by first | (with_reducible assumption) | assumption)
                                      obtain ⟨ad175, A175_0, c175_0, e175, hx175_0, hl175_0, hi175_0⟩ := at_L2 (Kd.R_reads' HO_10.out).2.2 x14_3 p175 q175
                                      cases e175
                                      obtain ⟨ce175, hce175, hMe175, hcc175⟩ := Kd.R_get HO_10.out [] x14_3 p175 (by first | exact q175 | exact of_decide_eq_true (by first | (with_reducible assumption) | assumption) | (have e_ := (Kd.R_reads' HO_10.out).1; omega))
                                      obtain ⟨ve175_0, rfl, ge175_0⟩ := hMe175
                                      have hv175_0 := hcc175 0 _ rfl
                                      rw [Nat.add_zero, show ((Kd.slice 32 (Kd.slice 5 (Kd.int .u8)))).sz = 1 from rfl, Nat.mul_one] at hv175_0
                                      replace hv175_0 := Option.some.inj (hv175_0.symm.trans hx175_0)
                                      rw [hv175_0] at ge175_0
                                      have HL175_0 := Aside0.mk (show Kd.R (Kd.slice 5 (Kd.int .u8)) 32 _ _ _ _ (rd_L2 t170 x14_3) from ge175_0)
                                      clear hv175_0 ge175_0
                                      clear hcc175 hce175
                                      have HR175_0 := Aside0.mk hi175_0
                                      have HC175_0 := Aside0.mk hl175_0
                                      clear hi175_0 hl175_0
                                      replace p175 := eq_true p175
                                      replace q175 := eq_true q175
                                      have p176 : 0 ≤ (x14_3 : Int) := of_decide_eq_true (by first | (with_reducible assumption) | assumption)
                                      have q176 : x14_3 < (t170.length : Int) := of_decide_eq_true (by first | (with_reducible assumption) | assumption)
                                      obtain ⟨ad176, A176_0, c176_0, e176, hx176_0, hl176_0, hi176_0⟩ := at_L2 (Kd.R_reads' HO_10.out).2.2 x14_3 p176 q176
                                      obtain rfl : ad175 = ad176 := (by injection e176)
                                      obtain ⟨ce176, hce176, hMe176, hcc176⟩ := Kd.R_get HO_10.out [] x14_3 p176 (by first | exact q176 | exact of_decide_eq_true (by first | (with_reducible assumption) | assumption) | (have e_ := (Kd.R_reads' HO_10.out).1; omega))
                                      obtain ⟨ve176_0, rfl, ge176_0⟩ := hMe176
                                      have hv176_0 := hcc176 0 _ rfl
                                      rw [Nat.add_zero, show ((Kd.slice 32 (Kd.slice 5 (Kd.int .u8)))).sz = 1 from rfl, Nat.mul_one] at hv176_0
                                      replace hv176_0 := Option.some.inj (hv176_0.symm.trans hx176_0)
                                      rw [hv176_0] at ge176_0
                                      have HL176_0 := Aside0.mk (show Kd.R (Kd.slice 5 (Kd.int .u8)) 32 _ _ _ _ (rd_L2 t170 x14_3) from ge176_0)
                                      clear hv176_0 ge176_0
                                      clear hcc176 hce176
                                      have HR176_0 := Aside0.mk hi176_0
                                      have HC176_0 := Aside0.mk hl176_0
                                      clear hi176_0 hl176_0
                                      replace p176 := eq_true p176
                                      replace q176 := eq_true q176
                                      have ea_ := Option.some.inj (hx175_0.symm.trans hx176_0)
                                      injection ea_ with ea_ en_ ec_
                                      subst ea_
                                      subst ec_
                                      clear en_
                                      have p177 : 0 ≤ (x15_4 : Int) := of_decide_eq_true (by first | (with_reducible assumption) | assumption)
                                      have q177 : x15_4 < ((rd_L2 t170 x14_3).length : Int) := of_decide_eq_true (by first | (with_reducible assumption) | assumption)
                                      obtain ⟨ad177, A177_0, c177_0, e177, hx177_0, hl177_0, hi177_0⟩ := at_L1 (by repeat (first | (with_reducible exact HR176_0.out) | (with_reducible refine Kd.C_alloc ?_ _) | (with_reducible refine Kd.C_drewN ?_ _) | (with_reducible refine Kd.C_drew ?_) | exact HR176_0.out)) x15_4 p177 q177
                                      cases e177
                                      obtain ⟨ce177, hce177, hMe177, hcc177⟩ := Kd.R_get HL176_0.out [] x15_4 p177 (by first | exact q177 | exact of_decide_eq_true (by first | (with_reducible assumption) | assumption) | (have e_ := (Kd.R_reads' HL176_0.out).1; omega))
                                      obtain ⟨ve177_0, rfl, ge177_0⟩ := hMe177
                                      have hv177_0 := hcc177 0 _ rfl
                                      rw [Nat.add_zero, show ((Kd.slice 5 (Kd.int .u8))).sz = 1 from rfl, Nat.mul_one] at hv177_0
                                      replace hv177_0 := Option.some.inj (hv177_0.symm.trans hx177_0)
                                      rw [hv177_0] at ge177_0
                                      have HL177_0 := Aside0.mk (show Kd.R (Kd.int .u8) 5 _ _ _ _ (rd_L1 (rd_L2 t170 x14_3) x15_4) from ge177_0)
                                      clear hv177_0 ge177_0
                                      clear hcc177 hce177
                                      have HR177_0 := Aside0.mk hi177_0
                                      have HC177_0 := Aside0.mk hl177_0
                                      clear hi177_0 hl177_0
                                      replace p177 := eq_true p177
                                      replace q177 := eq_true q177
                                      go_wp2
                                      go_ret
                                      exact ⟨by first | rfl | (simp [errW_none, errW_some] <;> rfl) | (simp [*, errW_none, errW_some] <;> rfl), by repeat (first | (with_reducible first | exact HB.out | apply below_alloc | apply pw_below_drewN | apply below_drew1) | exact HB.out)⟩
                                  · rw [if_neg c32] at H
                                    exact absurd H (by simp)
                                · rw [if_neg c31] at H
                                  have c31b0 : decide (x15_4 < ((rd_L2 t170 x14_3).length : Int)) = false := decide_eq_false c31
                                  clear c31
                                  have H' := Aside0.mk H
                                  clear H
                                  have p175 : 0 ≤ (x14_3 : Int) := of_decide_eq_true (by first | (with_reducible assumption) | assumption)
                                  have q175 : x14_3 < (t170.length : Int) := of_decide_eq_true (by first | (with_reducible assumption) | assumption)
                                  obtain ⟨ad175, A175_0, c175_0, e175, hx175_0, hl175_0, hi175_0⟩ := at_L2 (Kd.R_reads' HO_10.out).2.2 x14_3 p175 q175
                                  cases e175
                                  obtain ⟨ce175, hce175, hMe175, hcc175⟩ := Kd.R_get HO_10.out [] x14_3 p175 (by first | exact q175 | exact of_decide_eq_true (by first | (with_reducible assumption) | assumption) | (have e_ := (Kd.R_reads' HO_10.out).1; omega))
                                  obtain ⟨ve175_0, rfl, ge175_0⟩ := hMe175
                                  have hv175_0 := hcc175 0 _ rfl
                                  rw [Nat.add_zero, show ((Kd.slice 32 (Kd.slice 5 (Kd.int .u8)))).sz = 1 from rfl, Nat.mul_one] at hv175_0
                                  replace hv175_0 := Option.some.inj (hv175_0.symm.trans hx175_0)
                                  rw [hv175_0] at ge175_0
                                  have HL175_0 := Aside0.mk (show Kd.R (Kd.slice 5 (Kd.int .u8)) 32 _ _ _ _ (rd_L2 t170 x14_3) from ge175_0)
                                  clear hv175_0 ge175_0
                                  clear hcc175 hce175
                                  have HR175_0 := Aside0.mk hi175_0
                                  have HC175_0 := Aside0.mk hl175_0
                                  clear hi175_0 hl175_0
                                  replace p175 := eq_true p175
                                  replace q175 := eq_true q175
                                  go_wp2
                                  go_roundg k4
                                  case measure => have := HJ4.out; have := HK2.out; have := HK3.out; have := HK4.out; omega
                                  case rel => exact ⟨(x12_4), (x13_4), (wrap64 (x14_3 + 1)), (by first | rfl | (simp; done) | (simp [*]; done)), (by first | rfl | (simp; done) | (simp [*]; done)), (by first | rfl | (simp; done) | (simp [*]; done)), H', ⟨by have := HJ4.out; have := HK2.out; have := HK3.out; have := HK4.out; omega⟩, ⟨by (with_reducible repeat (first | apply Kd.R_alloc | apply Kd.R_drewN | apply Kd.R_drew)); exact HO_10.out⟩, ⟨by repeat (first | (with_reducible first | exact HB.out | apply below_alloc | apply pw_below_drewN | apply below_drew1) | exact HB.out)⟩⟩
                              · rw [if_neg c30] at H
                                exact absurd H (by simp)
                            · rw [if_neg c29] at H
                              exact absurd H (by simp)
                      · rw [if_neg c27] at H
                        have c27b0 : decide (x14_3 < (t170.length : Int)) = false := decide_eq_false c27
                        clear c27
                        replace H := Option.bind_eq_some_iff.mp H
                        obtain ⟨t174, A510, H⟩ := H
                        replace H : (if t174 = 0 then (if x12_3 = a0 then (if x13_3 < a1 then (if a1 = 0 then (none) else (some ((Int.tmod (wrap64 (x12_3 + x13_3)) a1) == 0))) else (some false)) else (some false)) else (some false)) = some r := H
                        have A51 := Aside0.mk A510
                        clear A510
                        by_cases c52 : t174 = 0
                        · rw [if_pos c52] at H
                          have c52b0 : (t174 == 0) = true := beq_iff_eq.mpr c52
                          have c52b1 : (t174 != 0) = false := bne_eq_false_iff_eq.mpr c52
                          clear c52
                          by_cases c53 : x12_3 = a0
                          · rw [if_pos c53] at H
                            have c53b0 : (x12_3 == a0) = true := beq_iff_eq.mpr c53
                            have c53b1 : (x12_3 != a0) = false := bne_eq_false_iff_eq.mpr c53
                            clear c53
                            by_cases c54 : x13_3 < a1
                            · rw [if_pos c54] at H
                              have c54b0 : decide (x13_3 < a1) = true := decide_eq_true c54
                              clear c54
                              by_cases c55 : a1 = 0
                              · rw [if_pos c55] at H
                                exact absurd H (by simp)
                              · rw [if_neg c55] at H
                                have c55b0 : (a1 == 0) = false := beq_eq_false_iff_ne.mpr c55
                                have c55b1 : (a1 != 0) = true := bne_iff_ne.mpr c55
                                obtain rfl := Option.some.inj H
                                obtain ⟨Ao56, co56, eo56⟩ := Kd.R_slice HO_10.out
                                subst eo56
                                go_wp2_with (first | ((with_reducible refine gate_callee (f := 38) rfl ?_); refine goesL_ (some 127) rfl rfl Try.func38 (by kernel_rfl) rfl #[.int .i64 t173] rfl (by (try simp only [List.map_toArray, List.map_cons, List.map_nil]); first | done | rfl | (simp only [List.length_drop, List.length_take]; rfl)) ?_; (with_reducible refine (fountainlaw12_num.calls t173 t174 _ A51.out).mono ?_); rintro e w' ⟨rfl, ⟨nd, rfl⟩⟩; refine ⟨_, rfl, ?_⟩))
                                go_ret
                                exact ⟨by first | rfl | (simp [errW_none, errW_some] <;> rfl) | (simp [*, errW_none, errW_some] <;> rfl), by repeat (first | (with_reducible first | exact HB.out | apply below_alloc | apply pw_below_drewN | apply below_drew1) | exact HB.out)⟩
                            · rw [if_neg c54] at H
                              have c54b0 : decide (x13_3 < a1) = false := decide_eq_false c54
                              clear c54
                              obtain rfl := Option.some.inj H
                              obtain ⟨Ao57, co57, eo57⟩ := Kd.R_slice HO_10.out
                              subst eo57
                              go_wp2_with (first | ((with_reducible refine gate_callee (f := 38) rfl ?_); refine goesL_ (some 127) rfl rfl Try.func38 (by kernel_rfl) rfl #[.int .i64 t173] rfl (by (try simp only [List.map_toArray, List.map_cons, List.map_nil]); first | done | rfl | (simp only [List.length_drop, List.length_take]; rfl)) ?_; (with_reducible refine (fountainlaw12_num.calls t173 t174 _ A51.out).mono ?_); rintro e w' ⟨rfl, ⟨nd, rfl⟩⟩; refine ⟨_, rfl, ?_⟩))
                              go_ret
                              exact ⟨by first | rfl | (simp [errW_none, errW_some] <;> rfl) | (simp [*, errW_none, errW_some] <;> rfl), by repeat (first | (with_reducible first | exact HB.out | apply below_alloc | apply pw_below_drewN | apply below_drew1) | exact HB.out)⟩
                          · rw [if_neg c53] at H
                            have c53b0 : (x12_3 == a0) = false := beq_eq_false_iff_ne.mpr c53
                            have c53b1 : (x12_3 != a0) = true := bne_iff_ne.mpr c53
                            obtain rfl := Option.some.inj H
                            obtain ⟨Ao58, co58, eo58⟩ := Kd.R_slice HO_10.out
                            subst eo58
                            go_wp2_with (first | ((with_reducible refine gate_callee (f := 38) rfl ?_); refine goesL_ (some 127) rfl rfl Try.func38 (by kernel_rfl) rfl #[.int .i64 t173] rfl (by (try simp only [List.map_toArray, List.map_cons, List.map_nil]); first | done | rfl | (simp only [List.length_drop, List.length_take]; rfl)) ?_; (with_reducible refine (fountainlaw12_num.calls t173 t174 _ A51.out).mono ?_); rintro e w' ⟨rfl, ⟨nd, rfl⟩⟩; refine ⟨_, rfl, ?_⟩))
                            go_ret
                            exact ⟨by first | rfl | (simp [errW_none, errW_some] <;> rfl) | (simp [*, errW_none, errW_some] <;> rfl), by repeat (first | (with_reducible first | exact HB.out | apply below_alloc | apply pw_below_drewN | apply below_drew1) | exact HB.out)⟩
                        · rw [if_neg c52] at H
                          have c52b0 : (t174 == 0) = false := beq_eq_false_iff_ne.mpr c52
                          have c52b1 : (t174 != 0) = true := bne_iff_ne.mpr c52
                          obtain rfl := Option.some.inj H
                          obtain ⟨Ao59, co59, eo59⟩ := Kd.R_slice HO_10.out
                          subst eo59
                          go_wp2_with (first | ((with_reducible refine gate_callee (f := 38) rfl ?_); refine goesL_ (some 127) rfl rfl Try.func38 (by kernel_rfl) rfl #[.int .i64 t173] rfl (by (try simp only [List.map_toArray, List.map_cons, List.map_nil]); first | done | rfl | (simp only [List.length_drop, List.length_take]; rfl)) ?_; (with_reducible refine (fountainlaw12_num.calls t173 t174 _ A51.out).mono ?_); rintro e w' ⟨rfl, ⟨nd, rfl⟩⟩; refine ⟨_, rfl, ?_⟩))
                          go_ret
                          exact ⟨by first | rfl | (simp [errW_none, errW_some] <;> rfl) | (simp [*, errW_none, errW_some] <;> rfl), by repeat (first | (with_reducible first | exact HB.out | apply below_alloc | apply pw_below_drewN | apply below_drew1) | exact HB.out)⟩
          · rw [if_neg c15] at H
            exact absurd H (by simp)
        · rw [if_neg c14] at H
          exact absurd H (by simp)

/-- THE ONE PURE STATEMENT of fountainlaw12_SplitZeros: yours. -/
def fountainlaw12_SplitZeros.Pure : Prop := ∀ (a0 : Int) (a1 : Int) (a2 : Int), (Lit.int .i64 a0).wf = true → (Lit.int .i64 a1).wf = true → (Lit.int .i64 a2).wf = true → ∃ k, fountainlaw12_SplitZeros.f k a0 a1 a2 = some true
theorem fountainlaw12_SplitZeros.walk (P : fountainlaw12_SplitZeros.Pure) (a0 : Int) (a1 : Int) (a2 : Int) (w : World) (w0 : (Lit.int .i64 a0).wf = true) (w1 : (Lit.int .i64 a1).wf = true) (w2 : (Lit.int .i64 a2).wf = true) :
    Calls Try.prog 10 #[.int .i64 a0, .int .i64 a1, .int .i64 a2] w fun e w' => e = .returned (.bool true) ∧ Below w.heap.size w w' := by
  obtain ⟨k, h⟩ := P a0 a1 a2 w0 w1 w2
  refine (fountainlaw12_SplitZeros.calls k a0 a1 a2 true w h).mono ?_
  rintro e w' ⟨rfl, hd⟩
  exact ⟨rfl, hd⟩

end Go.Proofs.Ytinplhdjgjijiaa.PSplitZeros
