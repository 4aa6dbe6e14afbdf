/- Written by a program (this session's own): functions that the law reaches, as plain Lean functions, each with the proof that the code comes to it. No conditions but those that stand in the theorems. -/
import Derived.Test.YtbfhinfblepidaaPPrecodeOnesx0
import Derived.Test.YtbfhinfblepidaaPPrecodeOnesx2
import Derived.Test.YtbfhinfblepidaaPPrecodeOnesx3
import Derived.Test.YtbfhinfblepidaaPPrecodeOnesx4
namespace Go.Proofs.Ytbfhinfblepidaa.PPrecodeOnes
open Go.RowKit Go.Proofs.YtbfhinfblepidaaW.PrintWords Go.Proofs.YtbfhinfblepidaaW.PrintLast Go.Proofs.YtbfhinfblepidaaW.PrintMore
attribute [local go_sem] max2_int min2_int max_two min_two max_three min_three max_four min_four   -- for this text's walks alone
set_option linter.unusedVariables false
set_option linter.unusedSimpArgs false

/-! ### fountainlaw7_PrecodeOnes: function 3 -/
mutual
def fountainlaw7_PrecodeOnes.j0 : Nat → Int → Bool → Bool → Option (Bool)
  | 0, _, _, _ => none
  | k + 1, x0, x3, x23 => if x23 = true then (some x3) else ((params_Of.f x0).bind fun bt161 => ((precode_Low.f k bt161.1 bt161.2.1 bt161.2.2.1).bind fun t166 => ((precode_High.f k bt161.1 bt161.2.1 bt161.2.2.1).bind fun t169 => (if (t166.length : Int) = bt161.2.1 then (fountainlaw7_PrecodeOnes.j1 k x0 t166 t169 ((t169.length : Int) != bt161.2.2.1) bt161.1 bt161.2.1 bt161.2.2.1) else (fountainlaw7_PrecodeOnes.j1 k x0 t166 t169 true bt161.1 bt161.2.1 bt161.2.2.1)))))
def fountainlaw7_PrecodeOnes.j1 : Nat → Int → List (List Int) → List (List Int) → Bool → Int → Int → Int → Option (Bool)
  | 0, _, _, _, _, _, _, _ => none
  | k + 1, x0, x6, x7, x45, x166000, x166001, x166002 => if x45 = true then (some false) else (fountainlaw7_PrecodeOnes.l0 k x0 x6 x7 0 x166000 x166001 x166002)
def fountainlaw7_PrecodeOnes.l0 : Nat → Int → List (List Int) → List (List Int) → Int → Int → Int → Int → Option (Bool)
  | 0, _, _, _, _, _, _, _ => none
  | k + 1, x0, x6, x7, x8, x166000, x166001, x166002 => if x8 < x166001 then (if 0 ≤ x8 then (if x8 < (x6.length : Int) then ((params_Params_L.f x166000 x166001 x166002).bind fun t173 => (if ((rd_L1 x6 x8).length : Int) = t173 then (fountainlaw7_PrecodeOnes.l1 k x0 x6 x7 x8 0 x166000 x166001 x166002) else (some false))) else (none)) else (none)) else (fountainlaw7_PrecodeOnes.l2 k x7 0 x166000 x166001 x166002)
def fountainlaw7_PrecodeOnes.l1 : Nat → Int → List (List Int) → List (List Int) → Int → Int → Int → Int → Int → Option (Bool)
  | 0, _, _, _, _, _, _, _, _ => none
  | k + 1, x0, x6, x7, x8, x9, x166000, x166001, x166002 => if x9 < x166001 then (if 0 ≤ x8 then (if x8 < (x6.length : Int) then (if 0 ≤ (wrap64 (x0 + x9)) then (if (wrap64 (x0 + x9)) < ((rd_L1 x6 x8).length : Int) then (if (((rd (rd_L1 x6 x8) (wrap64 (x0 + x9))) == 1) != (x8 == x9)) = true then (some false) else (if (rd (rd_L1 x6 x8) (wrap64 (x0 + x9))) > 1 then (some false) else (fountainlaw7_PrecodeOnes.l1 k x0 x6 x7 x8 (wrap64 (x9 + 1)) x166000 x166001 x166002))) else (none)) else (none)) else (none)) else (none)) else (fountainlaw7_PrecodeOnes.l0 k x0 x6 x7 (wrap64 (x8 + 1)) x166000 x166001 x166002)
def fountainlaw7_PrecodeOnes.l2 : Nat → List (List Int) → Int → Int → Int → Int → Option (Bool)
  | 0, _, _, _, _, _ => none
  | k + 1, x7, x10, x166000, x166001, x166002 => if x10 < x166002 then (if 0 ≤ x10 then (if x10 < (x7.length : Int) then ((params_Params_L.f x166000 x166001 x166002).bind fun t179 => (if ((rd_L1 x7 x10).length : Int) = t179 then (fountainlaw7_PrecodeOnes.l3 k x7 x10 0 x166000 x166001 x166002) else (some false))) else (none)) else (none)) else (some true)
def fountainlaw7_PrecodeOnes.l3 : Nat → List (List Int) → Int → Int → Int → Int → Int → Option (Bool)
  | 0, _, _, _, _, _, _ => none
  | k + 1, x7, x10, x11, x166000, x166001, x166002 => if x11 < x166002 then (if 0 ≤ x10 then (if x10 < (x7.length : Int) then ((params_Params_W.f x166000 x166001 x166002).bind fun t181 => (if 0 ≤ (wrap64 (t181 + x11)) then (if (wrap64 (t181 + x11)) < ((rd_L1 x7 x10).length : Int) then (if (((rd (rd_L1 x7 x10) (wrap64 (t181 + x11))) == 1) != (x10 == x11)) = true then (some false) else ((params_Params_W.f x166000 x166001 x166002).bind fun t184 => (if 0 ≤ (wrap64 (t184 + x11)) then (if (wrap64 (t184 + x11)) < ((rd_L1 x7 x10).length : Int) then (if (rd (rd_L1 x7 x10) (wrap64 (t184 + x11))) > 1 then (some false) else (fountainlaw7_PrecodeOnes.l3 k x7 x10 (wrap64 (x11 + 1)) x166000 x166001 x166002)) else (none)) else (none)))) else (none)) else (none))) else (none)) else (none)) else (fountainlaw7_PrecodeOnes.l4 k x7 x10 0 x166000 x166001 x166002)
def fountainlaw7_PrecodeOnes.l4 : Nat → List (List Int) → Int → Int → Int → Int → Int → Option (Bool)
  | 0, _, _, _, _, _, _ => none
  | k + 1, x7, x10, x12, x166000, x166001, x166002 => (params_Params_W.f x166000 x166001 x166002).bind fun t186 => (if x12 < t186 then (if 0 ≤ x10 then (if x10 < (x7.length : Int) then (if 0 ≤ x12 then (if x12 < ((rd_L1 x7 x10).length : Int) then (if (rd (rd_L1 x7 x10) x12) = 0 then (some false) else (fountainlaw7_PrecodeOnes.l4 k x7 x10 (wrap64 (x12 + 1)) x166000 x166001 x166002)) else (none)) else (none)) else (none)) else (none)) else (fountainlaw7_PrecodeOnes.l2 k x7 (wrap64 (x10 + 1)) x166000 x166001 x166002))
end
def fountainlaw7_PrecodeOnes.f (k : Nat) (a0 : Int) : Option (Bool) := (fountainlaw7_alive.f k).bind fun t160 => (if t160 = true then (if a0 < 1 then (fountainlaw7_PrecodeOnes.j0 k a0 t160 true) else (fountainlaw7_PrecodeOnes.j0 k a0 t160 (decide (a0 > 40)))) else (fountainlaw7_PrecodeOnes.j0 k a0 t160 true))
theorem fountainlaw7_PrecodeOnes.mono_l : ∀ k, (∀ y0 y1 y2, LeO (fountainlaw7_PrecodeOnes.j0 k y0 y1 y2) (fountainlaw7_PrecodeOnes.j0 (k + 1) y0 y1 y2)) ∧ (∀ y0 y1 y2 y3 y4 y5 y6, LeO (fountainlaw7_PrecodeOnes.j1 k y0 y1 y2 y3 y4 y5 y6) (fountainlaw7_PrecodeOnes.j1 (k + 1) y0 y1 y2 y3 y4 y5 y6)) ∧ (∀ y0 y1 y2 y3 y4 y5 y6, LeO (fountainlaw7_PrecodeOnes.l0 k y0 y1 y2 y3 y4 y5 y6) (fountainlaw7_PrecodeOnes.l0 (k + 1) y0 y1 y2 y3 y4 y5 y6)) ∧ (∀ y0 y1 y2 y3 y4 y5 y6 y7, LeO (fountainlaw7_PrecodeOnes.l1 k y0 y1 y2 y3 y4 y5 y6 y7) (fountainlaw7_PrecodeOnes.l1 (k + 1) y0 y1 y2 y3 y4 y5 y6 y7)) ∧ (∀ y0 y1 y2 y3 y4, LeO (fountainlaw7_PrecodeOnes.l2 k y0 y1 y2 y3 y4) (fountainlaw7_PrecodeOnes.l2 (k + 1) y0 y1 y2 y3 y4)) ∧ (∀ y0 y1 y2 y3 y4 y5, LeO (fountainlaw7_PrecodeOnes.l3 k y0 y1 y2 y3 y4 y5) (fountainlaw7_PrecodeOnes.l3 (k + 1) y0 y1 y2 y3 y4 y5)) ∧ (∀ y0 y1 y2 y3 y4 y5, LeO (fountainlaw7_PrecodeOnes.l4 k y0 y1 y2 y3 y4 y5) (fountainlaw7_PrecodeOnes.l4 (k + 1) y0 y1 y2 y3 y4 y5))
  | 0 => ⟨fun _ _ _ r h => by simp [fountainlaw7_PrecodeOnes.j0] at h, fun _ _ _ _ _ _ _ r h => by simp [fountainlaw7_PrecodeOnes.j1] at h, fun _ _ _ _ _ _ _ r h => by simp [fountainlaw7_PrecodeOnes.l0] at h, fun _ _ _ _ _ _ _ _ r h => by simp [fountainlaw7_PrecodeOnes.l1] at h, fun _ _ _ _ _ r h => by simp [fountainlaw7_PrecodeOnes.l2] at h, fun _ _ _ _ _ _ r h => by simp [fountainlaw7_PrecodeOnes.l3] at h, fun _ _ _ _ _ _ r h => by simp [fountainlaw7_PrecodeOnes.l4] at h⟩
  | k + 1 => by
    obtain ⟨ih0, ih1, ih2, ih3, ih4, ih5, ih6⟩ := fountainlaw7_PrecodeOnes.mono_l k
    refine ⟨?_, ?_, ?_, ?_, ?_, ?_, ?_⟩
    · intro y0 y1 y2
      unfold fountainlaw7_PrecodeOnes.j0
      repeat' first
      | (with_reducible exact ih0 _ _ _)
      | (with_reducible exact ih1 _ _ _ _ _ _ _)
      | (with_reducible exact ih2 _ _ _ _ _ _ _)
      | (with_reducible exact ih3 _ _ _ _ _ _ _ _)
      | (with_reducible exact ih4 _ _ _ _ _)
      | (with_reducible exact ih5 _ _ _ _ _ _)
      | (with_reducible exact ih6 _ _ _ _ _ _)
      | (with_reducible exact fountainlaw7_alive.mono _)
      | (with_reducible exact precode_High.mono _ _ _ _)
      | (with_reducible exact precode_Low.mono _ _ _ _)
      | (with_reducible exact LeO.refl _)
      | (with_reducible exact LeO.none _)
      | (with_reducible refine LeO.ite ?_ ?_)
      | (with_reducible refine LeO.bind ?_ (fun _ => ?_))
      | exact ih0 _ _ _
      | exact ih1 _ _ _ _ _ _ _
      | exact ih2 _ _ _ _ _ _ _
      | exact ih3 _ _ _ _ _ _ _ _
      | exact ih4 _ _ _ _ _
      | exact ih5 _ _ _ _ _ _
      | exact ih6 _ _ _ _ _ _
      | exact fountainlaw7_alive.mono _
      | exact precode_High.mono _ _ _ _
      | exact precode_Low.mono _ _ _ _
      | exact LeO.none _
      | refine LeO.ite ?_ ?_
      | refine LeO.bind ?_ (fun _ => ?_)
    · intro y0 y1 y2 y3 y4 y5 y6
      unfold fountainlaw7_PrecodeOnes.j1
      repeat' first
      | (with_reducible exact ih0 _ _ _)
      | (with_reducible exact ih1 _ _ _ _ _ _ _)
      | (with_reducible exact ih2 _ _ _ _ _ _ _)
      | (with_reducible exact ih3 _ _ _ _ _ _ _ _)
      | (with_reducible exact ih4 _ _ _ _ _)
      | (with_reducible exact ih5 _ _ _ _ _ _)
      | (with_reducible exact ih6 _ _ _ _ _ _)
      | (with_reducible exact fountainlaw7_alive.mono _)
      | (with_reducible exact precode_High.mono _ _ _ _)
      | (with_reducible exact precode_Low.mono _ _ _ _)
      | (with_reducible exact LeO.refl _)
      | (with_reducible exact LeO.none _)
      | (with_reducible refine LeO.ite ?_ ?_)
      | (with_reducible refine LeO.bind ?_ (fun _ => ?_))
      | exact ih0 _ _ _
      | exact ih1 _ _ _ _ _ _ _
      | exact ih2 _ _ _ _ _ _ _
      | exact ih3 _ _ _ _ _ _ _ _
      | exact ih4 _ _ _ _ _
      | exact ih5 _ _ _ _ _ _
      | exact ih6 _ _ _ _ _ _
      | exact fountainlaw7_alive.mono _
      | exact precode_High.mono _ _ _ _
      | exact precode_Low.mono _ _ _ _
      | exact LeO.none _
      | refine LeO.ite ?_ ?_
      | refine LeO.bind ?_ (fun _ => ?_)
    · intro y0 y1 y2 y3 y4 y5 y6
      unfold fountainlaw7_PrecodeOnes.l0
      repeat' first
      | (with_reducible exact ih0 _ _ _)
      | (with_reducible exact ih1 _ _ _ _ _ _ _)
      | (with_reducible exact ih2 _ _ _ _ _ _ _)
      | (with_reducible exact ih3 _ _ _ _ _ _ _ _)
      | (with_reducible exact ih4 _ _ _ _ _)
      | (with_reducible exact ih5 _ _ _ _ _ _)
      | (with_reducible exact ih6 _ _ _ _ _ _)
      | (with_reducible exact fountainlaw7_alive.mono _)
      | (with_reducible exact precode_High.mono _ _ _ _)
      | (with_reducible exact precode_Low.mono _ _ _ _)
      | (with_reducible exact LeO.refl _)
      | (with_reducible exact LeO.none _)
      | (with_reducible refine LeO.ite ?_ ?_)
      | (with_reducible refine LeO.bind ?_ (fun _ => ?_))
      | exact ih0 _ _ _
      | exact ih1 _ _ _ _ _ _ _
      | exact ih2 _ _ _ _ _ _ _
      | exact ih3 _ _ _ _ _ _ _ _
      | exact ih4 _ _ _ _ _
      | exact ih5 _ _ _ _ _ _
      | exact ih6 _ _ _ _ _ _
      | exact fountainlaw7_alive.mono _
      | exact precode_High.mono _ _ _ _
      | exact precode_Low.mono _ _ _ _
      | exact LeO.none _
      | refine LeO.ite ?_ ?_
      | refine LeO.bind ?_ (fun _ => ?_)
    · intro y0 y1 y2 y3 y4 y5 y6 y7
      unfold fountainlaw7_PrecodeOnes.l1
      repeat' first
      | (with_reducible exact ih0 _ _ _)
      | (with_reducible exact ih1 _ _ _ _ _ _ _)
      | (with_reducible exact ih2 _ _ _ _ _ _ _)
      | (with_reducible exact ih3 _ _ _ _ _ _ _ _)
      | (with_reducible exact ih4 _ _ _ _ _)
      | (with_reducible exact ih5 _ _ _ _ _ _)
      | (with_reducible exact ih6 _ _ _ _ _ _)
      | (with_reducible exact fountainlaw7_alive.mono _)
      | (with_reducible exact precode_High.mono _ _ _ _)
      | (with_reducible exact precode_Low.mono _ _ _ _)
      | (with_reducible exact LeO.refl _)
      | (with_reducible exact LeO.none _)
      | (with_reducible refine LeO.ite ?_ ?_)
      | (with_reducible refine LeO.bind ?_ (fun _ => ?_))
      | exact ih0 _ _ _
      | exact ih1 _ _ _ _ _ _ _
      | exact ih2 _ _ _ _ _ _ _
      | exact ih3 _ _ _ _ _ _ _ _
      | exact ih4 _ _ _ _ _
      | exact ih5 _ _ _ _ _ _
      | exact ih6 _ _ _ _ _ _
      | exact fountainlaw7_alive.mono _
      | exact precode_High.mono _ _ _ _
      | exact precode_Low.mono _ _ _ _
      | exact LeO.none _
      | refine LeO.ite ?_ ?_
      | refine LeO.bind ?_ (fun _ => ?_)
    · intro y0 y1 y2 y3 y4
      unfold fountainlaw7_PrecodeOnes.l2
      repeat' first
      | (with_reducible exact ih0 _ _ _)
      | (with_reducible exact ih1 _ _ _ _ _ _ _)
      | (with_reducible exact ih2 _ _ _ _ _ _ _)
      | (with_reducible exact ih3 _ _ _ _ _ _ _ _)
      | (with_reducible exact ih4 _ _ _ _ _)
      | (with_reducible exact ih5 _ _ _ _ _ _)
      | (with_reducible exact ih6 _ _ _ _ _ _)
      | (with_reducible exact fountainlaw7_alive.mono _)
      | (with_reducible exact precode_High.mono _ _ _ _)
      | (with_reducible exact precode_Low.mono _ _ _ _)
      | (with_reducible exact LeO.refl _)
      | (with_reducible exact LeO.none _)
      | (with_reducible refine LeO.ite ?_ ?_)
      | (with_reducible refine LeO.bind ?_ (fun _ => ?_))
      | exact ih0 _ _ _
      | exact ih1 _ _ _ _ _ _ _
      | exact ih2 _ _ _ _ _ _ _
      | exact ih3 _ _ _ _ _ _ _ _
      | exact ih4 _ _ _ _ _
      | exact ih5 _ _ _ _ _ _
      | exact ih6 _ _ _ _ _ _
      | exact fountainlaw7_alive.mono _
      | exact precode_High.mono _ _ _ _
      | exact precode_Low.mono _ _ _ _
      | exact LeO.none _
      | refine LeO.ite ?_ ?_
      | refine LeO.bind ?_ (fun _ => ?_)
    · intro y0 y1 y2 y3 y4 y5
      unfold fountainlaw7_PrecodeOnes.l3
      repeat' first
      | (with_reducible exact ih0 _ _ _)
      | (with_reducible exact ih1 _ _ _ _ _ _ _)
      | (with_reducible exact ih2 _ _ _ _ _ _ _)
      | (with_reducible exact ih3 _ _ _ _ _ _ _ _)
      | (with_reducible exact ih4 _ _ _ _ _)
      | (with_reducible exact ih5 _ _ _ _ _ _)
      | (with_reducible exact ih6 _ _ _ _ _ _)
      | (with_reducible exact fountainlaw7_alive.mono _)
      | (with_reducible exact precode_High.mono _ _ _ _)
      | (with_reducible exact precode_Low.mono _ _ _ _)
      | (with_reducible exact LeO.refl _)
      | (with_reducible exact LeO.none _)
      | (with_reducible refine LeO.ite ?_ ?_)
      | (with_reducible refine LeO.bind ?_ (fun _ => ?_))
      | exact ih0 _ _ _
      | exact ih1 _ _ _ _ _ _ _
      | exact ih2 _ _ _ _ _ _ _
      | exact ih3 _ _ _ _ _ _ _ _
      | exact ih4 _ _ _ _ _
      | exact ih5 _ _ _ _ _ _
      | exact ih6 _ _ _ _ _ _
      | exact fountainlaw7_alive.mono _
      | exact precode_High.mono _ _ _ _
      | exact precode_Low.mono _ _ _ _
      | exact LeO.none _
      | refine LeO.ite ?_ ?_
      | refine LeO.bind ?_ (fun _ => ?_)
    · intro y0 y1 y2 y3 y4 y5
      unfold fountainlaw7_PrecodeOnes.l4
      repeat' first
      | (with_reducible exact ih0 _ _ _)
      | (with_reducible exact ih1 _ _ _ _ _ _ _)
      | (with_reducible exact ih2 _ _ _ _ _ _ _)
      | (with_reducible exact ih3 _ _ _ _ _ _ _ _)
      | (with_reducible exact ih4 _ _ _ _ _)
      | (with_reducible exact ih5 _ _ _ _ _ _)
      | (with_reducible exact ih6 _ _ _ _ _ _)
      | (with_reducible exact fountainlaw7_alive.mono _)
      | (with_reducible exact precode_High.mono _ _ _ _)
      | (with_reducible exact precode_Low.mono _ _ _ _)
      | (with_reducible exact LeO.refl _)
      | (with_reducible exact LeO.none _)
      | (with_reducible refine LeO.ite ?_ ?_)
      | (with_reducible refine LeO.bind ?_ (fun _ => ?_))
      | exact ih0 _ _ _
      | exact ih1 _ _ _ _ _ _ _
      | exact ih2 _ _ _ _ _ _ _
      | exact ih3 _ _ _ _ _ _ _ _
      | exact ih4 _ _ _ _ _
      | exact ih5 _ _ _ _ _ _
      | exact ih6 _ _ _ _ _ _
      | exact fountainlaw7_alive.mono _
      | exact precode_High.mono _ _ _ _
      | exact precode_Low.mono _ _ _ _
      | exact LeO.none _
      | refine LeO.ite ?_ ?_
      | refine LeO.bind ?_ (fun _ => ?_)
theorem fountainlaw7_PrecodeOnes.mono : ∀ a0 k, LeO (fountainlaw7_PrecodeOnes.f k a0) (fountainlaw7_PrecodeOnes.f (k + 1) a0) := by
  intro a0 k
  obtain ⟨ih0, ih1, ih2, ih3, ih4, ih5, ih6⟩ := fountainlaw7_PrecodeOnes.mono_l k
  unfold fountainlaw7_PrecodeOnes.f
  repeat' first
      | (with_reducible exact ih0 _ _ _)
      | (with_reducible exact ih1 _ _ _ _ _ _ _)
      | (with_reducible exact ih2 _ _ _ _ _ _ _)
      | (with_reducible exact ih3 _ _ _ _ _ _ _ _)
      | (with_reducible exact ih4 _ _ _ _ _)
      | (with_reducible exact ih5 _ _ _ _ _ _)
      | (with_reducible exact ih6 _ _ _ _ _ _)
      | (with_reducible exact fountainlaw7_alive.mono _)
      | (with_reducible exact precode_High.mono _ _ _ _)
      | (with_reducible exact precode_Low.mono _ _ _ _)
      | (with_reducible exact LeO.refl _)
      | (with_reducible exact LeO.none _)
      | (with_reducible refine LeO.ite ?_ ?_)
      | (with_reducible refine LeO.bind ?_ (fun _ => ?_))
      | exact ih0 _ _ _
      | exact ih1 _ _ _ _ _ _ _
      | exact ih2 _ _ _ _ _ _ _
      | exact ih3 _ _ _ _ _ _ _ _
      | exact ih4 _ _ _ _ _
      | exact ih5 _ _ _ _ _ _
      | exact ih6 _ _ _ _ _ _
      | exact fountainlaw7_alive.mono _
      | exact precode_High.mono _ _ _ _
      | exact precode_Low.mono _ _ _ _
      | exact LeO.none _
      | refine LeO.ite ?_ ?_
      | refine LeO.bind ?_ (fun _ => ?_)
def fountainlaw7_PrecodeOnes.T12 : Bool × List (List Nat × List Nat) := (true, [([], []), ([], []), ([0, 1], [0, 1]), ([2], [2]), ([3], [3]), ([], []), ([5], [5]), ([4, 6], [4, 6])])
def fountainlaw7_PrecodeOnes.B12 : List Nat := [0, 0, 3, 7, 15, 0, 32, 127]
theorem fountainlaw7_PrecodeOnes.tab12 : rtab .any (opsOf Try.f3 12) = fountainlaw7_PrecodeOnes.T12 := by kernel_rfl
theorem fountainlaw7_PrecodeOnes.bits12 : waitsOk fountainlaw7_PrecodeOnes.T12.2 fountainlaw7_PrecodeOnes.B12 = true := by kernel_rfl
def fountainlaw7_PrecodeOnes.T22 : Bool × List (List Nat × List Nat) := (true, [([], []), ([], []), ([0, 1], [0, 1]), ([2], [2]), ([3], [3]), ([], []), ([5], [5]), ([4, 6], [4, 6])])
def fountainlaw7_PrecodeOnes.B22 : List Nat := [0, 0, 3, 7, 15, 0, 32, 127]
theorem fountainlaw7_PrecodeOnes.tab22 : rtab .any (opsOf Try.f3 22) = fountainlaw7_PrecodeOnes.T22 := by kernel_rfl
theorem fountainlaw7_PrecodeOnes.bits22 : waitsOk fountainlaw7_PrecodeOnes.T22.2 fountainlaw7_PrecodeOnes.B22 = true := by kernel_rfl
def fountainlaw7_PrecodeOnes.T27 : Bool × List (List Nat × List Nat) := (true, [([], []), ([], []), ([0, 1], [0, 1]), ([2], [2]), ([], []), ([4], [4]), ([], []), ([5, 6], [5, 6]), ([3, 7], [3, 7]), ([8], [8]), ([9], [9]), ([], []), ([], []), ([11, 12], [11, 12]), ([10, 13], [10, 13]), ([14, 5], [14]), ([15], [15]), ([15], [15]), ([16, 17, 15], [15, 16, 17]), ([18, 15], [15, 18]), ([15], [15]), ([20, 15, 15], [15, 20]), ([15], [15]), ([21, 22, 15], [15, 21, 22]), ([19, 23, 15], [15, 19, 23]), ([24, 15], [15, 24]), ([25, 15], [15, 25]), ([15, 26], [15, 26])])
def fountainlaw7_PrecodeOnes.B27 : List Nat := [0, 0, 3, 7, 0, 16, 0, 112, 255, 511, 1023, 0, 0, 6144, 16383, 32767, 65535, 65535, 262143, 524287, 65535, 1114111, 65535, 7405567, 16777215, 33554431, 67108863, 134217727]
theorem fountainlaw7_PrecodeOnes.tab27 : rtab .any (opsOf Try.f3 27) = fountainlaw7_PrecodeOnes.T27 := by kernel_rfl
theorem fountainlaw7_PrecodeOnes.bits27 : waitsOk fountainlaw7_PrecodeOnes.T27.2 fountainlaw7_PrecodeOnes.B27 = true := by kernel_rfl
set_option maxHeartbeats 8000000 in
set_option maxRecDepth 100000 in
theorem fountainlaw7_PrecodeOnes.calls (k : Nat) (a0 : Int) (r : Bool) (w : World) (h : fountainlaw7_PrecodeOnes.f k a0 = some r) (hrt : r = true) :
    Calls Try.prog 3 #[.int .i64 a0] w fun e w' => e = .returned (.bool r) ∧ Below w.heap.size w w' := by
  have hu24 := Try.underlying24
  have HRT := Aside0.mk hrt
  clear hrt
  have HB := Aside0.mk (Below.refl w.heap.size w)
  have H : ((fountainlaw7_alive.f k).bind fun t160 => (if t160 = true then (if a0 < 1 then (fountainlaw7_PrecodeOnes.j0 k a0 t160 true) else (fountainlaw7_PrecodeOnes.j0 k a0 t160 (decide (a0 > 40)))) else (fountainlaw7_PrecodeOnes.j0 k a0 t160 true))) = some r := h
  clear h
  replace H := Option.bind_eq_some_iff.mp H
  obtain ⟨t160, A20, H⟩ := H
  replace H : (if t160 = true then (if a0 < 1 then (fountainlaw7_PrecodeOnes.j0 k a0 t160 true) else (fountainlaw7_PrecodeOnes.j0 k a0 t160 (decide (a0 > 40)))) else (fountainlaw7_PrecodeOnes.j0 k a0 t160 true)) = some r := H
  have A2 := Aside0.mk A20
  clear A20
  have HC3 := Aside0.mk H
  clear H
  go_enter Try.func3, Try.ntmps3
  go_upto_region 2 with (first | ((with_reducible refine gate_callee (f := 18) rfl ?_); refine goesL_ (some 13) rfl rfl Try.func18 (by kernel_rfl) rfl #[] rfl (by (try simp only [List.map_toArray, List.map_cons, List.map_nil]); first | done | rfl | (simp only [List.length_drop, List.length_take]; rfl)) ?_; (with_reducible refine (fountainlaw7_alive.calls k  t160 _ A2.out).mono ?_); rintro e w4 ⟨rfl, hb⟩; refine ⟨_, rfl, ?_⟩; have n0_ := Aside0.mk (below_step (by repeat (first | (with_reducible first | exact HB.out | apply below_alloc | apply pw_below_drewN | apply below_drew1) | exact HB.out)) hb); clear HB; have HB := n0_; clear n0_; (try clear hb); (try clear hb2); (try clear hk); (try clear hi)))
  (try simp only [Act.put, List.setIfInBounds_toArray, List.set_cons_zero, List.set_cons_succ])
  go_cut [23] (fun v23 wc => ∃ (kq : Nat) (x23_2 : Bool), v23 = .bool x23_2 ∧ Aside0 (fountainlaw7_PrecodeOnes.j0 kq a0 t160 x23_2 = some r) ∧ Aside0 (kq ≤ k) ∧ Aside0 (Below w.heap.size w wc))
  case first =>
    have H := HC3.out
    clear HC3
    by_cases c5 : t160 = true
    · subst c5
      have H1 : (if a0 < 1 then (fountainlaw7_PrecodeOnes.j0 k a0 true true) else (fountainlaw7_PrecodeOnes.j0 k a0 true (decide (a0 > 40)))) = some r := by rw [if_pos rfl] at H; exact H
      clear H
      have H := H1
      clear H1
      by_cases c6 : a0 < 1
      · rw [if_pos c6] at H
        have c6b0 : decide (a0 < 1) = true := decide_eq_true c6
        clear c6
        (first | rw [c6b0] | (simp only [i64_w, i32_w]; rw [c6b0]) | skip)
        have H' := Aside0.mk H
        clear H
        go_wp2
        go_meet
        case rel => exact ⟨_, (true), (by first | rfl | (simp; done) | (simp [*]; done)), H', ⟨by first | omega | exact Nat.le_refl _⟩, ⟨by repeat (first | (with_reducible first | exact HB.out | apply below_alloc | apply pw_below_drewN | apply below_drew1) | exact HB.out)⟩⟩
      · rw [if_neg c6] at H
        have c6b0 : decide (a0 < 1) = false := decide_eq_false c6
        clear c6
        (first | rw [c6b0] | (simp only [i64_w, i32_w]; rw [c6b0]) | skip)
        have H' := Aside0.mk H
        clear H
        go_wp2
        go_meet
        case rel => exact ⟨_, (decide (a0 > 40)), (by first | rfl | (simp; done) | (simp [*]; done)), H', ⟨by first | omega | exact Nat.le_refl _⟩, ⟨by repeat (first | (with_reducible first | exact HB.out | apply below_alloc | apply pw_below_drewN | apply below_drew1) | exact HB.out)⟩⟩
    · replace c5 := Bool.eq_false_iff.mpr c5
      subst c5
      have H1 : (fountainlaw7_PrecodeOnes.j0 k a0 false true) = some r := by rw [if_neg (show ¬ (false = true) by decide)] at H; exact H
      clear H
      have H := H1
      clear H1
      have H' := Aside0.mk H
      clear H
      go_wp2
      go_meet
      case rel => exact ⟨_, (true), (by first | rfl | (simp; done) | (simp [*]; done)), H', ⟨by first | omega | exact Nat.le_refl _⟩, ⟨by repeat (first | (with_reducible first | exact HB.out | apply below_alloc | apply pw_below_drewN | apply below_drew1) | exact HB.out)⟩⟩
  case rest =>
    clear HC3
    try clear c1
    try clear p2
    try clear c3
    try clear c5
    try clear c6
    try clear c6b0
    obtain ⟨kq, x23_2, rfl, HA, HJ2, HB⟩ := hcut
    cases kq with
    | zero => exact absurd HA.out (by simp [fountainlaw7_PrecodeOnes.j0])
    | succ kj2 =>
      have H := HA.out
      clear HA
      simp only [fountainlaw7_PrecodeOnes.j0] at H
      by_cases c7 : x23_2 = true
      · subst c7
        have H1 : (some t160) = some r := by rw [if_pos rfl] at H; exact H
        clear H
        have H := H1
        clear H1
        obtain rfl := Option.some.inj H
        go_wp2
        go_ret
        exact ⟨by first | rfl | (simp [errW_none, errW_some] <;> rfl) | (simp [*, errW_none, errW_some] <;> rfl), by repeat (first | (with_reducible first | exact HB.out | apply below_alloc | apply pw_below_drewN | apply below_drew1) | exact HB.out)⟩
      · replace c7 := Bool.eq_false_iff.mpr c7
        subst c7
        have H1 : ((params_Of.f a0).bind fun bt161 => ((precode_Low.f kj2 bt161.1 bt161.2.1 bt161.2.2.1).bind fun t166 => ((precode_High.f kj2 bt161.1 bt161.2.1 bt161.2.2.1).bind fun t169 => (if (t166.length : Int) = bt161.2.1 then (fountainlaw7_PrecodeOnes.j1 kj2 a0 t166 t169 ((t169.length : Int) != bt161.2.2.1) bt161.1 bt161.2.1 bt161.2.2.1) else (fountainlaw7_PrecodeOnes.j1 kj2 a0 t166 t169 true bt161.1 bt161.2.1 bt161.2.2.1))))) = some r := by rw [if_neg (show ¬ (false = true) by decide)] at H; exact H
        clear H
        have H := H1
        clear H1
        replace H := Option.bind_eq_some_iff.mp H
        obtain ⟨⟨t161, t162, t163, t164⟩, A80, H⟩ := H
        replace H : ((precode_Low.f kj2 t161 t162 t163).bind fun t166 => ((precode_High.f kj2 t161 t162 t163).bind fun t169 => (if (t166.length : Int) = t162 then (fountainlaw7_PrecodeOnes.j1 kj2 a0 t166 t169 ((t169.length : Int) != t163) t161 t162 t163) else (fountainlaw7_PrecodeOnes.j1 kj2 a0 t166 t169 true t161 t162 t163)))) = some r := H
        have A8 := Aside0.mk A80
        clear A80
        replace H := Option.bind_eq_some_iff.mp H
        obtain ⟨t166, A90, H⟩ := H
        replace H : ((precode_High.f kj2 t161 t162 t163).bind fun t169 => (if (t166.length : Int) = t162 then (fountainlaw7_PrecodeOnes.j1 kj2 a0 t166 t169 ((t169.length : Int) != t163) t161 t162 t163) else (fountainlaw7_PrecodeOnes.j1 kj2 a0 t166 t169 true t161 t162 t163))) = some r := H
        have A9 := Aside0.mk A90
        clear A90
        replace H := Option.bind_eq_some_iff.mp H
        obtain ⟨t169, A100, H⟩ := H
        replace H : (if (t166.length : Int) = t162 then (fountainlaw7_PrecodeOnes.j1 kj2 a0 t166 t169 ((t169.length : Int) != t163) t161 t162 t163) else (fountainlaw7_PrecodeOnes.j1 kj2 a0 t166 t169 true t161 t162 t163)) = some r := H
        have A10 := Aside0.mk A100
        clear A100
        have HC11 := Aside0.mk H
        clear H
        go_upto_region 7 with (first | ((with_reducible refine gate_callee (f := 19) rfl ?_); refine goesL_ (some 27) rfl rfl Try.func19 (by kernel_rfl) rfl #[.int .i64 a0] rfl (by (try simp only [List.map_toArray, List.map_cons, List.map_nil]); first | done | rfl | (simp only [List.length_drop, List.length_take]; rfl)) ?_; (with_reducible refine (params_Of.calls a0 t161 t162 t163 t164 _ A8.out).mono ?_); rintro e w12 ⟨rfl, hb⟩; refine ⟨_, rfl, ?_⟩; have n0_ := Aside0.mk (below_step (by repeat (first | (with_reducible first | exact HB.out | apply below_alloc | apply pw_below_drewN | apply below_drew1) | exact HB.out)) hb); clear HB; have HB := n0_; clear n0_; (try clear hb); (try clear hb2); (try clear hk); (try clear hi)) | ((with_reducible refine gate_dst (N := 4) rfl ?_); (try (refine gate_guard (by rfl) ?_; dsimp only)); refine box_event ?hg (N := 4) ?hd (cs := #[.int .i64 0, .int .i64 0, .int .i64 0]) (t := 24) ?hr ?_; (case hd => rfl); (case hg => rfl); (case hr => first | (go_simp; done) | (go_simp; rfl)); intro gb165 hg w13 hbox hb; have n0_ := Aside0.mk (below_step (by repeat (first | (with_reducible first | exact HB.out | apply below_alloc | apply pw_below_drewN | apply below_drew1) | exact HB.out)) hb); have n1_ := Aside0.mk (hbox); have n2_ := Aside0.mk ((by rw [hg]; exact (below_size (by repeat (first | (with_reducible first | exact HB.out | apply below_alloc | apply pw_below_drewN | apply below_drew1) | exact HB.out))) : w.heap.size ≤ gb165)); have n3_ := Aside0.mk ((by rw [hg]; exact (below_size (by repeat (first | (with_reducible first | exact HB.out | apply below_alloc | apply pw_below_drewN | apply below_drew1) | exact HB.out))) : w.heap.size ≤ gb165)); clear HB; have HB := n0_; have BK165 := n1_; have GW165 := n2_; have GE165 := n3_; clear n0_ n1_ n2_ n3_; clear hb hbox hg; have hcz14_0 : w13.cell? ⟨gb165, 0, none⟩ = some (.int .i64 0) := (blk_cell BK165.out 0).trans rfl; have hcz14_1 : w13.cell? ⟨gb165, 1, none⟩ = some (.int .i64 0) := (blk_cell BK165.out 1).trans rfl; have hcz14_2 : w13.cell? ⟨gb165, 2, none⟩ = some (.int .i64 0) := (blk_cell BK165.out 2).trans rfl; have hfz14_0 := blk_frozen BK165.out 0; have hfz14_1 := blk_frozen BK165.out 1; have hfz14_2 := blk_frozen BK165.out 2) | ((with_reducible refine gate_callee (f := 20) rfl ?_); refine goesL_ (some 31) rfl rfl Try.func20 (by kernel_rfl) rfl #[.agg #[.int .i64 t161, .int .i64 t162, .int .i64 t163]] rfl (by (try simp only [List.map_toArray, List.map_cons, List.map_nil]); first | done | rfl | (simp only [List.length_drop, List.length_take]; rfl)) ?_; (with_reducible refine (precode_Low.calls kj2 t161 t162 t163 t166 _ A9.out).mono ?_); rintro e w15 ⟨v167, rfl, ho0, hb⟩; refine ⟨_, rfl, ?_⟩; have n0_ := Aside0.mk (Kd.S_lower ho0 (below_size (by repeat (first | (with_reducible first | exact HB.out | apply below_alloc | apply pw_below_drewN | apply below_drew1 | refine below_set ?_ GE165.out) | exact HB.out)))); have n1_ := Aside0.mk (blk_below (g := gb165) (o := .cells #[.int .i64 t161, .int .i64 t162, .int .i64 t163] 24 (0, 0)) (by (with_reducible repeat (first | refine blk_drewN ?_ _ | refine blk_drew ?_ | refine blk_alloc ?_ _)); refine blk_put (cs := #[.int .i64 t161, .int .i64 t162, .int .i64 0]) ?_ 2 _ rfl; (with_reducible repeat (first | refine blk_drewN ?_ _ | refine blk_drew ?_ | refine blk_alloc ?_ _)); refine blk_put (cs := #[.int .i64 t161, .int .i64 0, .int .i64 0]) ?_ 1 _ rfl; (with_reducible repeat (first | refine blk_drewN ?_ _ | refine blk_drew ?_ | refine blk_alloc ?_ _)); refine blk_put (cs := #[.int .i64 0, .int .i64 0, .int .i64 0]) ?_ 0 _ rfl; (with_reducible repeat (first | refine blk_drewN ?_ _ | refine blk_drew ?_ | refine blk_alloc ?_ _)); exact BK165.out) hb); have n2_ := Aside0.mk (below_step (by repeat (first | (with_reducible first | exact HB.out | apply below_alloc | apply pw_below_drewN | apply below_drew1 | refine below_set ?_ GE165.out) | exact HB.out)) hb); clear BK165; clear HB; have HO168 := n0_; have BK165 := n1_; have HB := n2_; clear n0_ n1_ n2_; (try clear hb); (try clear hb2); (try clear hk); (try clear hi); (try clear ho0); have hcz16_0 : w15.cell? ⟨gb165, 0, none⟩ = some (.int .i64 t161) := (blk_cell BK165.out 0).trans rfl; have hcz16_1 : w15.cell? ⟨gb165, 1, none⟩ = some (.int .i64 t162) := (blk_cell BK165.out 1).trans rfl; have hcz16_2 : w15.cell? ⟨gb165, 2, none⟩ = some (.int .i64 t163) := (blk_cell BK165.out 2).trans rfl; have hfz16_0 := blk_frozen BK165.out 0; have hfz16_1 := blk_frozen BK165.out 1; have hfz16_2 := blk_frozen BK165.out 2) | ((with_reducible refine gate_callee (f := 21) rfl ?_); refine goesL_ (some 33) rfl rfl Try.func21 (by kernel_rfl) rfl #[.agg #[.int .i64 t161, .int .i64 t162, .int .i64 t163]] rfl (by (try simp only [List.map_toArray, List.map_cons, List.map_nil]); first | done | rfl | (simp only [List.length_drop, List.length_take]; rfl)) ?_; (with_reducible refine (precode_High.calls kj2 t161 t162 t163 t169 _ A10.out).mono ?_); rintro e w17 ⟨v170, rfl, ho0, hb⟩; refine ⟨_, rfl, ?_⟩; have n0_ := Aside0.mk (Kd.S_elder' (by (with_reducible repeat (first | apply Kd.S_alloc | apply Kd.S_drewN | apply Kd.S_drew)); exact HO168.out) (Kd.S_base ho0) hb); have n1_ := Aside0.mk (Kd.S_lower (Kd.S_new' ho0 (Kd.S_lt (by (with_reducible repeat (first | apply Kd.S_alloc | apply Kd.S_drewN | apply Kd.S_drew)); exact HO168.out))) (below_size (by repeat (first | (with_reducible first | exact HB.out | apply below_alloc | apply pw_below_drewN | apply below_drew1 | refine below_set ?_ GE165.out) | exact HB.out)))); have n2_ := Aside0.mk (blk_below (g := gb165) (o := .cells #[.int .i64 t161, .int .i64 t162, .int .i64 t163] 24 (0, 0)) (by (with_reducible repeat (first | refine blk_drewN ?_ _ | refine blk_drew ?_ | refine blk_alloc ?_ _)); exact BK165.out) hb); have n3_ := Aside0.mk (below_step (by repeat (first | (with_reducible first | exact HB.out | apply below_alloc | apply pw_below_drewN | apply below_drew1 | refine below_set ?_ GE165.out) | exact HB.out)) hb); clear HO168; clear BK165; clear HB; have HO168 := n0_; have HO171 := n1_; have BK165 := n2_; have HB := n3_; clear n0_ n1_ n2_ n3_; (try clear hb); (try clear hb2); (try clear hk); (try clear hi); (try clear ho0)))
        (try simp only [Act.put, List.setIfInBounds_toArray, List.set_cons_zero, List.set_cons_succ])
        go_cut [45] (fun v45 wc => ∃ (kq : Nat) (x45_10 : Bool), v45 = .bool x45_10 ∧ Aside0 (fountainlaw7_PrecodeOnes.j1 kq a0 t166 t169 x45_10 t161 t162 t163 = some r) ∧ Aside0 (kq ≤ kj2) ∧ Aside0 (Kd.S (Kd.slice 5 (Kd.int .u8)) 31 wc w.heap.size (fun k_ => some k_ ≠ (v170 : Value).ownBlock) v167 t166) ∧ Aside0 (Kd.S (Kd.slice 5 (Kd.int .u8)) 31 wc w.heap.size (fun k_ => some k_ ≠ (v167 : Value).ownBlock) v170 t169) ∧ Aside0 (wc.heap[gb165]? = some (.cells #[.int .i64 t161, .int .i64 t162, .int .i64 t163] 24 (0, 0))) ∧ Aside0 (Below w.heap.size w wc))
        case first =>
          have H := HC11.out
          clear HC11
          by_cases c18 : (t166.length : Int) = t162
          · rw [if_pos c18] at H
            have c18b0 : ((t166.length : Int) == t162) = true := beq_iff_eq.mpr c18
            have c18b1 : ((t166.length : Int) != t162) = false := bne_eq_false_iff_eq.mpr c18
            clear c18
            (first | rw [c18b0] | (simp only [i64_w, i32_w]; rw [c18b0]) | skip)
            have H' := Aside0.mk H
            clear H
            obtain ⟨Ao19, co19, eo19⟩ := Kd.S_slice HO168.out
            subst eo19
            have hcz20_0 : w17.cell? ⟨gb165, 0, none⟩ = some (.int .i64 t161) := (blk_cell BK165.out 0).trans rfl
            have hcz20_1 : w17.cell? ⟨gb165, 1, none⟩ = some (.int .i64 t162) := (blk_cell BK165.out 1).trans rfl
            have hcz20_2 : w17.cell? ⟨gb165, 2, none⟩ = some (.int .i64 t163) := (blk_cell BK165.out 2).trans rfl
            have hfz20_0 := blk_frozen BK165.out 0
            have hfz20_1 := blk_frozen BK165.out 1
            have hfz20_2 := blk_frozen BK165.out 2
            obtain ⟨Ao21, co21, eo21⟩ := Kd.S_slice HO171.out
            subst eo21
            go_wp2
            go_meet
            case rel => exact ⟨_, (((t169.length : Int) != t163)), (by first | rfl | (simp; done) | (simp [*]; done)), H', ⟨by have := HJ2.out; first | omega | exact Nat.le_refl _⟩, ⟨by (with_reducible repeat (first | apply Kd.S_alloc | apply Kd.S_drewN | apply Kd.S_drew)); exact Kd.S_mono HO168.out (fun _ hk => hk.2)⟩, ⟨by (with_reducible repeat (first | apply Kd.S_alloc | apply Kd.S_drewN | apply Kd.S_drew)); exact Kd.S_mono HO171.out (fun _ hk => hk.2)⟩, ⟨by (with_reducible repeat (first | refine blk_drewN ?_ _ | refine blk_drew ?_ | refine blk_alloc ?_ _)); exact BK165.out⟩, ⟨by repeat (first | (with_reducible first | exact HB.out | apply below_alloc | apply pw_below_drewN | apply below_drew1 | refine below_set ?_ GE165.out) | exact HB.out)⟩⟩
          · rw [if_neg c18] at H
            have c18b0 : ((t166.length : Int) == t162) = false := beq_eq_false_iff_ne.mpr c18
            have c18b1 : ((t166.length : Int) != t162) = true := bne_iff_ne.mpr c18
            (first | rw [c18b0] | (simp only [i64_w, i32_w]; rw [c18b0]) | skip)
            have H' := Aside0.mk H
            clear H
            obtain ⟨Ao22, co22, eo22⟩ := Kd.S_slice HO168.out
            subst eo22
            have hcz23_0 : w17.cell? ⟨gb165, 0, none⟩ = some (.int .i64 t161) := (blk_cell BK165.out 0).trans rfl
            have hcz23_1 : w17.cell? ⟨gb165, 1, none⟩ = some (.int .i64 t162) := (blk_cell BK165.out 1).trans rfl
            have hcz23_2 : w17.cell? ⟨gb165, 2, none⟩ = some (.int .i64 t163) := (blk_cell BK165.out 2).trans rfl
            have hfz23_0 := blk_frozen BK165.out 0
            have hfz23_1 := blk_frozen BK165.out 1
            have hfz23_2 := blk_frozen BK165.out 2
            go_wp2
            go_meet
            case rel => exact ⟨_, (true), (by first | rfl | (simp; done) | (simp [*]; done)), H', ⟨by have := HJ2.out; first | omega | exact Nat.le_refl _⟩, ⟨by (with_reducible repeat (first | apply Kd.S_alloc | apply Kd.S_drewN | apply Kd.S_drew)); exact Kd.S_mono HO168.out (fun _ hk => hk.2)⟩, ⟨by (with_reducible repeat (first | apply Kd.S_alloc | apply Kd.S_drewN | apply Kd.S_drew)); exact Kd.S_mono HO171.out (fun _ hk => hk.2)⟩, ⟨by (with_reducible repeat (first | refine blk_drewN ?_ _ | refine blk_drew ?_ | refine blk_alloc ?_ _)); exact BK165.out⟩, ⟨by repeat (first | (with_reducible first | exact HB.out | apply below_alloc | apply pw_below_drewN | apply below_drew1 | refine below_set ?_ GE165.out) | exact HB.out)⟩⟩
        case rest =>
          clear HC11
          try clear c1
          try clear c2
          try clear p2
          try clear c3
          try clear c5
          try clear c6
          try clear c6b0
          try clear c7
          try clear c18
          try clear c18b0
          try clear c18b1
          try clear c19
          try clear c20
          try clear c21
          try clear hcz14_0
          try clear hcz14_1
          try clear hcz14_2
          try clear hcz16_0
          try clear hcz16_1
          try clear hcz16_2
          try clear hcz20_0
          try clear hcz20_1
          try clear hcz20_2
          try clear hcz23_0
          try clear hcz23_1
          try clear hcz23_2
          try clear hfz14_0
          try clear hfz14_1
          try clear hfz14_2
          try clear hfz16_0
          try clear hfz16_1
          try clear hfz16_2
          try clear hfz20_0
          try clear hfz20_1
          try clear hfz20_2
          try clear hfz23_0
          try clear hfz23_1
          try clear hfz23_2
          try clear p2
          obtain ⟨kq, x45_10, rfl, HA, HJ10, HO_6, HO_7, BK165, HB⟩ := hcut
          cases kq with
          | zero => exact absurd HA.out (by simp [fountainlaw7_PrecodeOnes.j1])
          | succ kj10 =>
            have H := HA.out
            clear HA
            simp only [fountainlaw7_PrecodeOnes.j1] at H
            by_cases c24 : x45_10 = true
            · subst c24
              have H1 : (some false) = some r := by rw [if_pos rfl] at H; exact H
              clear H
              have H := H1
              clear H1
              exact absurd ((Option.some.inj H).trans HRT.out) (by decide)
            · replace c24 := Bool.eq_false_iff.mpr c24
              subst c24
              have H1 : (fountainlaw7_PrecodeOnes.l0 kj10 a0 t166 t169 0 t161 t162 t163) = some r := by rw [if_neg (show ¬ (false = true) by decide)] at H; exact H
              clear H
              have H := H1
              clear H1
              have H' := Aside0.mk H
              clear H
              go_wp2
              go_loopg [8] kj10 (fun kq v8 w' => ∃ (x8_3 : Int), v8 = .int .i64 x8_3 ∧ Aside0 (fountainlaw7_PrecodeOnes.l0 kq a0 t166 t169 x8_3 t161 t162 t163 = some r) ∧ Aside0 (kq ≤ kj10) ∧ Aside0 (Kd.S (Kd.slice 5 (Kd.int .u8)) 31 w' w.heap.size (fun k_ => some k_ ≠ (v170 : Value).ownBlock) v167 t166) ∧ Aside0 (Kd.S (Kd.slice 5 (Kd.int .u8)) 31 w' w.heap.size (fun k_ => some k_ ≠ (v167 : Value).ownBlock) v170 t169) ∧ Aside0 (w'.heap[gb165]? = some (.cells #[.int .i64 t161, .int .i64 t162, .int .i64 t163] 24 (0, 0))) ∧ Aside0 (Below w.heap.size w w'))
              case atStart => exact ⟨(0), (by first | rfl | (simp; done) | (simp [*]; done)), H', ⟨Nat.le_refl _⟩, ⟨by (with_reducible repeat (first | apply Kd.S_alloc | apply Kd.S_drewN | apply Kd.S_drew)); exact HO_6.out⟩, ⟨by (with_reducible repeat (first | apply Kd.S_alloc | apply Kd.S_drewN | apply Kd.S_drew)); exact HO_7.out⟩, ⟨by (with_reducible repeat (first | refine blk_drewN ?_ _ | refine blk_drew ?_ | refine blk_alloc ?_ _)); exact BK165.out⟩, ⟨by repeat (first | (with_reducible first | exact HB.out | apply below_alloc | apply pw_below_drewN | apply below_drew1 | refine below_set ?_ GE165.out) | exact HB.out)⟩⟩
              case round =>
                clear H'
                try clear c1
                try clear c2
                try clear p2
                try clear c3
                try clear c5
                try clear c6
                try clear c6b0
                try clear c7
                try clear c18
                try clear c18b0
                try clear c18b1
                try clear c19
                try clear c20
                try clear c21
                try clear c24
                try clear hcz14_0
                try clear hcz14_1
                try clear hcz14_2
                try clear hcz16_0
                try clear hcz16_1
                try clear hcz16_2
                try clear hcz20_0
                try clear hcz20_1
                try clear hcz20_2
                try clear hcz23_0
                try clear hcz23_1
                try clear hcz23_2
                try clear hfz14_0
                try clear hfz14_1
                try clear hfz14_2
                try clear hfz16_0
                try clear hfz16_1
                try clear hfz16_2
                try clear hfz20_0
                try clear hfz20_1
                try clear hfz20_2
                try clear hfz23_0
                try clear hfz23_1
                try clear hfz23_2
                try clear p2
                obtain ⟨x8_3, rfl, HA, HK3, HO_6, HO_7, BK165, HB⟩ := hrel
                cases gk with
                | zero => exact absurd HA.out (by simp [fountainlaw7_PrecodeOnes.l0])
                | succ k3 =>
                  have H := HA.out
                  clear HA
                  simp only [fountainlaw7_PrecodeOnes.l0] at H
                  by_cases c25 : x8_3 < t162
                  · rw [if_pos c25] at H
                    have c25b0 : decide (x8_3 < t162) = true := decide_eq_true c25
                    clear c25
                    by_cases c26 : 0 ≤ x8_3
                    · rw [if_pos c26] at H
                      have c26b0 : decide (0 ≤ x8_3) = true := decide_eq_true c26
                      clear c26
                      by_cases c27 : x8_3 < (t166.length : Int)
                      · rw [if_pos c27] at H
                        have c27b0 : decide (x8_3 < (t166.length : Int)) = true := decide_eq_true c27
                        clear c27
                        replace H := Option.bind_eq_some_iff.mp H
                        obtain ⟨t173, A280, H⟩ := H
                        replace H : (if ((rd_L1 t166 x8_3).length : Int) = t173 then (fountainlaw7_PrecodeOnes.l1 k3 a0 t166 t169 x8_3 0 t161 t162 t163) else (some false)) = some r := H
                        have A28 := Aside0.mk A280
                        clear A280
                        by_cases c29 : ((rd_L1 t166 x8_3).length : Int) = t173
                        · rw [if_pos c29] at H
                          have c29b0 : (((rd_L1 t166 x8_3).length : Int) == t173) = true := beq_iff_eq.mpr c29
                          have c29b1 : (((rd_L1 t166 x8_3).length : Int) != t173) = false := bne_eq_false_iff_eq.mpr c29
                          clear c29
                          have H' := Aside0.mk H
                          clear H
                          have hcz30_0 : wr.cell? ⟨gb165, 0, none⟩ = some (.int .i64 t161) := (blk_cell BK165.out 0).trans rfl
                          have hcz30_1 : wr.cell? ⟨gb165, 1, none⟩ = some (.int .i64 t162) := (blk_cell BK165.out 1).trans rfl
                          have hcz30_2 : wr.cell? ⟨gb165, 2, none⟩ = some (.int .i64 t163) := (blk_cell BK165.out 2).trans rfl
                          have hfz30_0 := blk_frozen BK165.out 0
                          have hfz30_1 := blk_frozen BK165.out 1
                          have hfz30_2 := blk_frozen BK165.out 2
                          try go_wp2
                          have n0_ := Aside0.mk (Kd.S_drew HO_6.out)
                          have n1_ := Aside0.mk (Kd.S_drew HO_7.out)
                          have n2_ := Aside0.mk (blk_drew BK165.out)
                          have n3_ := Aside0.mk (below_drew1 HB.out)
                          clear HO_6
                          clear HO_7
                          clear BK165
                          clear HB
                          have HO_6 := n0_
                          have HO_7 := n1_
                          have BK165 := n2_
                          have HB := n3_
                          clear n0_ n1_ n2_ n3_
                          obtain ⟨Ao32, co32, eo32⟩ := Kd.S_slice HO_6.out
                          (first | subst eo32 | (injection eo32 with f1_ f2_ f3_; have f4_ := f1_.symm; have f5_ := f3_.symm; clear f1_ f2_ f3_; subst f4_; subst f5_))
                          have p172 : 0 ≤ (x8_3 : Int) := of_decide_eq_true (by first | (with_reducible assumption) | assumption)
                          have q172 : x8_3 < (t166.length : Int) := of_decide_eq_true (by first | (with_reducible assumption) | assumption)
                          obtain ⟨ad172, A172_0, c172_0, e172, hx172_0, hl172_0, hi172_0⟩ := at_L1 (Kd.S_reads' HO_6.out).2.2 x8_3 p172 q172
                          cases e172
                          obtain ⟨ce172, hce172, hMe172, hcc172⟩ := Kd.S_get HO_6.out [] x8_3 p172 (by first | exact q172 | exact of_decide_eq_true (by first | (with_reducible assumption) | assumption) | (have e_ := (Kd.S_reads' HO_6.out).1; omega))
                          obtain ⟨ve172_0, rfl, ge172_0⟩ := hMe172
                          have hv172_0 := hcc172 0 _ rfl
                          rw [Nat.add_zero, show ((Kd.slice 5 (Kd.int .u8))).sz = 1 from rfl, Nat.mul_one] at hv172_0
                          replace hv172_0 := Option.some.inj (hv172_0.symm.trans hx172_0)
                          rw [hv172_0] at ge172_0
                          have HL172_0 := Aside0.mk (show Kd.R (Kd.int .u8) 5 _ _ _ _ (rd_L1 t166 x8_3) from ge172_0)
                          clear hv172_0 ge172_0
                          clear hcc172 hce172
                          have HR172_0 := Aside0.mk hi172_0
                          have HC172_0 := Aside0.mk hl172_0
                          clear hi172_0 hl172_0
                          replace p172 := eq_true p172
                          replace q172 := eq_true q172
                          refine start_ (n := 8) (S := fun w' => w'.cell? ⟨gb165, 0, none⟩ = some (.int .i64 t161) ∧ w'.cell? ⟨gb165, 1, none⟩ = some (.int .i64 t162) ∧ w'.cell? ⟨gb165, 2, none⟩ = some (.int .i64 t163) ∧ w'.cell? (ad172.add (x8_3).toNat) = some (.slice A172_0 (rd_L1 t166 x8_3).length c172_0)) (ds := []) #[false, false, false, false, false, false, false, false] (by kernel_rfl) rfl rfl ⟨(blk_cell BK165.out 0).trans rfl, (blk_cell BK165.out 1).trans rfl, (blk_cell BK165.out 2).trans rfl, hx172_0⟩ (fun hHeld => ?_); refine with_tabW fountainlaw7_PrecodeOnes.tab12 fountainlaw7_PrecodeOnes.bits12 (fun HT_ HW_ => ?_)
                          generalize wr.drew = w31 at HO_6 HO_7 BK165 HB HL172_0 HR172_0 hx172_0 hHeld ⊢
                          refine pure_ (i := 0) (N := some 52) (v := ?_) (a' := ?_) #[true, false, false, false, false, false, false, false] rfl rfl (any_of HT_.out (by kernel_rfl)) (fun _ _ _ h => h) (Or.inl ⟨by rfl, ?_⟩) ?_ ?_
                          rotate_left
                          · intro w'
                            go_simp
                            with_reducible rfl
                          rotate_left
                          · simp only [Act.put, List.setIfInBounds_toArray, List.set_cons_zero, List.set_cons_succ, i64_w, i32_w]
                            rfl
                          refine pure_ (i := 1) (N := some 53) (v := ?_) (a' := ?_) #[true, true, false, false, false, false, false, false] rfl rfl (any_of HT_.out (by kernel_rfl)) (fun _ _ _ h => h) (Or.inl ⟨by rfl, ?_⟩) ?_ ?_
                          rotate_left
                          · intro w'
                            go_simp
                            with_reducible rfl
                          rotate_left
                          · simp only [Act.put, List.setIfInBounds_toArray, List.set_cons_zero, List.set_cons_succ, i64_w, i32_w]
                            rfl
                          refine pure_ (i := 2) (N := some 54) (v := ?_) (a' := ?_) #[true, true, true, false, false, false, false, false] rfl rfl (any_of HT_.out (by kernel_rfl)) (fun _ _ _ h => h) (Or.inl ⟨by rfl, ?_⟩) ?_ ?_
                          rotate_left
                          · intro w'
                            go_simp
                            with_reducible rfl
                          rotate_left
                          · simp only [Act.put, List.setIfInBounds_toArray, List.set_cons_zero, List.set_cons_succ, i64_w, i32_w]
                            rfl
                          refine take_ (i := 3) (N := some 55) (v := ?_) (a' := ?_) #[true, true, true, true, false, false, false, false] rfl rfl (take_ofW HT_.out HW_.out (by kernel_rfl)) (fun _ _ _ h => h) (Or.inl ⟨by rfl, ?_⟩) hHeld ?_ ?_
                          rotate_left
                          · rintro w' ⟨s0, s1, s2, s3⟩
                            go_simp
                            with_reducible rfl
                          rotate_left
                          · simp only [Act.put, List.setIfInBounds_toArray, List.set_cons_zero, List.set_cons_succ, i64_w, i32_w]
                            rfl
                          refine pure_ (i := 4) (N := some 56) (v := ?_) (a' := ?_) #[true, true, true, true, true, false, false, false] rfl rfl (any_of HT_.out (by kernel_rfl)) (fun _ _ _ h => h) (Or.inl ⟨by rfl, ?_⟩) ?_ ?_
                          rotate_left
                          · intro w'
                            go_simp
                            with_reducible rfl
                          rotate_left
                          · simp only [Act.put, List.setIfInBounds_toArray, List.set_cons_zero, List.set_cons_succ, i64_w, i32_w]
                            rfl
                          refine take_ (i := 5) (N := some 57) (v := ?_) (a' := ?_) #[true, true, true, true, true, true, false, false] rfl rfl (take_ofW HT_.out HW_.out (by kernel_rfl)) (fun _ _ _ h => h) (Or.inl ⟨by rfl, ?_⟩) hHeld ?_ ?_
                          rotate_left
                          · rintro w' ⟨s0, s1, s2, s3⟩
                            go_simp
                            with_reducible rfl
                          rotate_left
                          · simp only [Act.put, List.setIfInBounds_toArray, List.set_cons_zero, List.set_cons_succ, i64_w, i32_w]
                            rfl
                          refine one_ (i := 6) (N := some 58) #[true, true, true, true, true, true, true, false] rfl rfl (one_of HT_.out (by kernel_rfl)) (by decide) (fun K hK => ?_)
                          refine goes_ Try.func22 (by kernel_rfl) rfl #[.agg #[.int .i64 t161, .int .i64 t162, .int .i64 t163]] (by rfl) rfl rfl (by (try simp only [List.map_toArray, List.map_cons, List.map_nil]); first | done | rfl | (simp only [List.length_drop, List.length_take]; rfl)) ?_
                          with_reducible refine (params_Params_L.calls t161 t162 t163 t173 _ A28.out).mono ?_
                          rintro e w33 ⟨rfl, hb⟩
                          have HS3_ := (hb.cell (World.block_lt_of_cell? _ _ (hHeld.2.2.2))).trans (hHeld.2.2.2)
                          refine ⟨_, rfl, ?_⟩
                          have n0_ := Aside0.mk (Kd.S_below (by (with_reducible repeat (first | apply Kd.S_alloc | apply Kd.S_drewN | apply Kd.S_drew)); exact HO_6.out) hb)
                          have n1_ := Aside0.mk (Kd.S_below (by (with_reducible repeat (first | apply Kd.S_alloc | apply Kd.S_drewN | apply Kd.S_drew)); exact HO_7.out) hb)
                          have n2_ := Aside0.mk (Kd.R_below (by (with_reducible repeat (first | apply Kd.R_alloc | apply Kd.R_drewN | apply Kd.R_drew)); exact HL172_0.out) hb)
                          have n3_ := Aside0.mk (blk_below (g := gb165) (o := .cells #[.int .i64 t161, .int .i64 t162, .int .i64 t163] 24 (0, 0)) (by (with_reducible repeat (first | refine blk_drewN ?_ _ | refine blk_drew ?_ | refine blk_alloc ?_ _)); exact BK165.out) hb)
                          have n4_ := Aside0.mk (Kd.C_below (by repeat (first | (with_reducible exact HR172_0.out) | (with_reducible refine Kd.C_alloc ?_ _) | (with_reducible refine Kd.C_drewN ?_ _) | (with_reducible refine Kd.C_drew ?_) | exact HR172_0.out)) hb)
                          have n5_ := Aside0.mk (below_step (by repeat (first | (with_reducible first | exact HB.out | apply below_alloc | apply pw_below_drewN | apply below_drew1 | refine below_set ?_ GE165.out) | exact HB.out)) hb)
                          clear HO_6
                          clear HO_7
                          clear HL172_0
                          clear BK165
                          clear HR172_0
                          clear HB
                          have HO_6 := n0_
                          have HO_7 := n1_
                          have HL172_0 := n2_
                          have BK165 := n3_
                          have HR172_0 := n4_
                          have HB := n5_
                          clear n0_ n1_ n2_ n3_ n4_ n5_
                          (try clear hb)
                          (try clear hb2)
                          (try clear hk)
                          (try clear hi)
                          refine hK.out _ _ ⟨(blk_cell BK165.out 0).trans rfl, (blk_cell BK165.out 1).trans rfl, (blk_cell BK165.out 2).trans rfl, HS3_⟩ (fun hHeld => ?_)
                          clear hK K
                          refine norm_ (a' := ?_) ?_ ?_
                          rotate_left
                          · show Act.put _ (some 58) _ = _
                            simp only [Act.put, List.setIfInBounds_toArray, List.set_cons_zero, List.set_cons_succ, i64_w, i32_w]
                            rfl
                          refine pure_ (i := 7) (N := some 59) (v := ?_) (a' := ?_) #[true, true, true, true, true, true, true, true] rfl rfl (any_of HT_.out (by kernel_rfl)) (fun _ _ _ h => h) (Or.inl ⟨by rfl, ?_⟩) ?_ ?_
                          rotate_left
                          · intro w'
                            go_simp
                            with_reducible rfl
                          rotate_left
                          · simp only [Act.put, List.setIfInBounds_toArray, List.set_cons_zero, List.set_cons_succ, i64_w, i32_w]
                            rfl
                          refine done_ (done_of HT_.out (by kernel_rfl)) ?_
                          try go_wp2
                          go_loopg [9] k3 (fun kq v9 w' => ∃ (x9_4 : Int), v9 = .int .i64 x9_4 ∧ Aside0 (fountainlaw7_PrecodeOnes.l1 kq a0 t166 t169 x8_3 x9_4 t161 t162 t163 = some r) ∧ Aside0 (kq ≤ k3) ∧ Aside0 (Kd.S (Kd.slice 5 (Kd.int .u8)) 31 w' w.heap.size (fun k_ => some k_ ≠ (v170 : Value).ownBlock) (.slice (some ad172) t166.length co32) t166) ∧ Aside0 (Kd.S (Kd.slice 5 (Kd.int .u8)) 31 w' w.heap.size (fun k_ => some k_ ≠ ((.slice (some ad172) t166.length co32) : Value).ownBlock) v170 t169) ∧ Aside0 (w'.heap[gb165]? = some (.cells #[.int .i64 t161, .int .i64 t162, .int .i64 t163] 24 (0, 0))) ∧ Aside0 (Kd.C (Kd.int .u8) w' A172_0 (rd_L1 t166 x8_3).length (rd_L1 t166 x8_3)) ∧ Aside0 (Below w.heap.size w w'))
                          case atStart => exact ⟨(0), (by first | rfl | (simp; done) | (simp [*]; done)), H', ⟨Nat.le_refl _⟩, ⟨by (with_reducible repeat (first | apply Kd.S_alloc | apply Kd.S_drewN | apply Kd.S_drew)); exact HO_6.out⟩, ⟨by (with_reducible repeat (first | apply Kd.S_alloc | apply Kd.S_drewN | apply Kd.S_drew)); exact HO_7.out⟩, ⟨by (with_reducible repeat (first | refine blk_drewN ?_ _ | refine blk_drew ?_ | refine blk_alloc ?_ _)); exact BK165.out⟩, ⟨by repeat (first | (with_reducible exact HR172_0.out) | (with_reducible refine Kd.C_alloc ?_ _) | (with_reducible refine Kd.C_drewN ?_ _) | (with_reducible refine Kd.C_drew ?_) | exact HR172_0.out)⟩, ⟨by repeat (first | (with_reducible first | exact HB.out | apply below_alloc | apply pw_below_drewN | apply below_drew1 | refine below_set ?_ GE165.out) | exact HB.out)⟩⟩
                          case round =>
                            clear H'
                            try clear c1
                            try clear p1
                            try clear q1
                            try clear hx1
                            try clear c2
                            try clear p2
                            try clear c3
                            try clear c5
                            try clear c6
                            try clear c6b0
                            try clear c7
                            try clear c17
                            try clear p17
                            try clear q17
                            try clear hx17
                            try clear c18
                            try clear c18b0
                            try clear c18b1
                            try clear c19
                            try clear c20
                            try clear c21
                            try clear c22
                            try clear c24
                            try clear c25
                            try clear c25b0
                            try clear c26
                            try clear c26b0
                            try clear c27
                            try clear c27b0
                            try clear c29
                            try clear c29b0
                            try clear c29b1
                            try clear hcz14_0
                            try clear hcz14_1
                            try clear hcz14_2
                            try clear hcz16_0
                            try clear hcz16_1
                            try clear hcz16_2
                            try clear hcz20_0
                            try clear hcz20_1
                            try clear hcz20_2
                            try clear hcz23_0
                            try clear hcz23_1
                            try clear hcz23_2
                            try clear hcz30_0
                            try clear hcz30_1
                            try clear hcz30_2
                            try clear hfz14_0
                            try clear hfz14_1
                            try clear hfz14_2
                            try clear hfz16_0
                            try clear hfz16_1
                            try clear hfz16_2
                            try clear hfz20_0
                            try clear hfz20_1
                            try clear hfz20_2
                            try clear hfz23_0
                            try clear hfz23_1
                            try clear hfz23_2
                            try clear hfz30_0
                            try clear hfz30_1
                            try clear hfz30_2
                            try clear hx172_0
                            try clear p172
                            try clear p2
                            try clear q172
                            obtain ⟨x9_4, rfl, HA, HK4, HO_6, HO_7, BK165, HR172_0, HB⟩ := hrel
                            cases gk with
                            | zero => exact absurd HA.out (by simp [fountainlaw7_PrecodeOnes.l1])
                            | succ k4 =>
                              have H := HA.out
                              clear HA
                              simp only [fountainlaw7_PrecodeOnes.l1] at H
                              by_cases c34 : x9_4 < t162
                              · rw [if_pos c34] at H
                                have c34b0 : decide (x9_4 < t162) = true := decide_eq_true c34
                                clear c34
                                by_cases c35 : 0 ≤ x8_3
                                · rw [if_pos c35] at H
                                  have c35b0 : decide (0 ≤ x8_3) = true := decide_eq_true c35
                                  clear c35
                                  by_cases c36 : x8_3 < (t166.length : Int)
                                  · rw [if_pos c36] at H
                                    have c36b0 : decide (x8_3 < (t166.length : Int)) = true := decide_eq_true c36
                                    clear c36
                                    obtain ⟨ji37, hji37⟩ : ∃ j_ : Int, (wrap64 (a0 + x9_4)) = j_ := ⟨_, rfl⟩
                                    replace H : (if 0 ≤ (ji37) then (if (ji37) < ((rd_L1 t166 x8_3).length : Int) then (if (((rd (rd_L1 t166 x8_3) (ji37)) == 1) != (x8_3 == x9_4)) = true then (some false) else (if (rd (rd_L1 t166 x8_3) (ji37)) > 1 then (some false) else (fountainlaw7_PrecodeOnes.l1 k4 a0 t166 t169 x8_3 (wrap64 (x9_4 + 1)) t161 t162 t163))) else (none)) else (none)) = some r := by first | (rw [hji37] at H; exact H) | (simp only [hji37] at H ⊢; exact H)
                                    have hji37w : (IntKind.i64.wrap (a0 + x9_4)) = ji37 := (i64_w _).trans hji37
                                    by_cases c38 : 0 ≤ (ji37)
                                    · rw [if_pos c38] at H
                                      have c38b0 : decide (0 ≤ (ji37)) = true := decide_eq_true c38
                                      clear c38
                                      by_cases c39 : (ji37) < ((rd_L1 t166 x8_3).length : Int)
                                      · rw [if_pos c39] at H
                                        have c39b0 : decide ((ji37) < ((rd_L1 t166 x8_3).length : Int)) = true := decide_eq_true c39
                                        clear c39
                                        by_cases c40 : (((rd (rd_L1 t166 x8_3) (ji37)) == 1) != (x8_3 == x9_4)) = true
                                        · rw [if_pos c40] at H
                                          have c40b0 : (((rd (rd_L1 t166 x8_3) (ji37)) == 1) != (x8_3 == x9_4)) = true := c40
                                          (try (have c40b1 : decide (((rd (rd_L1 t166 x8_3) (ji37)) == 1) = (x8_3 == x9_4)) = false := by simpa using c40))
                                          (try (have c40b2 : (((rd (rd_L1 t166 x8_3) (ji37)) == 1) == (x8_3 == x9_4)) = false := by simpa using c40))
                                          (try (have c40b3 : ¬ (((rd (rd_L1 t166 x8_3) (ji37)) == 1) = (x8_3 == x9_4)) := by simpa using c40))
                                          clear c40
                                          exact absurd ((Option.some.inj H).trans HRT.out) (by decide)
                                        · rw [if_neg c40] at H
                                          have c40b0 : (((rd (rd_L1 t166 x8_3) (ji37)) == 1) != (x8_3 == x9_4)) = false := by simpa using c40
                                          (try (have c40b1 : decide (((rd (rd_L1 t166 x8_3) (ji37)) == 1) = (x8_3 == x9_4)) = true := by simpa using c40))
                                          (try (have c40b2 : (((rd (rd_L1 t166 x8_3) (ji37)) == 1) == (x8_3 == x9_4)) = true := by simpa using c40))
                                          clear c40
                                          by_cases c41 : (rd (rd_L1 t166 x8_3) (ji37)) > 1
                                          · rw [if_pos c41] at H
                                            have c41b0 : decide (1 < (rd (rd_L1 t166 x8_3) (ji37))) = true := decide_eq_true c41
                                            clear c41
                                            exact absurd ((Option.some.inj H).trans HRT.out) (by decide)
                                          · rw [if_neg c41] at H
                                            have c41b0 : decide (1 < (rd (rd_L1 t166 x8_3) (ji37))) = false := decide_eq_false c41
                                            clear c41
                                            have H' := Aside0.mk H
                                            clear H
                                            have hcz42_0 : wr.cell? ⟨gb165, 0, none⟩ = some (.int .i64 t161) := (blk_cell BK165.out 0).trans rfl
                                            have hcz42_1 : wr.cell? ⟨gb165, 1, none⟩ = some (.int .i64 t162) := (blk_cell BK165.out 1).trans rfl
                                            have hcz42_2 : wr.cell? ⟨gb165, 2, none⟩ = some (.int .i64 t163) := (blk_cell BK165.out 2).trans rfl
                                            have hfz42_0 := blk_frozen BK165.out 0
                                            have hfz42_1 := blk_frozen BK165.out 1
                                            have hfz42_2 := blk_frozen BK165.out 2
                                            have p174 : 0 ≤ (x8_3 : Int) := of_decide_eq_true (by first | (with_reducible assumption) | assumption)
                                            have q174 : x8_3 < (t166.length : Int) := of_decide_eq_true (by first | (with_reducible assumption) | assumption)
                                            obtain ⟨ad174, A174_0, c174_0, e174, hx174_0, hl174_0, hi174_0⟩ := at_L1 (Kd.S_reads' HO_6.out).2.2 x8_3 p174 q174
                                            obtain rfl : ad172 = ad174 := (by injection e174)
                                            obtain ⟨ce174, hce174, hMe174, hcc174⟩ := Kd.S_get HO_6.out [] x8_3 p174 (by first | exact q174 | exact of_decide_eq_true (by first | (with_reducible assumption) | assumption) | (have e_ := (Kd.S_reads' HO_6.out).1; omega))
                                            obtain ⟨ve174_0, rfl, ge174_0⟩ := hMe174
                                            have hv174_0 := hcc174 0 _ rfl
                                            rw [Nat.add_zero, show ((Kd.slice 5 (Kd.int .u8))).sz = 1 from rfl, Nat.mul_one] at hv174_0
                                            replace hv174_0 := Option.some.inj (hv174_0.symm.trans hx174_0)
                                            rw [hv174_0] at ge174_0
                                            have HL174_0 := Aside0.mk (show Kd.R (Kd.int .u8) 5 _ _ _ _ (rd_L1 t166 x8_3) from ge174_0)
                                            clear hv174_0 ge174_0
                                            clear hcc174 hce174
                                            have HR174_0 := Aside0.mk hi174_0
                                            have HC174_0 := Aside0.mk hl174_0
                                            clear hi174_0 hl174_0
                                            replace p174 := eq_true p174
                                            replace q174 := eq_true q174
                                            have p175 : 0 ≤ ((ji37) : Int) := of_decide_eq_true (by first | (with_reducible assumption) | assumption)
                                            have q175 : (ji37) < ((rd_L1 t166 x8_3).length : Int) := of_decide_eq_true (by first | (with_reducible assumption) | assumption)
                                            obtain ⟨ad175, e175, hx175_0⟩ := Kd.at_int (by repeat (first | (with_reducible exact HR174_0.out) | (with_reducible refine Kd.C_alloc ?_ _) | (with_reducible refine Kd.C_drewN ?_ _) | (with_reducible refine Kd.C_drew ?_) | exact HR174_0.out)) (ji37) p175 q175
                                            cases e175
                                            replace p175 := eq_true p175
                                            replace q175 := eq_true q175
                                            have p176 : 0 ≤ (x8_3 : Int) := of_decide_eq_true (by first | (with_reducible assumption) | assumption)
                                            have q176 : x8_3 < (t166.length : Int) := of_decide_eq_true (by first | (with_reducible assumption) | assumption)
                                            obtain ⟨ad176, A176_0, c176_0, e176, hx176_0, hl176_0, hi176_0⟩ := at_L1 (Kd.S_reads' HO_6.out).2.2 x8_3 p176 q176
                                            obtain rfl : ad172 = ad176 := (by injection e176)
                                            obtain ⟨ce176, hce176, hMe176, hcc176⟩ := Kd.S_get HO_6.out [] x8_3 p176 (by first | exact q176 | exact of_decide_eq_true (by first | (with_reducible assumption) | assumption) | (have e_ := (Kd.S_reads' HO_6.out).1; omega))
                                            obtain ⟨ve176_0, rfl, ge176_0⟩ := hMe176
                                            have hv176_0 := hcc176 0 _ rfl
                                            rw [Nat.add_zero, show ((Kd.slice 5 (Kd.int .u8))).sz = 1 from rfl, Nat.mul_one] at hv176_0
                                            replace hv176_0 := Option.some.inj (hv176_0.symm.trans hx176_0)
                                            rw [hv176_0] at ge176_0
                                            have HL176_0 := Aside0.mk (show Kd.R (Kd.int .u8) 5 _ _ _ _ (rd_L1 t166 x8_3) from ge176_0)
                                            clear hv176_0 ge176_0
                                            clear hcc176 hce176
                                            have HR176_0 := Aside0.mk hi176_0
                                            have HC176_0 := Aside0.mk hl176_0
                                            clear hi176_0 hl176_0
                                            replace p176 := eq_true p176
                                            replace q176 := eq_true q176
                                            have ea_ := Option.some.inj (hx174_0.symm.trans hx176_0)
                                            injection ea_ with ea_ en_ ec_
                                            subst ea_
                                            subst ec_
                                            clear en_
                                            have p177 : 0 ≤ ((ji37) : Int) := of_decide_eq_true (by first | (with_reducible assumption) | assumption)
                                            have q177 : (ji37) < ((rd_L1 t166 x8_3).length : Int) := of_decide_eq_true (by first | (with_reducible assumption) | assumption)
                                            obtain ⟨ad177, e177, hx177_0⟩ := Kd.at_int (by repeat (first | (with_reducible exact HR176_0.out) | (with_reducible refine Kd.C_alloc ?_ _) | (with_reducible refine Kd.C_drewN ?_ _) | (with_reducible refine Kd.C_drew ?_) | exact HR176_0.out)) (ji37) p177 q177
                                            cases e177
                                            replace p177 := eq_true p177
                                            replace q177 := eq_true q177
                                            go_wp2
                                            go_roundg k4
                                            case measure => have := HJ2.out; have := HJ10.out; have := HK3.out; have := HK4.out; omega
                                            case rel => exact ⟨(wrap64 (x9_4 + 1)), (by first | rfl | (simp; done) | (simp [*]; done)), H', ⟨by have := HJ2.out; have := HJ10.out; have := HK3.out; have := HK4.out; omega⟩, ⟨by (with_reducible repeat (first | apply Kd.S_alloc | apply Kd.S_drewN | apply Kd.S_drew)); exact HO_6.out⟩, ⟨by (with_reducible repeat (first | apply Kd.S_alloc | apply Kd.S_drewN | apply Kd.S_drew)); exact HO_7.out⟩, ⟨by (with_reducible repeat (first | refine blk_drewN ?_ _ | refine blk_drew ?_ | refine blk_alloc ?_ _)); exact BK165.out⟩, ⟨by repeat (first | (with_reducible exact HR172_0.out) | (with_reducible refine Kd.C_alloc ?_ _) | (with_reducible refine Kd.C_drewN ?_ _) | (with_reducible refine Kd.C_drew ?_) | exact HR172_0.out)⟩, ⟨by repeat (first | (with_reducible first | exact HB.out | apply below_alloc | apply pw_below_drewN | apply below_drew1 | refine below_set ?_ GE165.out) | exact HB.out)⟩⟩
                                      · rw [if_neg c39] at H
                                        exact absurd H (by simp)
                                    · rw [if_neg c38] at H
                                      exact absurd H (by simp)
                                  · rw [if_neg c36] at H
                                    exact absurd H (by simp)
                                · rw [if_neg c35] at H
                                  exact absurd H (by simp)
                              · rw [if_neg c34] at H
                                have c34b0 : decide (x9_4 < t162) = false := decide_eq_false c34
                                clear c34
                                have H' := Aside0.mk H
                                clear H
                                have hcz43_0 : wr.cell? ⟨gb165, 0, none⟩ = some (.int .i64 t161) := (blk_cell BK165.out 0).trans rfl
                                have hcz43_1 : wr.cell? ⟨gb165, 1, none⟩ = some (.int .i64 t162) := (blk_cell BK165.out 1).trans rfl
                                have hcz43_2 : wr.cell? ⟨gb165, 2, none⟩ = some (.int .i64 t163) := (blk_cell BK165.out 2).trans rfl
                                have hfz43_0 := blk_frozen BK165.out 0
                                have hfz43_1 := blk_frozen BK165.out 1
                                have hfz43_2 := blk_frozen BK165.out 2
                                go_wp2
                                go_roundg k4
                                case measure => have := HJ2.out; have := HJ10.out; have := HK3.out; have := HK4.out; omega
                                case rel => exact ⟨(wrap64 (x8_3 + 1)), (by first | rfl | (simp; done) | (simp [*]; done)), H', ⟨by have := HJ2.out; have := HJ10.out; have := HK3.out; have := HK4.out; omega⟩, ⟨by (with_reducible repeat (first | apply Kd.S_alloc | apply Kd.S_drewN | apply Kd.S_drew)); exact HO_6.out⟩, ⟨by (with_reducible repeat (first | apply Kd.S_alloc | apply Kd.S_drewN | apply Kd.S_drew)); exact HO_7.out⟩, ⟨by (with_reducible repeat (first | refine blk_drewN ?_ _ | refine blk_drew ?_ | refine blk_alloc ?_ _)); exact BK165.out⟩, ⟨by repeat (first | (with_reducible first | exact HB.out | apply below_alloc | apply pw_below_drewN | apply below_drew1 | refine below_set ?_ GE165.out) | exact HB.out)⟩⟩
                        · rw [if_neg c29] at H
                          have c29b0 : (((rd_L1 t166 x8_3).length : Int) == t173) = false := beq_eq_false_iff_ne.mpr c29
                          have c29b1 : (((rd_L1 t166 x8_3).length : Int) != t173) = true := bne_iff_ne.mpr c29
                          exact absurd ((Option.some.inj H).trans HRT.out) (by decide)
                      · rw [if_neg c27] at H
                        exact absurd H (by simp)
                    · rw [if_neg c26] at H
                      exact absurd H (by simp)
                  · rw [if_neg c25] at H
                    have c25b0 : decide (x8_3 < t162) = false := decide_eq_false c25
                    clear c25
                    have H' := Aside0.mk H
                    clear H
                    have hcz44_0 : wr.cell? ⟨gb165, 0, none⟩ = some (.int .i64 t161) := (blk_cell BK165.out 0).trans rfl
                    have hcz44_1 : wr.cell? ⟨gb165, 1, none⟩ = some (.int .i64 t162) := (blk_cell BK165.out 1).trans rfl
                    have hcz44_2 : wr.cell? ⟨gb165, 2, none⟩ = some (.int .i64 t163) := (blk_cell BK165.out 2).trans rfl
                    have hfz44_0 := blk_frozen BK165.out 0
                    have hfz44_1 := blk_frozen BK165.out 1
                    have hfz44_2 := blk_frozen BK165.out 2
                    go_wp2
                    go_loopg [10] k3 (fun kq v10 w' => ∃ (x10_4 : Int), v10 = .int .i64 x10_4 ∧ Aside0 (fountainlaw7_PrecodeOnes.l2 kq t169 x10_4 t161 t162 t163 = some r) ∧ Aside0 (kq ≤ k3) ∧ Aside0 (Kd.S (Kd.slice 5 (Kd.int .u8)) 31 w' w.heap.size (fun _ => True) v170 t169) ∧ Aside0 (w'.heap[gb165]? = some (.cells #[.int .i64 t161, .int .i64 t162, .int .i64 t163] 24 (0, 0))) ∧ Aside0 (Below w.heap.size w w'))
                    case atStart => exact ⟨(0), (by first | rfl | (simp; done) | (simp [*]; done)), H', ⟨Nat.le_refl _⟩, ⟨by (with_reducible repeat (first | apply Kd.S_alloc | apply Kd.S_drewN | apply Kd.S_drew)); exact Kd.S_mono HO_7.out (fun _ hk => trivial)⟩, ⟨by (with_reducible repeat (first | refine blk_drewN ?_ _ | refine blk_drew ?_ | refine blk_alloc ?_ _)); exact BK165.out⟩, ⟨by repeat (first | (with_reducible first | exact HB.out | apply below_alloc | apply pw_below_drewN | apply below_drew1 | refine below_set ?_ GE165.out) | exact HB.out)⟩⟩
                    case round =>
                      clear H'
                      try clear c1
                      try clear p1
                      try clear q1
                      try clear hx1
                      try clear c2
                      try clear p2
                      try clear c3
                      try clear c4
                      try clear c5
                      try clear c6
                      try clear c6b0
                      try clear p6
                      try clear c7
                      try clear c17
                      try clear p17
                      try clear q17
                      try clear hx17
                      try clear c18
                      try clear c18b0
                      try clear c18b1
                      try clear c19
                      try clear c20
                      try clear c21
                      try clear c22
                      try clear c24
                      try clear c25
                      try clear c25b0
                      try clear c26
                      try clear c26b0
                      try clear c27
                      try clear c27b0
                      try clear c29
                      try clear c29b0
                      try clear c29b1
                      try clear c34
                      try clear c34b0
                      try clear c35
                      try clear c35b0
                      try clear c36
                      try clear c36b0
                      try clear c38
                      try clear c38b0
                      try clear c39
                      try clear c39b0
                      try clear c40
                      try clear c40b0
                      try clear c40b1
                      try clear c40b2
                      try clear c41
                      try clear c41b0
                      try clear hcz14_0
                      try clear hcz14_1
                      try clear hcz14_2
                      try clear hcz16_0
                      try clear hcz16_1
                      try clear hcz16_2
                      try clear hcz20_0
                      try clear hcz20_1
                      try clear hcz20_2
                      try clear hcz23_0
                      try clear hcz23_1
                      try clear hcz23_2
                      try clear hcz30_0
                      try clear hcz30_1
                      try clear hcz30_2
                      try clear hcz42_0
                      try clear hcz42_1
                      try clear hcz42_2
                      try clear hcz43_0
                      try clear hcz43_1
                      try clear hcz43_2
                      try clear hcz44_0
                      try clear hcz44_1
                      try clear hcz44_2
                      try clear hfz14_0
                      try clear hfz14_1
                      try clear hfz14_2
                      try clear hfz16_0
                      try clear hfz16_1
                      try clear hfz16_2
                      try clear hfz20_0
                      try clear hfz20_1
                      try clear hfz20_2
                      try clear hfz23_0
                      try clear hfz23_1
                      try clear hfz23_2
                      try clear hfz30_0
                      try clear hfz30_1
                      try clear hfz30_2
                      try clear hfz42_0
                      try clear hfz42_1
                      try clear hfz42_2
                      try clear hfz43_0
                      try clear hfz43_1
                      try clear hfz43_2
                      try clear hfz44_0
                      try clear hfz44_1
                      try clear hfz44_2
                      try clear hx172_0
                      try clear hx174_0
                      try clear hx175_0
                      try clear hx176_0
                      try clear hx177_0
                      try clear p1
                      try clear p17
                      try clear p172
                      try clear p174
                      try clear p175
                      try clear p176
                      try clear p177
                      try clear p2
                      try clear q1
                      try clear q17
                      try clear q172
                      try clear q174
                      try clear q175
                      try clear q176
                      try clear q177
                      obtain ⟨x10_4, rfl, HA, HK4, HO_7, BK165, HB⟩ := hrel
                      cases gk with
                      | zero => exact absurd HA.out (by simp [fountainlaw7_PrecodeOnes.l2])
                      | succ k4 =>
                        have H := HA.out
                        clear HA
                        simp only [fountainlaw7_PrecodeOnes.l2] at H
                        by_cases c45 : x10_4 < t163
                        · rw [if_pos c45] at H
                          have c45b0 : decide (x10_4 < t163) = true := decide_eq_true c45
                          clear c45
                          by_cases c46 : 0 ≤ x10_4
                          · rw [if_pos c46] at H
                            have c46b0 : decide (0 ≤ x10_4) = true := decide_eq_true c46
                            clear c46
                            by_cases c47 : x10_4 < (t169.length : Int)
                            · rw [if_pos c47] at H
                              have c47b0 : decide (x10_4 < (t169.length : Int)) = true := decide_eq_true c47
                              clear c47
                              replace H := Option.bind_eq_some_iff.mp H
                              obtain ⟨t179, A480, H⟩ := H
                              replace H : (if ((rd_L1 t169 x10_4).length : Int) = t179 then (fountainlaw7_PrecodeOnes.l3 k4 t169 x10_4 0 t161 t162 t163) else (some false)) = some r := H
                              have A48 := Aside0.mk A480
                              clear A480
                              by_cases c49 : ((rd_L1 t169 x10_4).length : Int) = t179
                              · rw [if_pos c49] at H
                                have c49b0 : (((rd_L1 t169 x10_4).length : Int) == t179) = true := beq_iff_eq.mpr c49
                                have c49b1 : (((rd_L1 t169 x10_4).length : Int) != t179) = false := bne_eq_false_iff_eq.mpr c49
                                clear c49
                                have H' := Aside0.mk H
                                clear H
                                have hcz50_0 : wr.cell? ⟨gb165, 0, none⟩ = some (.int .i64 t161) := (blk_cell BK165.out 0).trans rfl
                                have hcz50_1 : wr.cell? ⟨gb165, 1, none⟩ = some (.int .i64 t162) := (blk_cell BK165.out 1).trans rfl
                                have hcz50_2 : wr.cell? ⟨gb165, 2, none⟩ = some (.int .i64 t163) := (blk_cell BK165.out 2).trans rfl
                                have hfz50_0 := blk_frozen BK165.out 0
                                have hfz50_1 := blk_frozen BK165.out 1
                                have hfz50_2 := blk_frozen BK165.out 2
                                try go_wp2
                                have n0_ := Aside0.mk (Kd.S_drew HO_7.out)
                                have n1_ := Aside0.mk (blk_drew BK165.out)
                                have n2_ := Aside0.mk (below_drew1 HB.out)
                                clear HO_7
                                clear BK165
                                clear HB
                                have HO_7 := n0_
                                have BK165 := n1_
                                have HB := n2_
                                clear n0_ n1_ n2_
                                obtain ⟨Ao52, co52, eo52⟩ := Kd.S_slice HO_7.out
                                (first | subst eo52 | (injection eo52 with f1_ f2_ f3_; have f4_ := f1_.symm; have f5_ := f3_.symm; clear f1_ f2_ f3_; subst f4_; subst f5_))
                                have p178 : 0 ≤ (x10_4 : Int) := of_decide_eq_true (by first | (with_reducible assumption) | assumption)
                                have q178 : x10_4 < (t169.length : Int) := of_decide_eq_true (by first | (with_reducible assumption) | assumption)
                                obtain ⟨ad178, A178_0, c178_0, e178, hx178_0, hl178_0, hi178_0⟩ := at_L1 (Kd.S_reads' HO_7.out).2.2 x10_4 p178 q178
                                cases e178
                                obtain ⟨ce178, hce178, hMe178, hcc178⟩ := Kd.S_get HO_7.out [] x10_4 p178 (by first | exact q178 | exact of_decide_eq_true (by first | (with_reducible assumption) | assumption) | (have e_ := (Kd.S_reads' HO_7.out).1; omega))
                                obtain ⟨ve178_0, rfl, ge178_0⟩ := hMe178
                                have hv178_0 := hcc178 0 _ rfl
                                rw [Nat.add_zero, show ((Kd.slice 5 (Kd.int .u8))).sz = 1 from rfl, Nat.mul_one] at hv178_0
                                replace hv178_0 := Option.some.inj (hv178_0.symm.trans hx178_0)
                                rw [hv178_0] at ge178_0
                                have HL178_0 := Aside0.mk (show Kd.R (Kd.int .u8) 5 _ _ _ _ (rd_L1 t169 x10_4) from ge178_0)
                                clear hv178_0 ge178_0
                                clear hcc178 hce178
                                have HR178_0 := Aside0.mk hi178_0
                                have HC178_0 := Aside0.mk hl178_0
                                clear hi178_0 hl178_0
                                replace p178 := eq_true p178
                                replace q178 := eq_true q178
                                refine start_ (n := 8) (S := fun w' => w'.cell? ⟨gb165, 0, none⟩ = some (.int .i64 t161) ∧ w'.cell? ⟨gb165, 1, none⟩ = some (.int .i64 t162) ∧ w'.cell? ⟨gb165, 2, none⟩ = some (.int .i64 t163) ∧ w'.cell? (ad178.add (x10_4).toNat) = some (.slice A178_0 (rd_L1 t169 x10_4).length c178_0)) (ds := []) #[false, false, false, false, false, false, false, false] (by kernel_rfl) rfl rfl ⟨(blk_cell BK165.out 0).trans rfl, (blk_cell BK165.out 1).trans rfl, (blk_cell BK165.out 2).trans rfl, hx178_0⟩ (fun hHeld => ?_); refine with_tabW fountainlaw7_PrecodeOnes.tab22 fountainlaw7_PrecodeOnes.bits22 (fun HT_ HW_ => ?_)
                                generalize wr.drew = w51 at HO_7 BK165 HB HL178_0 HR178_0 hx178_0 hHeld ⊢
                                refine pure_ (i := 0) (N := some 98) (v := ?_) (a' := ?_) #[true, false, false, false, false, false, false, false] rfl rfl (any_of HT_.out (by kernel_rfl)) (fun _ _ _ h => h) (Or.inl ⟨by rfl, ?_⟩) ?_ ?_
                                rotate_left
                                · intro w'
                                  go_simp
                                  with_reducible rfl
                                rotate_left
                                · simp only [Act.put, List.setIfInBounds_toArray, List.set_cons_zero, List.set_cons_succ, i64_w, i32_w]
                                  rfl
                                refine pure_ (i := 1) (N := some 99) (v := ?_) (a' := ?_) #[true, true, false, false, false, false, false, false] rfl rfl (any_of HT_.out (by kernel_rfl)) (fun _ _ _ h => h) (Or.inl ⟨by rfl, ?_⟩) ?_ ?_
                                rotate_left
                                · intro w'
                                  go_simp
                                  with_reducible rfl
                                rotate_left
                                · simp only [Act.put, List.setIfInBounds_toArray, List.set_cons_zero, List.set_cons_succ, i64_w, i32_w]
                                  rfl
                                refine pure_ (i := 2) (N := some 100) (v := ?_) (a' := ?_) #[true, true, true, false, false, false, false, false] rfl rfl (any_of HT_.out (by kernel_rfl)) (fun _ _ _ h => h) (Or.inl ⟨by rfl, ?_⟩) ?_ ?_
                                rotate_left
                                · intro w'
                                  go_simp
                                  with_reducible rfl
                                rotate_left
                                · simp only [Act.put, List.setIfInBounds_toArray, List.set_cons_zero, List.set_cons_succ, i64_w, i32_w]
                                  rfl
                                refine take_ (i := 3) (N := some 101) (v := ?_) (a' := ?_) #[true, true, true, true, false, false, false, false] rfl rfl (take_ofW HT_.out HW_.out (by kernel_rfl)) (fun _ _ _ h => h) (Or.inl ⟨by rfl, ?_⟩) hHeld ?_ ?_
                                rotate_left
                                · rintro w' ⟨s0, s1, s2, s3⟩
                                  go_simp
                                  with_reducible rfl
                                rotate_left
                                · simp only [Act.put, List.setIfInBounds_toArray, List.set_cons_zero, List.set_cons_succ, i64_w, i32_w]
                                  rfl
                                refine pure_ (i := 4) (N := some 102) (v := ?_) (a' := ?_) #[true, true, true, true, true, false, false, false] rfl rfl (any_of HT_.out (by kernel_rfl)) (fun _ _ _ h => h) (Or.inl ⟨by rfl, ?_⟩) ?_ ?_
                                rotate_left
                                · intro w'
                                  go_simp
                                  with_reducible rfl
                                rotate_left
                                · simp only [Act.put, List.setIfInBounds_toArray, List.set_cons_zero, List.set_cons_succ, i64_w, i32_w]
                                  rfl
                                refine take_ (i := 5) (N := some 103) (v := ?_) (a' := ?_) #[true, true, true, true, true, true, false, false] rfl rfl (take_ofW HT_.out HW_.out (by kernel_rfl)) (fun _ _ _ h => h) (Or.inl ⟨by rfl, ?_⟩) hHeld ?_ ?_
                                rotate_left
                                · rintro w' ⟨s0, s1, s2, s3⟩
                                  go_simp
                                  with_reducible rfl
                                rotate_left
                                · simp only [Act.put, List.setIfInBounds_toArray, List.set_cons_zero, List.set_cons_succ, i64_w, i32_w]
                                  rfl
                                refine one_ (i := 6) (N := some 104) #[true, true, true, true, true, true, true, false] rfl rfl (one_of HT_.out (by kernel_rfl)) (by decide) (fun K hK => ?_)
                                refine goes_ Try.func22 (by kernel_rfl) rfl #[.agg #[.int .i64 t161, .int .i64 t162, .int .i64 t163]] (by rfl) rfl rfl (by (try simp only [List.map_toArray, List.map_cons, List.map_nil]); first | done | rfl | (simp only [List.length_drop, List.length_take]; rfl)) ?_
                                with_reducible refine (params_Params_L.calls t161 t162 t163 t179 _ A48.out).mono ?_
                                rintro e w53 ⟨rfl, hb⟩
                                have HS3_ := (hb.cell (World.block_lt_of_cell? _ _ (hHeld.2.2.2))).trans (hHeld.2.2.2)
                                refine ⟨_, rfl, ?_⟩
                                have n0_ := Aside0.mk (Kd.S_below (by (with_reducible repeat (first | apply Kd.S_alloc | apply Kd.S_drewN | apply Kd.S_drew)); exact HO_7.out) hb)
                                have n1_ := Aside0.mk (Kd.R_below (by (with_reducible repeat (first | apply Kd.R_alloc | apply Kd.R_drewN | apply Kd.R_drew)); exact HL178_0.out) hb)
                                have n2_ := Aside0.mk (blk_below (g := gb165) (o := .cells #[.int .i64 t161, .int .i64 t162, .int .i64 t163] 24 (0, 0)) (by (with_reducible repeat (first | refine blk_drewN ?_ _ | refine blk_drew ?_ | refine blk_alloc ?_ _)); exact BK165.out) hb)
                                have n3_ := Aside0.mk (Kd.C_below (by repeat (first | (with_reducible exact HR178_0.out) | (with_reducible refine Kd.C_alloc ?_ _) | (with_reducible refine Kd.C_drewN ?_ _) | (with_reducible refine Kd.C_drew ?_) | exact HR178_0.out)) hb)
                                have n4_ := Aside0.mk (below_step (by repeat (first | (with_reducible first | exact HB.out | apply below_alloc | apply pw_below_drewN | apply below_drew1 | refine below_set ?_ GE165.out) | exact HB.out)) hb)
                                clear HO_7
                                clear HL178_0
                                clear BK165
                                clear HR178_0
                                clear HB
                                have HO_7 := n0_
                                have HL178_0 := n1_
                                have BK165 := n2_
                                have HR178_0 := n3_
                                have HB := n4_
                                clear n0_ n1_ n2_ n3_ n4_
                                (try clear hb)
                                (try clear hb2)
                                (try clear hk)
                                (try clear hi)
                                refine hK.out _ _ ⟨(blk_cell BK165.out 0).trans rfl, (blk_cell BK165.out 1).trans rfl, (blk_cell BK165.out 2).trans rfl, HS3_⟩ (fun hHeld => ?_)
                                clear hK K
                                refine norm_ (a' := ?_) ?_ ?_
                                rotate_left
                                · show Act.put _ (some 104) _ = _
                                  simp only [Act.put, List.setIfInBounds_toArray, List.set_cons_zero, List.set_cons_succ, i64_w, i32_w]
                                  rfl
                                refine pure_ (i := 7) (N := some 105) (v := ?_) (a' := ?_) #[true, true, true, true, true, true, true, true] rfl rfl (any_of HT_.out (by kernel_rfl)) (fun _ _ _ h => h) (Or.inl ⟨by rfl, ?_⟩) ?_ ?_
                                rotate_left
                                · intro w'
                                  go_simp
                                  with_reducible rfl
                                rotate_left
                                · simp only [Act.put, List.setIfInBounds_toArray, List.set_cons_zero, List.set_cons_succ, i64_w, i32_w]
                                  rfl
                                refine done_ (done_of HT_.out (by kernel_rfl)) ?_
                                try go_wp2
                                go_loopg [11] k4 (fun kq v11 w' => ∃ (x11_5 : Int), v11 = .int .i64 x11_5 ∧ Aside0 (fountainlaw7_PrecodeOnes.l3 kq t169 x10_4 x11_5 t161 t162 t163 = some r) ∧ Aside0 (kq ≤ k4) ∧ Aside0 (Kd.S (Kd.slice 5 (Kd.int .u8)) 31 w' w.heap.size (fun _ => True) (.slice (some ad178) t169.length co52) t169) ∧ Aside0 (w'.heap[gb165]? = some (.cells #[.int .i64 t161, .int .i64 t162, .int .i64 t163] 24 (0, 0))) ∧ Aside0 (Kd.C (Kd.int .u8) w' A178_0 (rd_L1 t169 x10_4).length (rd_L1 t169 x10_4)) ∧ Aside0 (Below w.heap.size w w'))
                                case atStart => exact ⟨(0), (by first | rfl | (simp; done) | (simp [*]; done)), H', ⟨Nat.le_refl _⟩, ⟨by (with_reducible repeat (first | apply Kd.S_alloc | apply Kd.S_drewN | apply Kd.S_drew)); exact HO_7.out⟩, ⟨by (with_reducible repeat (first | refine blk_drewN ?_ _ | refine blk_drew ?_ | refine blk_alloc ?_ _)); exact BK165.out⟩, ⟨by repeat (first | (with_reducible exact HR178_0.out) | (with_reducible refine Kd.C_alloc ?_ _) | (with_reducible refine Kd.C_drewN ?_ _) | (with_reducible refine Kd.C_drew ?_) | exact HR178_0.out)⟩, ⟨by repeat (first | (with_reducible first | exact HB.out | apply below_alloc | apply pw_below_drewN | apply below_drew1 | refine below_set ?_ GE165.out) | exact HB.out)⟩⟩
                                case round =>
                                  clear H'
                                  try clear c1
                                  try clear p1
                                  try clear q1
                                  try clear hx1
                                  try clear c2
                                  try clear p2
                                  try clear c3
                                  try clear c4
                                  try clear c5
                                  try clear c6
                                  try clear c6b0
                                  try clear p6
                                  try clear c7
                                  try clear c17
                                  try clear p17
                                  try clear q17
                                  try clear hx17
                                  try clear c18
                                  try clear c18b0
                                  try clear c18b1
                                  try clear c19
                                  try clear c20
                                  try clear c21
                                  try clear c22
                                  try clear c24
                                  try clear c25
                                  try clear c25b0
                                  try clear c26
                                  try clear c26b0
                                  try clear c27
                                  try clear c27b0
                                  try clear c29
                                  try clear c29b0
                                  try clear c29b1
                                  try clear c34
                                  try clear c34b0
                                  try clear c35
                                  try clear c35b0
                                  try clear c36
                                  try clear c36b0
                                  try clear c38
                                  try clear c38b0
                                  try clear c39
                                  try clear c39b0
                                  try clear c40
                                  try clear c40b0
                                  try clear c40b1
                                  try clear c40b2
                                  try clear c41
                                  try clear c41b0
                                  try clear c45
                                  try clear c45b0
                                  try clear c46
                                  try clear c46b0
                                  try clear c47
                                  try clear c47b0
                                  try clear c49
                                  try clear c49b0
                                  try clear c49b1
                                  try clear hcz14_0
                                  try clear hcz14_1
                                  try clear hcz14_2
                                  try clear hcz16_0
                                  try clear hcz16_1
                                  try clear hcz16_2
                                  try clear hcz20_0
                                  try clear hcz20_1
                                  try clear hcz20_2
                                  try clear hcz23_0
                                  try clear hcz23_1
                                  try clear hcz23_2
                                  try clear hcz30_0
                                  try clear hcz30_1
                                  try clear hcz30_2
                                  try clear hcz42_0
                                  try clear hcz42_1
                                  try clear hcz42_2
                                  try clear hcz43_0
                                  try clear hcz43_1
                                  try clear hcz43_2
                                  try clear hcz44_0
                                  try clear hcz44_1
                                  try clear hcz44_2
                                  try clear hcz50_0
                                  try clear hcz50_1
                                  try clear hcz50_2
                                  try clear hfz14_0
                                  try clear hfz14_1
                                  try clear hfz14_2
                                  try clear hfz16_0
                                  try clear hfz16_1
                                  try clear hfz16_2
                                  try clear hfz20_0
                                  try clear hfz20_1
                                  try clear hfz20_2
                                  try clear hfz23_0
                                  try clear hfz23_1
                                  try clear hfz23_2
                                  try clear hfz30_0
                                  try clear hfz30_1
                                  try clear hfz30_2
                                  try clear hfz42_0
                                  try clear hfz42_1
                                  try clear hfz42_2
                                  try clear hfz43_0
                                  try clear hfz43_1
                                  try clear hfz43_2
                                  try clear hfz44_0
                                  try clear hfz44_1
                                  try clear hfz44_2
                                  try clear hfz50_0
                                  try clear hfz50_1
                                  try clear hfz50_2
                                  try clear hx172_0
                                  try clear hx174_0
                                  try clear hx175_0
                                  try clear hx176_0
                                  try clear hx177_0
                                  try clear hx178_0
                                  try clear p1
                                  try clear p17
                                  try clear p172
                                  try clear p174
                                  try clear p175
                                  try clear p176
                                  try clear p177
                                  try clear p178
                                  try clear p2
                                  try clear p6
                                  try clear q1
                                  try clear q17
                                  try clear q172
                                  try clear q174
                                  try clear q175
                                  try clear q176
                                  try clear q177
                                  try clear q178
                                  obtain ⟨x11_5, rfl, HA, HK5, HO_7, BK165, HR178_0, HB⟩ := hrel
                                  cases gk with
                                  | zero => exact absurd HA.out (by simp [fountainlaw7_PrecodeOnes.l3])
                                  | succ k5 =>
                                    have H := HA.out
                                    clear HA
                                    simp only [fountainlaw7_PrecodeOnes.l3] at H
                                    by_cases c54 : x11_5 < t163
                                    · rw [if_pos c54] at H
                                      have c54b0 : decide (x11_5 < t163) = true := decide_eq_true c54
                                      clear c54
                                      by_cases c55 : 0 ≤ x10_4
                                      · rw [if_pos c55] at H
                                        have c55b0 : decide (0 ≤ x10_4) = true := decide_eq_true c55
                                        clear c55
                                        by_cases c56 : x10_4 < (t169.length : Int)
                                        · rw [if_pos c56] at H
                                          have c56b0 : decide (x10_4 < (t169.length : Int)) = true := decide_eq_true c56
                                          clear c56
                                          replace H := Option.bind_eq_some_iff.mp H
                                          obtain ⟨t181, A570, H⟩ := H
                                          replace H : (if 0 ≤ (wrap64 (t181 + x11_5)) then (if (wrap64 (t181 + x11_5)) < ((rd_L1 t169 x10_4).length : Int) then (if (((rd (rd_L1 t169 x10_4) (wrap64 (t181 + x11_5))) == 1) != (x10_4 == x11_5)) = true then (some false) else ((params_Params_W.f t161 t162 t163).bind fun t184 => (if 0 ≤ (wrap64 (t184 + x11_5)) then (if (wrap64 (t184 + x11_5)) < ((rd_L1 t169 x10_4).length : Int) then (if (rd (rd_L1 t169 x10_4) (wrap64 (t184 + x11_5))) > 1 then (some false) else (fountainlaw7_PrecodeOnes.l3 k5 t169 x10_4 (wrap64 (x11_5 + 1)) t161 t162 t163)) else (none)) else (none)))) else (none)) else (none)) = some r := H
                                          have A57 := Aside0.mk A570
                                          clear A570
                                          obtain ⟨ji58, hji58⟩ : ∃ j_ : Int, (wrap64 (t181 + x11_5)) = j_ := ⟨_, rfl⟩
                                          replace H : (if 0 ≤ (ji58) then (if (ji58) < ((rd_L1 t169 x10_4).length : Int) then (if (((rd (rd_L1 t169 x10_4) (ji58)) == 1) != (x10_4 == x11_5)) = true then (some false) else ((params_Params_W.f t161 t162 t163).bind fun t184 => (if 0 ≤ (wrap64 (t184 + x11_5)) then (if (wrap64 (t184 + x11_5)) < ((rd_L1 t169 x10_4).length : Int) then (if (rd (rd_L1 t169 x10_4) (wrap64 (t184 + x11_5))) > 1 then (some false) else (fountainlaw7_PrecodeOnes.l3 k5 t169 x10_4 (wrap64 (x11_5 + 1)) t161 t162 t163)) else (none)) else (none)))) else (none)) else (none)) = some r := by first | (rw [hji58] at H; exact H) | (simp only [hji58] at H ⊢; exact H)
                                          (try rw [hji58] at A57)
                                          have hji58w : (IntKind.i64.wrap (t181 + x11_5)) = ji58 := (i64_w _).trans hji58
                                          by_cases c59 : 0 ≤ (ji58)
                                          · rw [if_pos c59] at H
                                            have c59b0 : decide (0 ≤ (ji58)) = true := decide_eq_true c59
                                            clear c59
                                            by_cases c60 : (ji58) < ((rd_L1 t169 x10_4).length : Int)
                                            · rw [if_pos c60] at H
                                              have c60b0 : decide ((ji58) < ((rd_L1 t169 x10_4).length : Int)) = true := decide_eq_true c60
                                              clear c60
                                              by_cases c61 : (((rd (rd_L1 t169 x10_4) (ji58)) == 1) != (x10_4 == x11_5)) = true
                                              · rw [if_pos c61] at H
                                                have c61b0 : (((rd (rd_L1 t169 x10_4) (ji58)) == 1) != (x10_4 == x11_5)) = true := c61
                                                (try (have c61b1 : decide (((rd (rd_L1 t169 x10_4) (ji58)) == 1) = (x10_4 == x11_5)) = false := by simpa using c61))
                                                (try (have c61b2 : (((rd (rd_L1 t169 x10_4) (ji58)) == 1) == (x10_4 == x11_5)) = false := by simpa using c61))
                                                (try (have c61b3 : ¬ (((rd (rd_L1 t169 x10_4) (ji58)) == 1) = (x10_4 == x11_5)) := by simpa using c61))
                                                clear c61
                                                exact absurd ((Option.some.inj H).trans HRT.out) (by decide)
                                              · rw [if_neg c61] at H
                                                have c61b0 : (((rd (rd_L1 t169 x10_4) (ji58)) == 1) != (x10_4 == x11_5)) = false := by simpa using c61
                                                (try (have c61b1 : decide (((rd (rd_L1 t169 x10_4) (ji58)) == 1) = (x10_4 == x11_5)) = true := by simpa using c61))
                                                (try (have c61b2 : (((rd (rd_L1 t169 x10_4) (ji58)) == 1) == (x10_4 == x11_5)) = true := by simpa using c61))
                                                clear c61
                                                replace H := Option.bind_eq_some_iff.mp H
                                                obtain ⟨t184, A620, H⟩ := H
                                                replace H : (if 0 ≤ (wrap64 (t184 + x11_5)) then (if (wrap64 (t184 + x11_5)) < ((rd_L1 t169 x10_4).length : Int) then (if (rd (rd_L1 t169 x10_4) (wrap64 (t184 + x11_5))) > 1 then (some false) else (fountainlaw7_PrecodeOnes.l3 k5 t169 x10_4 (wrap64 (x11_5 + 1)) t161 t162 t163)) else (none)) else (none)) = some r := H
                                                have A62 := Aside0.mk A620
                                                clear A620
                                                obtain ⟨ji63, hji63⟩ : ∃ j_ : Int, (wrap64 (t184 + x11_5)) = j_ := ⟨_, rfl⟩
                                                replace H : (if 0 ≤ (ji63) then (if (ji63) < ((rd_L1 t169 x10_4).length : Int) then (if (rd (rd_L1 t169 x10_4) (ji63)) > 1 then (some false) else (fountainlaw7_PrecodeOnes.l3 k5 t169 x10_4 (wrap64 (x11_5 + 1)) t161 t162 t163)) else (none)) else (none)) = some r := by first | (rw [hji63] at H; exact H) | (simp only [hji63] at H ⊢; exact H)
                                                (try rw [hji63] at A57)
                                                (try rw [hji63] at A62)
                                                have hji63w : (IntKind.i64.wrap (t184 + x11_5)) = ji63 := (i64_w _).trans hji63
                                                by_cases c64 : 0 ≤ (ji63)
                                                · rw [if_pos c64] at H
                                                  have c64b0 : decide (0 ≤ (ji63)) = true := decide_eq_true c64
                                                  clear c64
                                                  by_cases c65 : (ji63) < ((rd_L1 t169 x10_4).length : Int)
                                                  · rw [if_pos c65] at H
                                                    have c65b0 : decide ((ji63) < ((rd_L1 t169 x10_4).length : Int)) = true := decide_eq_true c65
                                                    clear c65
                                                    by_cases c66 : (rd (rd_L1 t169 x10_4) (ji63)) > 1
                                                    · rw [if_pos c66] at H
                                                      have c66b0 : decide (1 < (rd (rd_L1 t169 x10_4) (ji63))) = true := decide_eq_true c66
                                                      clear c66
                                                      exact absurd ((Option.some.inj H).trans HRT.out) (by decide)
                                                    · rw [if_neg c66] at H
                                                      have c66b0 : decide (1 < (rd (rd_L1 t169 x10_4) (ji63))) = false := decide_eq_false c66
                                                      clear c66
                                                      have H' := Aside0.mk H
                                                      clear H
                                                      have hcz67_0 : wr.cell? ⟨gb165, 0, none⟩ = some (.int .i64 t161) := (blk_cell BK165.out 0).trans rfl
                                                      have hcz67_1 : wr.cell? ⟨gb165, 1, none⟩ = some (.int .i64 t162) := (blk_cell BK165.out 1).trans rfl
                                                      have hcz67_2 : wr.cell? ⟨gb165, 2, none⟩ = some (.int .i64 t163) := (blk_cell BK165.out 2).trans rfl
                                                      have hfz67_0 := blk_frozen BK165.out 0
                                                      have hfz67_1 := blk_frozen BK165.out 1
                                                      have hfz67_2 := blk_frozen BK165.out 2
                                                      try go_wp2
                                                      have n0_ := Aside0.mk (Kd.S_drew HO_7.out)
                                                      have n1_ := Aside0.mk (blk_drew BK165.out)
                                                      have n2_ := Aside0.mk (Kd.C_drew HR178_0.out)
                                                      have n3_ := Aside0.mk (below_drew1 HB.out)
                                                      clear HO_7
                                                      clear BK165
                                                      clear HR178_0
                                                      clear HB
                                                      have HO_7 := n0_
                                                      have BK165 := n1_
                                                      have HR178_0 := n2_
                                                      have HB := n3_
                                                      clear n0_ n1_ n2_ n3_
                                                      have p180 : 0 ≤ (x10_4 : Int) := of_decide_eq_true (by first | (with_reducible assumption) | assumption)
                                                      have q180 : x10_4 < (t169.length : Int) := of_decide_eq_true (by first | (with_reducible assumption) | assumption)
                                                      obtain ⟨ad180, A180_0, c180_0, e180, hx180_0, hl180_0, hi180_0⟩ := at_L1 (Kd.S_reads' HO_7.out).2.2 x10_4 p180 q180
                                                      obtain rfl : ad178 = ad180 := (by injection e180)
                                                      obtain ⟨ce180, hce180, hMe180, hcc180⟩ := Kd.S_get HO_7.out [] x10_4 p180 (by first | exact q180 | exact of_decide_eq_true (by first | (with_reducible assumption) | assumption) | (have e_ := (Kd.S_reads' HO_7.out).1; omega))
                                                      obtain ⟨ve180_0, rfl, ge180_0⟩ := hMe180
                                                      have hv180_0 := hcc180 0 _ rfl
                                                      rw [Nat.add_zero, show ((Kd.slice 5 (Kd.int .u8))).sz = 1 from rfl, Nat.mul_one] at hv180_0
                                                      replace hv180_0 := Option.some.inj (hv180_0.symm.trans hx180_0)
                                                      rw [hv180_0] at ge180_0
                                                      have HL180_0 := Aside0.mk (show Kd.R (Kd.int .u8) 5 _ _ _ _ (rd_L1 t169 x10_4) from ge180_0)
                                                      clear hv180_0 ge180_0
                                                      clear hcc180 hce180
                                                      have HR180_0 := Aside0.mk hi180_0
                                                      have HC180_0 := Aside0.mk hl180_0
                                                      clear hi180_0 hl180_0
                                                      replace p180 := eq_true p180
                                                      replace q180 := eq_true q180
                                                      have p183 : 0 ≤ (x10_4 : Int) := of_decide_eq_true (by first | (with_reducible assumption) | assumption)
                                                      have q183 : x10_4 < (t169.length : Int) := of_decide_eq_true (by first | (with_reducible assumption) | assumption)
                                                      obtain ⟨ad183, A183_0, c183_0, e183, hx183_0, hl183_0, hi183_0⟩ := at_L1 (Kd.S_reads' HO_7.out).2.2 x10_4 p183 q183
                                                      obtain rfl : ad178 = ad183 := (by injection e183)
                                                      obtain ⟨ce183, hce183, hMe183, hcc183⟩ := Kd.S_get HO_7.out [] x10_4 p183 (by first | exact q183 | exact of_decide_eq_true (by first | (with_reducible assumption) | assumption) | (have e_ := (Kd.S_reads' HO_7.out).1; omega))
                                                      obtain ⟨ve183_0, rfl, ge183_0⟩ := hMe183
                                                      have hv183_0 := hcc183 0 _ rfl
                                                      rw [Nat.add_zero, show ((Kd.slice 5 (Kd.int .u8))).sz = 1 from rfl, Nat.mul_one] at hv183_0
                                                      replace hv183_0 := Option.some.inj (hv183_0.symm.trans hx183_0)
                                                      rw [hv183_0] at ge183_0
                                                      have HL183_0 := Aside0.mk (show Kd.R (Kd.int .u8) 5 _ _ _ _ (rd_L1 t169 x10_4) from ge183_0)
                                                      clear hv183_0 ge183_0
                                                      clear hcc183 hce183
                                                      have HR183_0 := Aside0.mk hi183_0
                                                      have HC183_0 := Aside0.mk hl183_0
                                                      clear hi183_0 hl183_0
                                                      replace p183 := eq_true p183
                                                      replace q183 := eq_true q183
                                                      have p182 : 0 ≤ ((ji58) : Int) := of_decide_eq_true (by first | (with_reducible assumption) | assumption)
                                                      have q182 : (ji58) < ((rd_L1 t169 x10_4).length : Int) := of_decide_eq_true (by first | (with_reducible assumption) | assumption)
                                                      obtain ⟨ad182, e182, hx182_0⟩ := Kd.at_int (by repeat (first | (with_reducible exact HR180_0.out) | (with_reducible refine Kd.C_alloc ?_ _) | (with_reducible refine Kd.C_drewN ?_ _) | (with_reducible refine Kd.C_drew ?_) | exact HR180_0.out)) (ji58) p182 q182
                                                      cases e182
                                                      replace p182 := eq_true p182
                                                      replace q182 := eq_true q182
                                                      have p185 : 0 ≤ ((ji63) : Int) := of_decide_eq_true (by first | (with_reducible assumption) | assumption)
                                                      have q185 : (ji63) < ((rd_L1 t169 x10_4).length : Int) := of_decide_eq_true (by first | (with_reducible assumption) | assumption)
                                                      obtain ⟨ad185, e185, hx185_0⟩ := Kd.at_int (by repeat (first | (with_reducible exact HR180_0.out) | (with_reducible refine Kd.C_alloc ?_ _) | (with_reducible refine Kd.C_drewN ?_ _) | (with_reducible refine Kd.C_drew ?_) | exact HR180_0.out)) (ji63) p185 q185
                                                      obtain rfl : ad182 = ad185 := by injection e185
                                                      replace p185 := eq_true p185
                                                      replace q185 := eq_true q185
                                                      refine start_ (n := 28) (S := fun w' => w'.cell? ⟨gb165, 0, none⟩ = some (.int .i64 t161) ∧ w'.cell? ⟨gb165, 1, none⟩ = some (.int .i64 t162) ∧ w'.cell? ⟨gb165, 2, none⟩ = some (.int .i64 t163) ∧ w'.cell? (ad178.add (x10_4).toNat) = some (.slice (some ad182) (rd_L1 t169 x10_4).length c180_0) ∧ w'.cell? (ad182.add ((ji58)).toNat) = some (.int .u8 (rd (rd_L1 t169 x10_4) (ji58))) ∧ w'.cell? (ad178.add (x10_4).toNat) = some (.slice A183_0 (rd_L1 t169 x10_4).length c183_0) ∧ w'.cell? (ad182.add ((ji63)).toNat) = some (.int .u8 (rd (rd_L1 t169 x10_4) (ji63)))) (ds := []) #[false, false, false, false, false, false, false, false, false, false, false, false, false, false, false, false, false, false, false, false, false, false, false, false, false, false, false, false] (by kernel_rfl) rfl rfl ⟨(blk_cell BK165.out 0).trans rfl, (blk_cell BK165.out 1).trans rfl, (blk_cell BK165.out 2).trans rfl, hx180_0, hx182_0, hx183_0, hx185_0⟩ (fun hHeld => ?_); refine with_tabW fountainlaw7_PrecodeOnes.tab27 fountainlaw7_PrecodeOnes.bits27 (fun HT_ HW_ => ?_)
                                                      generalize wr.drew = w68 at HO_7 BK165 HR178_0 HB HL180_0 HL183_0 HR180_0 HR183_0 hx180_0 hx183_0 hHeld ⊢
                                                      refine pure_ (i := 0) (N := some 112) (v := ?_) (a' := ?_) #[true, false, false, false, false, false, false, false, false, false, false, false, false, false, false, false, false, false, false, false, false, false, false, false, false, false, false, false] rfl rfl (any_of HT_.out (by kernel_rfl)) (fun _ _ _ h => h) (Or.inl ⟨by rfl, ?_⟩) ?_ ?_
                                                      rotate_left
                                                      · intro w'
                                                        go_simp
                                                        with_reducible rfl
                                                      rotate_left
                                                      · simp only [Act.put, List.setIfInBounds_toArray, List.set_cons_zero, List.set_cons_succ, i64_w, i32_w]
                                                        rfl
                                                      refine pure_ (i := 1) (N := some 113) (v := ?_) (a' := ?_) #[true, true, false, false, false, false, false, false, false, false, false, false, false, false, false, false, false, false, false, false, false, false, false, false, false, false, false, false] rfl rfl (any_of HT_.out (by kernel_rfl)) (fun _ _ _ h => h) (Or.inl ⟨by rfl, ?_⟩) ?_ ?_
                                                      rotate_left
                                                      · intro w'
                                                        go_simp
                                                        with_reducible rfl
                                                      rotate_left
                                                      · simp only [Act.put, List.setIfInBounds_toArray, List.set_cons_zero, List.set_cons_succ, i64_w, i32_w]
                                                        rfl
                                                      refine pure_ (i := 2) (N := some 114) (v := ?_) (a' := ?_) #[true, true, true, false, false, false, false, false, false, false, false, false, false, false, false, false, false, false, false, false, false, false, false, false, false, false, false, false] rfl rfl (any_of HT_.out (by kernel_rfl)) (fun _ _ _ h => h) (Or.inl ⟨by rfl, ?_⟩) ?_ ?_
                                                      rotate_left
                                                      · intro w'
                                                        go_simp
                                                        with_reducible rfl
                                                      rotate_left
                                                      · simp only [Act.put, List.setIfInBounds_toArray, List.set_cons_zero, List.set_cons_succ, i64_w, i32_w]
                                                        rfl
                                                      refine pure_ (i := 6) (N := some 118) (v := ?_) (a' := ?_) #[true, true, true, false, false, false, true, false, false, false, false, false, false, false, false, false, false, false, false, false, false, false, false, false, false, false, false, false] rfl rfl (any_of HT_.out (by kernel_rfl)) (fun _ _ _ h => h) (Or.inl ⟨by rfl, ?_⟩) ?_ ?_
                                                      rotate_left
                                                      · intro w'
                                                        go_simp
                                                        with_reducible rfl
                                                      rotate_left
                                                      · simp only [Act.put, List.setIfInBounds_toArray, List.set_cons_zero, List.set_cons_succ, i64_w, i32_w]
                                                        rfl
                                                      refine pure_ (i := 11) (N := some 123) (v := ?_) (a' := ?_) #[true, true, true, false, false, false, true, false, false, false, false, true, false, false, false, false, false, false, false, false, false, false, false, false, false, false, false, false] rfl rfl (any_of HT_.out (by kernel_rfl)) (fun _ _ _ h => h) (Or.inl ⟨by rfl, ?_⟩) ?_ ?_
                                                      rotate_left
                                                      · intro w'
                                                        go_simp
                                                        with_reducible rfl
                                                      rotate_left
                                                      · simp only [Act.put, List.setIfInBounds_toArray, List.set_cons_zero, List.set_cons_succ, i64_w, i32_w]
                                                        rfl
                                                      refine pure_ (i := 12) (N := some 124) (v := ?_) (a' := ?_) #[true, true, true, false, false, false, true, false, false, false, false, true, true, false, false, false, false, false, false, false, false, false, false, false, false, false, false, false] rfl rfl (any_of HT_.out (by kernel_rfl)) (fun _ _ _ h => h) (Or.inl ⟨by rfl, ?_⟩) ?_ ?_
                                                      rotate_left
                                                      · intro w'
                                                        go_simp
                                                        with_reducible rfl
                                                      rotate_left
                                                      · simp only [Act.put, List.setIfInBounds_toArray, List.set_cons_zero, List.set_cons_succ, i64_w, i32_w]
                                                        rfl
                                                      refine pure_ (i := 13) (N := some 125) (v := ?_) (a' := ?_) #[true, true, true, false, false, false, true, false, false, false, false, true, true, true, false, false, false, false, false, false, false, false, false, false, false, false, false, false] rfl rfl (any_of HT_.out (by kernel_rfl)) (fun _ _ _ h => h) (Or.inl ⟨by rfl, ?_⟩) ?_ ?_
                                                      rotate_left
                                                      · intro w'
                                                        go_simp
                                                        with_reducible rfl
                                                      rotate_left
                                                      · simp only [Act.put, List.setIfInBounds_toArray, List.set_cons_zero, List.set_cons_succ, i64_w, i32_w]
                                                        rfl
                                                      refine take_ (i := 3) (N := some 115) (v := ?_) (a' := ?_) #[true, true, true, true, false, false, true, false, false, false, false, true, true, true, false, false, false, false, false, false, false, false, false, false, false, false, false, false] rfl rfl (take_ofW HT_.out HW_.out (by kernel_rfl)) (fun _ _ _ h => h) (Or.inl ⟨by rfl, ?_⟩) hHeld ?_ ?_
                                                      rotate_left
                                                      · rintro w' ⟨s0, s1, s2, s3, s4, s5, s6⟩
                                                        go_simp
                                                        with_reducible rfl
                                                      rotate_left
                                                      · simp only [Act.put, List.setIfInBounds_toArray, List.set_cons_zero, List.set_cons_succ, i64_w, i32_w]
                                                        rfl
                                                      refine take_ (i := 4) (N := some 116) (v := ?_) (a' := ?_) #[true, true, true, true, true, false, true, false, false, false, false, true, true, true, false, false, false, false, false, false, false, false, false, false, false, false, false, false] rfl rfl (take_ofW HT_.out HW_.out (by kernel_rfl)) (fun _ _ _ h => h) (Or.inl ⟨by rfl, ?_⟩) hHeld ?_ ?_
                                                      rotate_left
                                                      · rintro w' ⟨s0, s1, s2, s3, s4, s5, s6⟩
                                                        go_simp
                                                        with_reducible rfl
                                                      rotate_left
                                                      · simp only [Act.put, List.setIfInBounds_toArray, List.set_cons_zero, List.set_cons_succ, i64_w, i32_w]
                                                        rfl
                                                      refine one_ (i := 5) (N := some 117) #[true, true, true, true, true, true, true, false, false, false, false, true, true, true, false, false, false, false, false, false, false, false, false, false, false, false, false, false] rfl rfl (one_of HT_.out (by kernel_rfl)) (by decide) (fun K hK => ?_)
                                                      refine goes_ Try.func23 (by kernel_rfl) rfl #[.agg #[.int .i64 t161, .int .i64 t162, .int .i64 t163]] (by rfl) rfl rfl (by (try simp only [List.map_toArray, List.map_cons, List.map_nil]); first | done | rfl | (simp only [List.length_drop, List.length_take]; rfl)) ?_
                                                      with_reducible refine (params_Params_W.calls t161 t162 t163 t181 _ A57.out).mono ?_
                                                      rintro e w69 ⟨rfl, hb⟩
                                                      have HS3_ := (hb.cell (World.block_lt_of_cell? _ _ (hHeld.2.2.2.1))).trans (hHeld.2.2.2.1)
                                                      have HS4_ := (hb.cell (World.block_lt_of_cell? _ _ (hHeld.2.2.2.2.1))).trans (hHeld.2.2.2.2.1)
                                                      have HS5_ := (hb.cell (World.block_lt_of_cell? _ _ (hHeld.2.2.2.2.2.1))).trans (hHeld.2.2.2.2.2.1)
                                                      have HS6_ := (hb.cell (World.block_lt_of_cell? _ _ (hHeld.2.2.2.2.2.2))).trans (hHeld.2.2.2.2.2.2)
                                                      refine ⟨_, rfl, ?_⟩
                                                      have m0_ := Aside0.mk (Kd.R_below (by (with_reducible repeat (first | apply Kd.R_alloc | apply Kd.R_drewN | apply Kd.R_drew)); exact HL183_0.out) hb)
                                                      have m1_ := Aside0.mk (Kd.C_below (by repeat (first | (with_reducible exact HR183_0.out) | (with_reducible refine Kd.C_alloc ?_ _) | (with_reducible refine Kd.C_drewN ?_ _) | (with_reducible refine Kd.C_drew ?_) | exact HR183_0.out)) hb)
                                                      clear HL183_0 HR183_0
                                                      have HL183_0 := m0_
                                                      have HR183_0 := m1_
                                                      clear m0_ m1_
                                                      have n0_ := Aside0.mk (Kd.S_below (by (with_reducible repeat (first | apply Kd.S_alloc | apply Kd.S_drewN | apply Kd.S_drew)); exact HO_7.out) hb)
                                                      have n1_ := Aside0.mk (Kd.R_below (by (with_reducible repeat (first | apply Kd.R_alloc | apply Kd.R_drewN | apply Kd.R_drew)); exact HL180_0.out) hb)
                                                      have n2_ := Aside0.mk (blk_below (g := gb165) (o := .cells #[.int .i64 t161, .int .i64 t162, .int .i64 t163] 24 (0, 0)) (by (with_reducible repeat (first | refine blk_drewN ?_ _ | refine blk_drew ?_ | refine blk_alloc ?_ _)); exact BK165.out) hb)
                                                      have n3_ := Aside0.mk (Kd.C_below (by repeat (first | (with_reducible exact HR178_0.out) | (with_reducible refine Kd.C_alloc ?_ _) | (with_reducible refine Kd.C_drewN ?_ _) | (with_reducible refine Kd.C_drew ?_) | exact HR178_0.out)) hb)
                                                      have n4_ := Aside0.mk (Kd.C_below (by repeat (first | (with_reducible exact HR180_0.out) | (with_reducible refine Kd.C_alloc ?_ _) | (with_reducible refine Kd.C_drewN ?_ _) | (with_reducible refine Kd.C_drew ?_) | exact HR180_0.out)) hb)
                                                      have n5_ := Aside0.mk (below_step (by repeat (first | (with_reducible first | exact HB.out | apply below_alloc | apply pw_below_drewN | apply below_drew1 | refine below_set ?_ GE165.out) | exact HB.out)) hb)
                                                      clear HO_7
                                                      clear HL180_0
                                                      clear BK165
                                                      clear HR178_0
                                                      clear HR180_0
                                                      clear HB
                                                      have HO_7 := n0_
                                                      have HL180_0 := n1_
                                                      have BK165 := n2_
                                                      have HR178_0 := n3_
                                                      have HR180_0 := n4_
                                                      have HB := n5_
                                                      clear n0_ n1_ n2_ n3_ n4_ n5_
                                                      (try clear hb)
                                                      (try clear hb2)
                                                      (try clear hk)
                                                      (try clear hi)
                                                      refine hK.out _ _ ⟨(blk_cell BK165.out 0).trans rfl, (blk_cell BK165.out 1).trans rfl, (blk_cell BK165.out 2).trans rfl, HS3_, HS4_, HS5_, HS6_⟩ (fun hHeld => ?_)
                                                      clear hK K
                                                      refine norm_ (a' := ?_) ?_ ?_
                                                      rotate_left
                                                      · show Act.put _ (some 117) _ = _
                                                        simp only [Act.put, List.setIfInBounds_toArray, List.set_cons_zero, List.set_cons_succ, i64_w, i32_w]
                                                        rfl
                                                      refine pure_ (i := 7) (N := some 119) (v := ?_) (a' := ?_) #[true, true, true, true, true, true, true, true, false, false, false, true, true, true, false, false, false, false, false, false, false, false, false, false, false, false, false, false] rfl rfl (any_of HT_.out (by kernel_rfl)) (fun _ _ _ h => h) (Or.inl ⟨by rfl, ?_⟩) ?_ ?_
                                                      rotate_left
                                                      · intro w'
                                                        go_simp
                                                        with_reducible rfl
                                                      rotate_left
                                                      · simp only [Act.put, List.setIfInBounds_toArray, List.set_cons_zero, List.set_cons_succ, i64_w, i32_w]
                                                        rfl
                                                      refine pure_ (i := 8) (N := some 120) (v := ?_) (a' := ?_) #[true, true, true, true, true, true, true, true, true, false, false, true, true, true, false, false, false, false, false, false, false, false, false, false, false, false, false, false] rfl rfl (any_of HT_.out (by kernel_rfl)) (fun _ _ _ h => h) (Or.inl ⟨by rfl, ?_⟩) ?_ ?_
                                                      rotate_left
                                                      · intro w'
                                                        go_simp
                                                        with_reducible rfl
                                                      rotate_left
                                                      · simp only [Act.put, List.setIfInBounds_toArray, List.set_cons_zero, List.set_cons_succ, i64_w, i32_w]
                                                        rfl
                                                      refine take_ (i := 9) (N := some 121) (v := ?_) (a' := ?_) #[true, true, true, true, true, true, true, true, true, true, false, true, true, true, false, false, false, false, false, false, false, false, false, false, false, false, false, false] rfl rfl (take_ofW HT_.out HW_.out (by kernel_rfl)) (fun _ _ _ h => h) (Or.inl ⟨by rfl, ?_⟩) hHeld ?_ ?_
                                                      rotate_left
                                                      · rintro w' ⟨s0, s1, s2, s3, s4, s5, s6⟩
                                                        go_simp
                                                        with_reducible rfl
                                                      rotate_left
                                                      · simp only [Act.put, List.setIfInBounds_toArray, List.set_cons_zero, List.set_cons_succ, i64_w, i32_w]
                                                        rfl
                                                      refine pure_ (i := 10) (N := some 122) (v := ?_) (a' := ?_) #[true, true, true, true, true, true, true, true, true, true, true, true, true, true, false, false, false, false, false, false, false, false, false, false, false, false, false, false] rfl rfl (any_of HT_.out (by kernel_rfl)) (fun _ _ _ h => h) (Or.inl ⟨by rfl, ?_⟩) ?_ ?_
                                                      rotate_left
                                                      · intro w'
                                                        go_simp
                                                        with_reducible rfl
                                                      rotate_left
                                                      · simp only [Act.put, List.setIfInBounds_toArray, List.set_cons_zero, List.set_cons_succ, i64_w, i32_w]
                                                        rfl
                                                      refine pure_ (i := 14) (N := some 126) (v := ?_) (a' := ?_) #[true, true, true, true, true, true, true, true, true, true, true, true, true, true, true, false, false, false, false, false, false, false, false, false, false, false, false, false] rfl rfl (any_of HT_.out (by kernel_rfl)) (fun _ _ _ h => h) (Or.inl ⟨by rfl, ?_⟩) ?_ ?_
                                                      rotate_left
                                                      · intro w'
                                                        go_simp
                                                        with_reducible rfl
                                                      rotate_left
                                                      · simp only [Act.put, List.setIfInBounds_toArray, List.set_cons_zero, List.set_cons_succ, i64_w, i32_w]
                                                        rfl
                                                      refine pure_ (i := 15) (N := some 127) (v := ?_) (a' := ?_) #[true, true, true, true, true, true, true, true, true, true, true, true, true, true, true, true, false, false, false, false, false, false, false, false, false, false, false, false] rfl rfl (any_of HT_.out (by kernel_rfl)) (fun _ _ _ h => h) (Or.inl ⟨by rfl, ?_⟩) ?_ ?_
                                                      rotate_left
                                                      · intro w'
                                                        go_simp
                                                        with_reducible rfl
                                                      rotate_left
                                                      · simp only [Act.put, List.setIfInBounds_toArray, List.set_cons_zero, List.set_cons_succ, i64_w, i32_w]
                                                        rfl
                                                      refine pure_ (i := 16) (N := some 128) (v := ?_) (a' := ?_) #[true, true, true, true, true, true, true, true, true, true, true, true, true, true, true, true, true, false, false, false, false, false, false, false, false, false, false, false] rfl rfl (any_of HT_.out (by kernel_rfl)) (fun _ _ _ h => h) (Or.inl ⟨by rfl, ?_⟩) ?_ ?_
                                                      rotate_left
                                                      · intro w'
                                                        go_simp
                                                        with_reducible rfl
                                                      rotate_left
                                                      · simp only [Act.put, List.setIfInBounds_toArray, List.set_cons_zero, List.set_cons_succ, i64_w, i32_w]
                                                        rfl
                                                      refine pure_ (i := 17) (N := some 129) (v := ?_) (a' := ?_) #[true, true, true, true, true, true, true, true, true, true, true, true, true, true, true, true, true, true, false, false, false, false, false, false, false, false, false, false] rfl rfl (any_of HT_.out (by kernel_rfl)) (fun _ _ _ h => h) (Or.inl ⟨by rfl, ?_⟩) ?_ ?_
                                                      rotate_left
                                                      · intro w'
                                                        go_simp
                                                        with_reducible rfl
                                                      rotate_left
                                                      · simp only [Act.put, List.setIfInBounds_toArray, List.set_cons_zero, List.set_cons_succ, i64_w, i32_w]
                                                        rfl
                                                      refine pure_ (i := 18) (N := some 130) (v := ?_) (a' := ?_) #[true, true, true, true, true, true, true, true, true, true, true, true, true, true, true, true, true, true, true, false, false, false, false, false, false, false, false, false] rfl rfl (any_of HT_.out (by kernel_rfl)) (fun _ _ _ h => h) (Or.inl ⟨by rfl, ?_⟩) ?_ ?_
                                                      rotate_left
                                                      · intro w'
                                                        go_simp
                                                        with_reducible rfl
                                                      rotate_left
                                                      · simp only [Act.put, List.setIfInBounds_toArray, List.set_cons_zero, List.set_cons_succ, i64_w, i32_w]
                                                        rfl
                                                      refine pure_ (i := 22) (N := some 134) (v := ?_) (a' := ?_) #[true, true, true, true, true, true, true, true, true, true, true, true, true, true, true, true, true, true, true, false, false, false, true, false, false, false, false, false] rfl rfl (any_of HT_.out (by kernel_rfl)) (fun _ _ _ h => h) (Or.inl ⟨by rfl, ?_⟩) ?_ ?_
                                                      rotate_left
                                                      · intro w'
                                                        go_simp
                                                        with_reducible rfl
                                                      rotate_left
                                                      · simp only [Act.put, List.setIfInBounds_toArray, List.set_cons_zero, List.set_cons_succ, i64_w, i32_w]
                                                        rfl
                                                      refine take_ (i := 19) (N := some 131) (v := ?_) (a' := ?_) #[true, true, true, true, true, true, true, true, true, true, true, true, true, true, true, true, true, true, true, true, false, false, true, false, false, false, false, false] rfl rfl (take_ofW HT_.out HW_.out (by kernel_rfl)) (fun _ _ _ h => h) (Or.inl ⟨by rfl, ?_⟩) hHeld ?_ ?_
                                                      rotate_left
                                                      · rintro w' ⟨s0, s1, s2, s3, s4, s5, s6⟩
                                                        go_simp
                                                        with_reducible rfl
                                                      rotate_left
                                                      · simp only [Act.put, List.setIfInBounds_toArray, List.set_cons_zero, List.set_cons_succ, i64_w, i32_w]
                                                        rfl
                                                      refine take_ (i := 20) (N := some 132) (v := ?_) (a' := ?_) #[true, true, true, true, true, true, true, true, true, true, true, true, true, true, true, true, true, true, true, true, true, false, true, false, false, false, false, false] rfl rfl (take_ofW HT_.out HW_.out (by kernel_rfl)) (fun _ _ _ h => h) (Or.inl ⟨by rfl, ?_⟩) hHeld ?_ ?_
                                                      rotate_left
                                                      · rintro w' ⟨s0, s1, s2, s3, s4, s5, s6⟩
                                                        go_simp
                                                        with_reducible rfl
                                                      rotate_left
                                                      · simp only [Act.put, List.setIfInBounds_toArray, List.set_cons_zero, List.set_cons_succ, i64_w, i32_w]
                                                        rfl
                                                      refine one_ (i := 21) (N := some 133) #[true, true, true, true, true, true, true, true, true, true, true, true, true, true, true, true, true, true, true, true, true, true, true, false, false, false, false, false] rfl rfl (one_of HT_.out (by kernel_rfl)) (by decide) (fun K hK => ?_)
                                                      refine goes_ Try.func23 (by kernel_rfl) rfl #[.agg #[.int .i64 t161, .int .i64 t162, .int .i64 t163]] (by rfl) rfl rfl (by (try simp only [List.map_toArray, List.map_cons, List.map_nil]); first | done | rfl | (simp only [List.length_drop, List.length_take]; rfl)) ?_
                                                      with_reducible refine (params_Params_W.calls t161 t162 t163 t184 _ A62.out).mono ?_
                                                      rintro e w70 ⟨rfl, hb⟩
                                                      have HS3_ := (hb.cell (World.block_lt_of_cell? _ _ (hHeld.2.2.2.1))).trans (hHeld.2.2.2.1)
                                                      have HS4_ := (hb.cell (World.block_lt_of_cell? _ _ (hHeld.2.2.2.2.1))).trans (hHeld.2.2.2.2.1)
                                                      have HS5_ := (hb.cell (World.block_lt_of_cell? _ _ (hHeld.2.2.2.2.2.1))).trans (hHeld.2.2.2.2.2.1)
                                                      have HS6_ := (hb.cell (World.block_lt_of_cell? _ _ (hHeld.2.2.2.2.2.2))).trans (hHeld.2.2.2.2.2.2)
                                                      refine ⟨_, rfl, ?_⟩
                                                      have n0_ := Aside0.mk (Kd.S_below (by (with_reducible repeat (first | apply Kd.S_alloc | apply Kd.S_drewN | apply Kd.S_drew)); exact HO_7.out) hb)
                                                      have n1_ := Aside0.mk (Kd.R_below (by (with_reducible repeat (first | apply Kd.R_alloc | apply Kd.R_drewN | apply Kd.R_drew)); exact HL180_0.out) hb)
                                                      have n2_ := Aside0.mk (Kd.R_below (by (with_reducible repeat (first | apply Kd.R_alloc | apply Kd.R_drewN | apply Kd.R_drew)); exact HL183_0.out) hb)
                                                      have n3_ := Aside0.mk (blk_below (g := gb165) (o := .cells #[.int .i64 t161, .int .i64 t162, .int .i64 t163] 24 (0, 0)) (by (with_reducible repeat (first | refine blk_drewN ?_ _ | refine blk_drew ?_ | refine blk_alloc ?_ _)); exact BK165.out) hb)
                                                      have n4_ := Aside0.mk (Kd.C_below (by repeat (first | (with_reducible exact HR178_0.out) | (with_reducible refine Kd.C_alloc ?_ _) | (with_reducible refine Kd.C_drewN ?_ _) | (with_reducible refine Kd.C_drew ?_) | exact HR178_0.out)) hb)
                                                      have n5_ := Aside0.mk (Kd.C_below (by repeat (first | (with_reducible exact HR180_0.out) | (with_reducible refine Kd.C_alloc ?_ _) | (with_reducible refine Kd.C_drewN ?_ _) | (with_reducible refine Kd.C_drew ?_) | exact HR180_0.out)) hb)
                                                      have n6_ := Aside0.mk (Kd.C_below (by repeat (first | (with_reducible exact HR183_0.out) | (with_reducible refine Kd.C_alloc ?_ _) | (with_reducible refine Kd.C_drewN ?_ _) | (with_reducible refine Kd.C_drew ?_) | exact HR183_0.out)) hb)
                                                      have n7_ := Aside0.mk (below_step (by repeat (first | (with_reducible first | exact HB.out | apply below_alloc | apply pw_below_drewN | apply below_drew1 | refine below_set ?_ GE165.out) | exact HB.out)) hb)
                                                      clear HO_7
                                                      clear HL180_0
                                                      clear HL183_0
                                                      clear BK165
                                                      clear HR178_0
                                                      clear HR180_0
                                                      clear HR183_0
                                                      clear HB
                                                      have HO_7 := n0_
                                                      have HL180_0 := n1_
                                                      have HL183_0 := n2_
                                                      have BK165 := n3_
                                                      have HR178_0 := n4_
                                                      have HR180_0 := n5_
                                                      have HR183_0 := n6_
                                                      have HB := n7_
                                                      clear n0_ n1_ n2_ n3_ n4_ n5_ n6_ n7_
                                                      (try clear hb)
                                                      (try clear hb2)
                                                      (try clear hk)
                                                      (try clear hi)
                                                      refine hK.out _ _ ⟨(blk_cell BK165.out 0).trans rfl, (blk_cell BK165.out 1).trans rfl, (blk_cell BK165.out 2).trans rfl, HS3_, HS4_, HS5_, HS6_⟩ (fun hHeld => ?_)
                                                      clear hK K
                                                      refine norm_ (a' := ?_) ?_ ?_
                                                      rotate_left
                                                      · show Act.put _ (some 133) _ = _
                                                        simp only [Act.put, List.setIfInBounds_toArray, List.set_cons_zero, List.set_cons_succ, i64_w, i32_w]
                                                        rfl
                                                      refine pure_ (i := 23) (N := some 135) (v := ?_) (a' := ?_) #[true, true, true, true, true, true, true, true, true, true, true, true, true, true, true, true, true, true, true, true, true, true, true, true, false, false, false, false] rfl rfl (any_of HT_.out (by kernel_rfl)) (fun _ _ _ h => h) (Or.inl ⟨by rfl, ?_⟩) ?_ ?_
                                                      rotate_left
                                                      · intro w'
                                                        go_simp
                                                        with_reducible rfl
                                                      rotate_left
                                                      · simp only [Act.put, List.setIfInBounds_toArray, List.set_cons_zero, List.set_cons_succ, i64_w, i32_w]
                                                        rfl
                                                      refine pure_ (i := 24) (N := some 136) (v := ?_) (a' := ?_) #[true, true, true, true, true, true, true, true, true, true, true, true, true, true, true, true, true, true, true, true, true, true, true, true, true, false, false, false] rfl rfl (any_of HT_.out (by kernel_rfl)) (fun _ _ _ h => h) (Or.inl ⟨by rfl, ?_⟩) ?_ ?_
                                                      rotate_left
                                                      · intro w'
                                                        go_simp
                                                        with_reducible rfl
                                                      rotate_left
                                                      · simp only [Act.put, List.setIfInBounds_toArray, List.set_cons_zero, List.set_cons_succ, i64_w, i32_w]
                                                        rfl
                                                      refine take_ (i := 25) (N := some 137) (v := ?_) (a' := ?_) #[true, true, true, true, true, true, true, true, true, true, true, true, true, true, true, true, true, true, true, true, true, true, true, true, true, true, false, false] rfl rfl (take_ofW HT_.out HW_.out (by kernel_rfl)) (fun _ _ _ h => h) (Or.inl ⟨by rfl, ?_⟩) hHeld ?_ ?_
                                                      rotate_left
                                                      · rintro w' ⟨s0, s1, s2, s3, s4, s5, s6⟩
                                                        go_simp
                                                        with_reducible rfl
                                                      rotate_left
                                                      · simp only [Act.put, List.setIfInBounds_toArray, List.set_cons_zero, List.set_cons_succ, i64_w, i32_w]
                                                        rfl
                                                      refine pure_ (i := 26) (N := some 138) (v := ?_) (a' := ?_) #[true, true, true, true, true, true, true, true, true, true, true, true, true, true, true, true, true, true, true, true, true, true, true, true, true, true, true, false] rfl rfl (any_of HT_.out (by kernel_rfl)) (fun _ _ _ h => h) (Or.inl ⟨by rfl, ?_⟩) ?_ ?_
                                                      rotate_left
                                                      · intro w'
                                                        go_simp
                                                        with_reducible rfl
                                                      rotate_left
                                                      · simp only [Act.put, List.setIfInBounds_toArray, List.set_cons_zero, List.set_cons_succ, i64_w, i32_w]
                                                        rfl
                                                      refine pure_ (i := 27) (N := some 139) (v := ?_) (a' := ?_) #[true, true, true, true, true, true, true, true, true, true, true, true, true, true, true, true, true, true, true, true, true, true, true, true, true, true, true, true] rfl rfl (any_of HT_.out (by kernel_rfl)) (fun _ _ _ h => h) (Or.inl ⟨by rfl, ?_⟩) ?_ ?_
                                                      rotate_left
                                                      · intro w'
                                                        go_simp
                                                        with_reducible rfl
                                                      rotate_left
                                                      · simp only [Act.put, List.setIfInBounds_toArray, List.set_cons_zero, List.set_cons_succ, i64_w, i32_w]
                                                        rfl
                                                      refine done_ (done_of HT_.out (by kernel_rfl)) ?_
                                                      try go_wp2
                                                      go_roundg k5
                                                      case measure => have := HJ2.out; have := HJ10.out; have := HK3.out; have := HK4.out; have := HK5.out; omega
                                                      case rel => exact ⟨(wrap64 (x11_5 + 1)), (by first | rfl | (simp; done) | (simp [*]; done)), H', ⟨by have := HJ2.out; have := HJ10.out; have := HK3.out; have := HK4.out; have := HK5.out; omega⟩, ⟨by (with_reducible repeat (first | apply Kd.S_alloc | apply Kd.S_drewN | apply Kd.S_drew)); exact HO_7.out⟩, ⟨by (with_reducible repeat (first | refine blk_drewN ?_ _ | refine blk_drew ?_ | refine blk_alloc ?_ _)); exact BK165.out⟩, ⟨by repeat (first | (with_reducible exact HR178_0.out) | (with_reducible refine Kd.C_alloc ?_ _) | (with_reducible refine Kd.C_drewN ?_ _) | (with_reducible refine Kd.C_drew ?_) | exact HR178_0.out)⟩, ⟨by repeat (first | (with_reducible first | exact HB.out | apply below_alloc | apply pw_below_drewN | apply below_drew1 | refine below_set ?_ GE165.out) | exact HB.out)⟩⟩
                                                  · rw [if_neg c65] at H
                                                    exact absurd H (by simp)
                                                · rw [if_neg c64] at H
                                                  exact absurd H (by simp)
                                            · rw [if_neg c60] at H
                                              exact absurd H (by simp)
                                          · rw [if_neg c59] at H
                                            exact absurd H (by simp)
                                        · rw [if_neg c56] at H
                                          exact absurd H (by simp)
                                      · rw [if_neg c55] at H
                                        exact absurd H (by simp)
                                    · rw [if_neg c54] at H
                                      have c54b0 : decide (x11_5 < t163) = false := decide_eq_false c54
                                      clear c54
                                      have H' := Aside0.mk H
                                      clear H
                                      have hcz71_0 : wr.cell? ⟨gb165, 0, none⟩ = some (.int .i64 t161) := (blk_cell BK165.out 0).trans rfl
                                      have hcz71_1 : wr.cell? ⟨gb165, 1, none⟩ = some (.int .i64 t162) := (blk_cell BK165.out 1).trans rfl
                                      have hcz71_2 : wr.cell? ⟨gb165, 2, none⟩ = some (.int .i64 t163) := (blk_cell BK165.out 2).trans rfl
                                      have hfz71_0 := blk_frozen BK165.out 0
                                      have hfz71_1 := blk_frozen BK165.out 1
                                      have hfz71_2 := blk_frozen BK165.out 2
                                      go_wp2
                                      go_loopg [12] k5 (fun kq v12 w' => ∃ (x12_6 : Int), v12 = .int .i64 x12_6 ∧ Aside0 (fountainlaw7_PrecodeOnes.l4 kq t169 x10_4 x12_6 t161 t162 t163 = some r) ∧ Aside0 (kq ≤ k5) ∧ Aside0 (Kd.S (Kd.slice 5 (Kd.int .u8)) 31 w' w.heap.size (fun _ => True) (.slice (some ad178) t169.length co52) t169) ∧ Aside0 (w'.heap[gb165]? = some (.cells #[.int .i64 t161, .int .i64 t162, .int .i64 t163] 24 (0, 0))) ∧ Aside0 (Kd.C (Kd.int .u8) w' A178_0 (rd_L1 t169 x10_4).length (rd_L1 t169 x10_4)) ∧ Aside0 (Below w.heap.size w w'))
                                      case atStart => exact ⟨(0), (by first | rfl | (simp; done) | (simp [*]; done)), H', ⟨Nat.le_refl _⟩, ⟨by (with_reducible repeat (first | apply Kd.S_alloc | apply Kd.S_drewN | apply Kd.S_drew)); exact HO_7.out⟩, ⟨by (with_reducible repeat (first | refine blk_drewN ?_ _ | refine blk_drew ?_ | refine blk_alloc ?_ _)); exact BK165.out⟩, ⟨by repeat (first | (with_reducible exact HR178_0.out) | (with_reducible refine Kd.C_alloc ?_ _) | (with_reducible refine Kd.C_drewN ?_ _) | (with_reducible refine Kd.C_drew ?_) | exact HR178_0.out)⟩, ⟨by repeat (first | (with_reducible first | exact HB.out | apply below_alloc | apply pw_below_drewN | apply below_drew1 | refine below_set ?_ GE165.out) | exact HB.out)⟩⟩
                                      case round =>
                                        clear H'
                                        try clear c1
                                        try clear p1
                                        try clear q1
                                        try clear hx1
                                        try clear c2
                                        try clear p2
                                        try clear c3
                                        try clear c4
                                        try clear c5
                                        try clear c6
                                        try clear c6b0
                                        try clear p6
                                        try clear c7
                                        try clear c17
                                        try clear p17
                                        try clear q17
                                        try clear hx17
                                        try clear c18
                                        try clear c18b0
                                        try clear c18b1
                                        try clear p18
                                        try clear q18
                                        try clear hx18
                                        try clear c19
                                        try clear c20
                                        try clear c21
                                        try clear c22
                                        try clear c23
                                        try clear c24
                                        try clear c25
                                        try clear c25b0
                                        try clear c26
                                        try clear c26b0
                                        try clear c27
                                        try clear c27b0
                                        try clear c29
                                        try clear c29b0
                                        try clear c29b1
                                        try clear c34
                                        try clear c34b0
                                        try clear c35
                                        try clear c35b0
                                        try clear c36
                                        try clear c36b0
                                        try clear c38
                                        try clear c38b0
                                        try clear c39
                                        try clear c39b0
                                        try clear c40
                                        try clear c40b0
                                        try clear c40b1
                                        try clear c40b2
                                        try clear c41
                                        try clear c41b0
                                        try clear c45
                                        try clear c45b0
                                        try clear c46
                                        try clear c46b0
                                        try clear c47
                                        try clear c47b0
                                        try clear c49
                                        try clear c49b0
                                        try clear c49b1
                                        try clear c54
                                        try clear c54b0
                                        try clear c55
                                        try clear c55b0
                                        try clear c56
                                        try clear c56b0
                                        try clear c59
                                        try clear c59b0
                                        try clear c60
                                        try clear c60b0
                                        try clear c61
                                        try clear c61b0
                                        try clear c61b1
                                        try clear c61b2
                                        try clear c64
                                        try clear c64b0
                                        try clear p64
                                        try clear c65
                                        try clear c65b0
                                        try clear c66
                                        try clear c66b0
                                        try clear hcz14_0
                                        try clear hcz14_1
                                        try clear hcz14_2
                                        try clear hcz16_0
                                        try clear hcz16_1
                                        try clear hcz16_2
                                        try clear hcz20_0
                                        try clear hcz20_1
                                        try clear hcz20_2
                                        try clear hcz23_0
                                        try clear hcz23_1
                                        try clear hcz23_2
                                        try clear hcz30_0
                                        try clear hcz30_1
                                        try clear hcz30_2
                                        try clear hcz42_0
                                        try clear hcz42_1
                                        try clear hcz42_2
                                        try clear hcz43_0
                                        try clear hcz43_1
                                        try clear hcz43_2
                                        try clear hcz44_0
                                        try clear hcz44_1
                                        try clear hcz44_2
                                        try clear hcz50_0
                                        try clear hcz50_1
                                        try clear hcz50_2
                                        try clear hcz67_0
                                        try clear hcz67_1
                                        try clear hcz67_2
                                        try clear hcz71_0
                                        try clear hcz71_1
                                        try clear hcz71_2
                                        try clear hfz14_0
                                        try clear hfz14_1
                                        try clear hfz14_2
                                        try clear hfz16_0
                                        try clear hfz16_1
                                        try clear hfz16_2
                                        try clear hfz20_0
                                        try clear hfz20_1
                                        try clear hfz20_2
                                        try clear hfz23_0
                                        try clear hfz23_1
                                        try clear hfz23_2
                                        try clear hfz30_0
                                        try clear hfz30_1
                                        try clear hfz30_2
                                        try clear hfz42_0
                                        try clear hfz42_1
                                        try clear hfz42_2
                                        try clear hfz43_0
                                        try clear hfz43_1
                                        try clear hfz43_2
                                        try clear hfz44_0
                                        try clear hfz44_1
                                        try clear hfz44_2
                                        try clear hfz50_0
                                        try clear hfz50_1
                                        try clear hfz50_2
                                        try clear hfz67_0
                                        try clear hfz67_1
                                        try clear hfz67_2
                                        try clear hfz71_0
                                        try clear hfz71_1
                                        try clear hfz71_2
                                        try clear hx172_0
                                        try clear hx174_0
                                        try clear hx175_0
                                        try clear hx176_0
                                        try clear hx177_0
                                        try clear hx178_0
                                        try clear hx180_0
                                        try clear hx182_0
                                        try clear hx183_0
                                        try clear hx185_0
                                        try clear p1
                                        try clear p17
                                        try clear p172
                                        try clear p174
                                        try clear p175
                                        try clear p176
                                        try clear p177
                                        try clear p178
                                        try clear p180
                                        try clear p182
                                        try clear p183
                                        try clear p185
                                        try clear p2
                                        try clear p6
                                        try clear q1
                                        try clear q17
                                        try clear q172
                                        try clear q174
                                        try clear q175
                                        try clear q176
                                        try clear q177
                                        try clear q178
                                        try clear q180
                                        try clear q182
                                        try clear q183
                                        try clear q185
                                        obtain ⟨x12_6, rfl, HA, HK6, HO_7, BK165, HR178_0, HB⟩ := hrel
                                        cases gk with
                                        | zero => exact absurd HA.out (by simp [fountainlaw7_PrecodeOnes.l4])
                                        | succ k6 =>
                                          have H := HA.out
                                          clear HA
                                          simp only [fountainlaw7_PrecodeOnes.l4] at H
                                          replace H := Option.bind_eq_some_iff.mp H
                                          obtain ⟨t186, A720, H⟩ := H
                                          replace H : (if x12_6 < t186 then (if 0 ≤ x10_4 then (if x10_4 < (t169.length : Int) then (if 0 ≤ x12_6 then (if x12_6 < ((rd_L1 t169 x10_4).length : Int) then (if (rd (rd_L1 t169 x10_4) x12_6) = 0 then (some false) else (fountainlaw7_PrecodeOnes.l4 k6 t169 x10_4 (wrap64 (x12_6 + 1)) t161 t162 t163)) else (none)) else (none)) else (none)) else (none)) else (fountainlaw7_PrecodeOnes.l2 k6 t169 (wrap64 (x10_4 + 1)) t161 t162 t163)) = some r := H
                                          have A72 := Aside0.mk A720
                                          clear A720
                                          by_cases c73 : x12_6 < t186
                                          · rw [if_pos c73] at H
                                            have c73b0 : decide (x12_6 < t186) = true := decide_eq_true c73
                                            clear c73
                                            by_cases c74 : 0 ≤ x10_4
                                            · rw [if_pos c74] at H
                                              have c74b0 : decide (0 ≤ x10_4) = true := decide_eq_true c74
                                              clear c74
                                              by_cases c75 : x10_4 < (t169.length : Int)
                                              · rw [if_pos c75] at H
                                                have c75b0 : decide (x10_4 < (t169.length : Int)) = true := decide_eq_true c75
                                                clear c75
                                                by_cases c76 : 0 ≤ x12_6
                                                · rw [if_pos c76] at H
                                                  have c76b0 : decide (0 ≤ x12_6) = true := decide_eq_true c76
                                                  clear c76
                                                  by_cases c77 : x12_6 < ((rd_L1 t169 x10_4).length : Int)
                                                  · rw [if_pos c77] at H
                                                    have c77b0 : decide (x12_6 < ((rd_L1 t169 x10_4).length : Int)) = true := decide_eq_true c77
                                                    clear c77
                                                    by_cases c78 : (rd (rd_L1 t169 x10_4) x12_6) = 0
                                                    · rw [if_pos c78] at H
                                                      have c78b0 : ((rd (rd_L1 t169 x10_4) x12_6) == 0) = true := beq_iff_eq.mpr c78
                                                      have c78b1 : ((rd (rd_L1 t169 x10_4) x12_6) != 0) = false := bne_eq_false_iff_eq.mpr c78
                                                      clear c78
                                                      exact absurd ((Option.some.inj H).trans HRT.out) (by decide)
                                                    · rw [if_neg c78] at H
                                                      have c78b0 : ((rd (rd_L1 t169 x10_4) x12_6) == 0) = false := beq_eq_false_iff_ne.mpr c78
                                                      have c78b1 : ((rd (rd_L1 t169 x10_4) x12_6) != 0) = true := bne_iff_ne.mpr c78
                                                      have H' := Aside0.mk H
                                                      clear H
                                                      have hcz79_0 : wr.cell? ⟨gb165, 0, none⟩ = some (.int .i64 t161) := (blk_cell BK165.out 0).trans rfl
                                                      have hcz79_1 : wr.cell? ⟨gb165, 1, none⟩ = some (.int .i64 t162) := (blk_cell BK165.out 1).trans rfl
                                                      have hcz79_2 : wr.cell? ⟨gb165, 2, none⟩ = some (.int .i64 t163) := (blk_cell BK165.out 2).trans rfl
                                                      have hfz79_0 := blk_frozen BK165.out 0
                                                      have hfz79_1 := blk_frozen BK165.out 1
                                                      have hfz79_2 := blk_frozen BK165.out 2
                                                      go_wp2_with (first | ((with_reducible refine gate_callee (f := 23) rfl ?_); refine goesL_ (some 142) rfl rfl Try.func23 (by kernel_rfl) rfl #[.agg #[.int .i64 t161, .int .i64 t162, .int .i64 t163]] rfl (by (try simp only [List.map_toArray, List.map_cons, List.map_nil]); first | done | rfl | (simp only [List.length_drop, List.length_take]; rfl)) ?_; (with_reducible refine (params_Params_W.calls t161 t162 t163 t186 _ A72.out).mono ?_); rintro e w80 ⟨rfl, hb⟩; refine ⟨_, rfl, ?_⟩; have n0_ := Aside0.mk (Kd.S_below (by (with_reducible repeat (first | apply Kd.S_alloc | apply Kd.S_drewN | apply Kd.S_drew)); exact HO_7.out) hb); have n1_ := Aside0.mk (blk_below (g := gb165) (o := .cells #[.int .i64 t161, .int .i64 t162, .int .i64 t163] 24 (0, 0)) (by (with_reducible repeat (first | refine blk_drewN ?_ _ | refine blk_drew ?_ | refine blk_alloc ?_ _)); exact BK165.out) hb); have n2_ := Aside0.mk (Kd.C_below (by repeat (first | (with_reducible exact HR178_0.out) | (with_reducible refine Kd.C_alloc ?_ _) | (with_reducible refine Kd.C_drewN ?_ _) | (with_reducible refine Kd.C_drew ?_) | exact HR178_0.out)) hb); have n3_ := Aside0.mk (below_step (by repeat (first | (with_reducible first | exact HB.out | apply below_alloc | apply pw_below_drewN | apply below_drew1 | refine below_set ?_ GE165.out) | exact HB.out)) hb); clear HO_7; clear BK165; clear HR178_0; clear HB; have HO_7 := n0_; have BK165 := n1_; have HR178_0 := n2_; have HB := n3_; clear n0_ n1_ n2_ n3_; (try clear hb); (try clear hb2); (try clear hk); (try clear hi); have p187 : 0 ≤ (x10_4 : Int) := of_decide_eq_true (by first | (with_reducible assumption) | assumption); have q187 : x10_4 < (t169.length : Int) := of_decide_eq_true (by first | (with_reducible assumption) | assumption); obtain ⟨ad187, A187_0, c187_0, e187, hx187_0, hl187_0, hi187_0⟩ := at_L1 (Kd.S_reads' HO_7.out).2.2 x10_4 p187 q187; obtain rfl : ad178 = ad187 := (by injection e187); obtain ⟨ce187, hce187, hMe187, hcc187⟩ := Kd.S_get HO_7.out [] x10_4 p187 (by first | exact q187 | exact of_decide_eq_true (by first | (with_reducible assumption) | assumption) | (have e_ := (Kd.S_reads' HO_7.out).1; omega)); obtain ⟨ve187_0, rfl, ge187_0⟩ := hMe187; have hv187_0 := hcc187 0 _ rfl; rw [Nat.add_zero, show ((Kd.slice 5 (Kd.int .u8))).sz = 1 from rfl, Nat.mul_one] at hv187_0; replace hv187_0 := Option.some.inj (hv187_0.symm.trans hx187_0); rw [hv187_0] at ge187_0; have HL187_0 := Aside0.mk (show Kd.R (Kd.int .u8) 5 _ _ _ _ (rd_L1 t169 x10_4) from ge187_0); clear hv187_0 ge187_0; clear hcc187 hce187; have HR187_0 := Aside0.mk hi187_0; have HC187_0 := Aside0.mk hl187_0; clear hi187_0 hl187_0; replace p187 := eq_true p187; replace q187 := eq_true q187; have p188 : 0 ≤ (x12_6 : Int) := of_decide_eq_true (by first | (with_reducible assumption) | assumption); have q188 : x12_6 < ((rd_L1 t169 x10_4).length : Int) := of_decide_eq_true (by first | (with_reducible assumption) | assumption); obtain ⟨ad188, e188, hx188_0⟩ := Kd.at_int (by repeat (first | (with_reducible exact HR187_0.out) | (with_reducible refine Kd.C_alloc ?_ _) | (with_reducible refine Kd.C_drewN ?_ _) | (with_reducible refine Kd.C_drew ?_) | exact HR187_0.out)) x12_6 p188 q188; cases e188; replace p188 := eq_true p188; replace q188 := eq_true q188))
                                                      go_roundg k6
                                                      case measure => have := HJ2.out; have := HJ10.out; have := HK3.out; have := HK4.out; have := HK5.out; have := HK6.out; omega
                                                      case rel => exact ⟨(wrap64 (x12_6 + 1)), (by first | rfl | (simp; done) | (simp [*]; done)), H', ⟨by have := HJ2.out; have := HJ10.out; have := HK3.out; have := HK4.out; have := HK5.out; have := HK6.out; omega⟩, ⟨by (with_reducible repeat (first | apply Kd.S_alloc | apply Kd.S_drewN | apply Kd.S_drew)); exact HO_7.out⟩, ⟨by (with_reducible repeat (first | refine blk_drewN ?_ _ | refine blk_drew ?_ | refine blk_alloc ?_ _)); exact BK165.out⟩, ⟨by repeat (first | (with_reducible exact HR178_0.out) | (with_reducible refine Kd.C_alloc ?_ _) | (with_reducible refine Kd.C_drewN ?_ _) | (with_reducible refine Kd.C_drew ?_) | exact HR178_0.out)⟩, ⟨by repeat (first | (with_reducible first | exact HB.out | apply below_alloc | apply pw_below_drewN | apply below_drew1 | refine below_set ?_ GE165.out) | exact HB.out)⟩⟩
                                                  · rw [if_neg c77] at H
                                                    exact absurd H (by simp)
                                                · rw [if_neg c76] at H
                                                  exact absurd H (by simp)
                                              · rw [if_neg c75] at H
                                                exact absurd H (by simp)
                                            · rw [if_neg c74] at H
                                              exact absurd H (by simp)
                                          · rw [if_neg c73] at H
                                            have c73b0 : decide (x12_6 < t186) = false := decide_eq_false c73
                                            clear c73
                                            have H' := Aside0.mk H
                                            clear H
                                            have hcz81_0 : wr.cell? ⟨gb165, 0, none⟩ = some (.int .i64 t161) := (blk_cell BK165.out 0).trans rfl
                                            have hcz81_1 : wr.cell? ⟨gb165, 1, none⟩ = some (.int .i64 t162) := (blk_cell BK165.out 1).trans rfl
                                            have hcz81_2 : wr.cell? ⟨gb165, 2, none⟩ = some (.int .i64 t163) := (blk_cell BK165.out 2).trans rfl
                                            have hfz81_0 := blk_frozen BK165.out 0
                                            have hfz81_1 := blk_frozen BK165.out 1
                                            have hfz81_2 := blk_frozen BK165.out 2
                                            go_wp2_with (first | ((with_reducible refine gate_callee (f := 23) rfl ?_); refine goesL_ (some 142) rfl rfl Try.func23 (by kernel_rfl) rfl #[.agg #[.int .i64 t161, .int .i64 t162, .int .i64 t163]] rfl (by (try simp only [List.map_toArray, List.map_cons, List.map_nil]); first | done | rfl | (simp only [List.length_drop, List.length_take]; rfl)) ?_; (with_reducible refine (params_Params_W.calls t161 t162 t163 t186 _ A72.out).mono ?_); rintro e w82 ⟨rfl, hb⟩; refine ⟨_, rfl, ?_⟩; have n0_ := Aside0.mk (Kd.S_below (by (with_reducible repeat (first | apply Kd.S_alloc | apply Kd.S_drewN | apply Kd.S_drew)); exact HO_7.out) hb); have n1_ := Aside0.mk (blk_below (g := gb165) (o := .cells #[.int .i64 t161, .int .i64 t162, .int .i64 t163] 24 (0, 0)) (by (with_reducible repeat (first | refine blk_drewN ?_ _ | refine blk_drew ?_ | refine blk_alloc ?_ _)); exact BK165.out) hb); have n2_ := Aside0.mk (Kd.C_below (by repeat (first | (with_reducible exact HR178_0.out) | (with_reducible refine Kd.C_alloc ?_ _) | (with_reducible refine Kd.C_drewN ?_ _) | (with_reducible refine Kd.C_drew ?_) | exact HR178_0.out)) hb); have n3_ := Aside0.mk (below_step (by repeat (first | (with_reducible first | exact HB.out | apply below_alloc | apply pw_below_drewN | apply below_drew1 | refine below_set ?_ GE165.out) | exact HB.out)) hb); clear HO_7; clear BK165; clear HR178_0; clear HB; have HO_7 := n0_; have BK165 := n1_; have HR178_0 := n2_; have HB := n3_; clear n0_ n1_ n2_ n3_; (try clear hb); (try clear hb2); (try clear hk); (try clear hi)))
                                            go_roundg k6
                                            case measure => have := HJ2.out; have := HJ10.out; have := HK3.out; have := HK4.out; have := HK5.out; have := HK6.out; omega
                                            case rel => exact ⟨(wrap64 (x10_4 + 1)), (by first | rfl | (simp; done) | (simp [*]; done)), H', ⟨by have := HJ2.out; have := HJ10.out; have := HK3.out; have := HK4.out; have := HK5.out; have := HK6.out; omega⟩, ⟨by (with_reducible repeat (first | apply Kd.S_alloc | apply Kd.S_drewN | apply Kd.S_drew)); exact HO_7.out⟩, ⟨by (with_reducible repeat (first | refine blk_drewN ?_ _ | refine blk_drew ?_ | refine blk_alloc ?_ _)); exact BK165.out⟩, ⟨by repeat (first | (with_reducible first | exact HB.out | apply below_alloc | apply pw_below_drewN | apply below_drew1 | refine below_set ?_ GE165.out) | exact HB.out)⟩⟩
                              · rw [if_neg c49] at H
                                have c49b0 : (((rd_L1 t169 x10_4).length : Int) == t179) = false := beq_eq_false_iff_ne.mpr c49
                                have c49b1 : (((rd_L1 t169 x10_4).length : Int) != t179) = true := bne_iff_ne.mpr c49
                                exact absurd ((Option.some.inj H).trans HRT.out) (by decide)
                            · rw [if_neg c47] at H
                              exact absurd H (by simp)
                          · rw [if_neg c46] at H
                            exact absurd H (by simp)
                        · rw [if_neg c45] at H
                          have c45b0 : decide (x10_4 < t163) = false := decide_eq_false c45
                          clear c45
                          obtain rfl := Option.some.inj H
                          have hcz83_0 : wr.cell? ⟨gb165, 0, none⟩ = some (.int .i64 t161) := (blk_cell BK165.out 0).trans rfl
                          have hcz83_1 : wr.cell? ⟨gb165, 1, none⟩ = some (.int .i64 t162) := (blk_cell BK165.out 1).trans rfl
                          have hcz83_2 : wr.cell? ⟨gb165, 2, none⟩ = some (.int .i64 t163) := (blk_cell BK165.out 2).trans rfl
                          have hfz83_0 := blk_frozen BK165.out 0
                          have hfz83_1 := blk_frozen BK165.out 1
                          have hfz83_2 := blk_frozen BK165.out 2
                          go_wp2
                          go_ret
                          exact ⟨by first | rfl | (simp [errW_none, errW_some] <;> rfl) | (simp [*, errW_none, errW_some] <;> rfl), by repeat (first | (with_reducible first | exact HB.out | apply below_alloc | apply pw_below_drewN | apply below_drew1 | refine below_set ?_ GE165.out) | exact HB.out)⟩

/-- THE ONE PURE STATEMENT of fountainlaw7_PrecodeOnes: yours. -/
def fountainlaw7_PrecodeOnes.Pure : Prop := ∀ (a0 : Int), (Lit.int .i64 a0).wf = true → ∃ k, fountainlaw7_PrecodeOnes.f k a0 = some true
theorem fountainlaw7_PrecodeOnes.walk (P : fountainlaw7_PrecodeOnes.Pure) (a0 : Int) (w : World) (w0 : (Lit.int .i64 a0).wf = true) :
    Calls Try.prog 3 #[.int .i64 a0] w fun e w' => e = .returned (.bool true) ∧ Below w.heap.size w w' := by
  obtain ⟨k, h⟩ := P a0 w0
  refine (fountainlaw7_PrecodeOnes.calls k a0 true w h rfl).mono ?_
  rintro e w' ⟨rfl, hd⟩
  exact ⟨rfl, hd⟩

end Go.Proofs.Ytbfhinfblepidaa.PPrecodeOnes
