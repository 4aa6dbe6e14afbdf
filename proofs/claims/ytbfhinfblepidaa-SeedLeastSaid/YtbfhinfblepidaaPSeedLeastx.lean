/- Written by a program (this session's own): functions that the law reaches, as plain Lean functions, each with the proof that the code comes to it. No conditions but those that stand in the theorems. -/
import Derived.Test.YtbfhinfblepidaaPSolveTellsx
import Derived.Test.YtbfhinfblepidaaPSeedTellsx
import Derived.Test.YtbfhinfblepidaaProg
import Derived.Below
import Derived.Deep.Draws
import Derived.Deep.AppendLies
import Derived.Maps.AppendAt
import Derived.OwnWalk
import Derived.Laws.BytesArg
import Derived.Laws.MakeOwn
import Derived.Laws.OwnMore
import Derived.Deep.OwnRows
import Derived.Tactics
import Derived.Lib.ConvBytes
import Derived.Laws.Slices
import Derived.WalkKit
import Derived.KernelRfl
import Derived.RowKit3
import Derived.Deep.LoopGhost
import Derived.Deep.QuietTactic
import Derived.BigQuiet
import Derived.WideLaws
import Derived.Deep.DeepCutAuto
import Derived.Deep.CutBlock
import Derived.Deep.RegionHeld3
import Derived.Laws.Rows
import Derived.Lib.AppendStr
import Derived.ArgAppend
import Derived.Laws.IdiomCopy
import Derived.OrdersHeld
import Derived.Laws.BitsLemmas
import Derived.RowKit
import Derived.Test.YtbfhinfblepidaaWWords
import Derived.Test.YtbfhinfblepidaaWLast
import Derived.Test.YtbfhinfblepidaaWTab
import Derived.Test.YtbfhinfblepidaaWFour
import Derived.Test.YtbfhinfblepidaaWQPut
import Derived.Test.YtbfhinfblepidaaWApart
import Derived.Test.YtbfhinfblepidaaWArr
import Derived.Test.YtbfhinfblepidaaWZeros
import Derived.Test.YtbfhinfblepidaaWFoot
import Derived.Test.YtbfhinfblepidaaWKept
import Derived.Test.YtbfhinfblepidaaWShare
import Derived.Test.YtbfhinfblepidaaWN
import Derived.Test.YtbfhinfblepidaaWFootNe
import Derived.Test.YtbfhinfblepidaaWAt
import Derived.Test.YtbfhinfblepidaaWEqStruct
import Derived.Test.YtbfhinfblepidaaWRepsOne
import Derived.Test.YtbfhinfblepidaaWInv
import Derived.Test.YtbfhinfblepidaaWInvWords
import Derived.Test.YtbfhinfblepidaaWGuard
import Derived.Test.YtbfhinfblepidaaWNEv
import Derived.Test.YtbfhinfblepidaaWMore
import Derived.Test.YtbfhinfblepidaaPq
import Derived.Test.YtbfhinfblepidaaPz
namespace Go.Proofs.Ytbfhinfblepidaa.PSeedLeast
open Go.RowKit Go.Proofs.YtbfhinfblepidaaW.PrintWords Go.Proofs.YtbfhinfblepidaaW.PrintLast Go.Proofs.YtbfhinfblepidaaW.PrintMore Go.Proofs.Ytbfhinfblepidaa.PSolveTells Go.Proofs.Ytbfhinfblepidaa.PSeedTells
attribute [local go_sem] max2_int min2_int max_two min_two max_three min_three max_four min_four   -- for this text's walks alone
set_option linter.unusedVariables false
set_option linter.unusedSimpArgs false



-- the values' own types

end Go.Proofs.Ytbfhinfblepidaa.PSeedLeast
namespace Go.Proofs.Ytbfhinfblepidaa.PSeedLeast
open Go.RowKit Go.Proofs.YtbfhinfblepidaaW.PrintWords Go.Proofs.YtbfhinfblepidaaW.PrintLast Go.Proofs.YtbfhinfblepidaaW.PrintMore Go.Proofs.Ytbfhinfblepidaa.PSolveTells Go.Proofs.Ytbfhinfblepidaa.PSeedTells
attribute [local go_sem] max2_int min2_int max_two min_two max_three min_three max_four min_four   -- for this text's walks alone
set_option linter.unusedVariables false
set_option linter.unusedSimpArgs false

/-! ### fountainlaw9_SeedLeast: function 10 -/
mutual
noncomputable def fountainlaw9_SeedLeast.j0 : Nat → Int → Int → Bool → Bool → Option (Bool)
 | 0, _, _, _, _ => none
 | k + 1, x0, x1, x5, x25 => if x25 = true then (some x5) else ((seed_Find.f k x0).bind fun bt384 => ((fountainlaw9_num.f bt384.2).bind fun t386 => (if t386 = 0 then (fountainlaw9_SeedLeast.l0 k x0 x1 bt384.1 ([] : List Int) 0) else ((fountainlaw9_num.f bt384.2).bind fun t387 => (some (t387 == 5))))))
noncomputable def fountainlaw9_SeedLeast.l0 : Nat → Int → Int → Int → List Int → Int → Option (Bool)
 | 0, _, _, _, _, _ => none
 | k + 1, x0, x1, x6, x8, x9 => if x9 < x0 then (if x8.length < 17592186044416 then (fountainlaw9_SeedLeast.l0 k x0 x1 x6 (x8 ++ [x9]) (wrap64 (x9 + 1))) else (none)) else ((fountainref1_L.f x0).bind fun t391 => (if x6 < 0 then (fountainlaw9_SeedLeast.j2 k x0 x1 x6 x8 t391 true) else (if x6 > 255 then (fountainlaw9_SeedLeast.j2 k x0 x1 x6 x8 t391 true) else ((fountainref1_Matrix.f k x0 x6 x8).bind fun t392 => ((Pz.rrank.f t391 t392).bind fun t395 => (fountainlaw9_SeedLeast.j2 k x0 x1 x6 x8 t391 (t395 != t391)))))))
noncomputable def fountainlaw9_SeedLeast.j2 : Nat → Int → Int → Int → List Int → Int → Bool → Option (Bool)
 | 0, _, _, _, _, _, _ => none
 | k + 1, x0, x1, x6, x8, x10, x64 => if x64 = true then (some false) else (if x6 = 0 then (some true) else ((fountainref1_Matrix.f k x0 (Int.tmod x1 x6) x8).bind fun t396 => ((Pz.rrank.f x10 t396).bind fun t399 => (some (decide (t399 < x10))))))
end
noncomputable def fountainlaw9_SeedLeast.f (k : Nat) (a0 : Int) (a1 : Int) : Option (Bool) := (fountainlaw9_alive.f k).bind fun t383 => (if t383 = true then (if a0 < 1 then (fountainlaw9_SeedLeast.j0 k a0 a1 t383 true) else (if a0 > 20 then (fountainlaw9_SeedLeast.j0 k a0 a1 t383 true) else (fountainlaw9_SeedLeast.j0 k a0 a1 t383 (decide (a1 < 0))))) else (fountainlaw9_SeedLeast.j0 k a0 a1 t383 true))
theorem fountainlaw9_SeedLeast.mono_l : ∀ k, (∀ y0 y1 y2 y3, LeO (fountainlaw9_SeedLeast.j0 k y0 y1 y2 y3) (fountainlaw9_SeedLeast.j0 (k + 1) y0 y1 y2 y3)) ∧ (∀ y0 y1 y2 y3 y4, LeO (fountainlaw9_SeedLeast.l0 k y0 y1 y2 y3 y4) (fountainlaw9_SeedLeast.l0 (k + 1) y0 y1 y2 y3 y4)) ∧ (∀ y0 y1 y2 y3 y4 y5, LeO (fountainlaw9_SeedLeast.j2 k y0 y1 y2 y3 y4 y5) (fountainlaw9_SeedLeast.j2 (k + 1) y0 y1 y2 y3 y4 y5))
 | 0 => ⟨fun _ _ _ _ r h => by simp [fountainlaw9_SeedLeast.j0] at h, fun _ _ _ _ _ r h => by simp [fountainlaw9_SeedLeast.l0] at h, fun _ _ _ _ _ _ r h => by simp [fountainlaw9_SeedLeast.j2] at h⟩
 | k + 1 => by
  obtain ⟨ih0, ih1, ih2⟩ := fountainlaw9_SeedLeast.mono_l k
  refine ⟨?_, ?_, ?_⟩
  ·intro y0 y1 y2 y3
   unfold fountainlaw9_SeedLeast.j0
   repeat' first
   | (with_reducible exact ih0 _ _ _ _)
   | (with_reducible exact ih1 _ _ _ _ _)
   | (with_reducible exact ih2 _ _ _ _ _ _)
   | (with_reducible exact fountainlaw9_alive.mono _)
   | (with_reducible exact fountainref1_Matrix.mono _ _ _ _)
   | (with_reducible exact seed_Find.mono _ _)
   | (with_reducible exact LeO.refl _)
   | (with_reducible exact LeO.none _)
   | (with_reducible refine LeO.ite ?_ ?_)
   | (with_reducible refine LeO.bind ?_ (fun _ => ?_))
   | exact ih0 _ _ _ _
   | exact ih1 _ _ _ _ _
   | exact ih2 _ _ _ _ _ _
   | exact fountainlaw9_alive.mono _
   | exact fountainref1_Matrix.mono _ _ _ _
   | exact seed_Find.mono _ _
   | exact LeO.none _
   | refine LeO.ite ?_ ?_
   | refine LeO.bind ?_ (fun _ => ?_)
  ·intro y0 y1 y2 y3 y4
   unfold fountainlaw9_SeedLeast.l0
   repeat' first
   | (with_reducible exact ih0 _ _ _ _)
   | (with_reducible exact ih1 _ _ _ _ _)
   | (with_reducible exact ih2 _ _ _ _ _ _)
   | (with_reducible exact fountainlaw9_alive.mono _)
   | (with_reducible exact fountainref1_Matrix.mono _ _ _ _)
   | (with_reducible exact seed_Find.mono _ _)
   | (with_reducible exact LeO.refl _)
   | (with_reducible exact LeO.none _)
   | (with_reducible refine LeO.ite ?_ ?_)
   | (with_reducible refine LeO.bind ?_ (fun _ => ?_))
   | exact ih0 _ _ _ _
   | exact ih1 _ _ _ _ _
   | exact ih2 _ _ _ _ _ _
   | exact fountainlaw9_alive.mono _
   | exact fountainref1_Matrix.mono _ _ _ _
   | exact seed_Find.mono _ _
   | exact LeO.none _
   | refine LeO.ite ?_ ?_
   | refine LeO.bind ?_ (fun _ => ?_)
  ·intro y0 y1 y2 y3 y4 y5
   unfold fountainlaw9_SeedLeast.j2
   repeat' first
   | (with_reducible exact ih0 _ _ _ _)
   | (with_reducible exact ih1 _ _ _ _ _)
   | (with_reducible exact ih2 _ _ _ _ _ _)
   | (with_reducible exact fountainlaw9_alive.mono _)
   | (with_reducible exact fountainref1_Matrix.mono _ _ _ _)
   | (with_reducible exact seed_Find.mono _ _)
   | (with_reducible exact LeO.refl _)
   | (with_reducible exact LeO.none _)
   | (with_reducible refine LeO.ite ?_ ?_)
   | (with_reducible refine LeO.bind ?_ (fun _ => ?_))
   | exact ih0 _ _ _ _
   | exact ih1 _ _ _ _ _
   | exact ih2 _ _ _ _ _ _
   | exact fountainlaw9_alive.mono _
   | exact fountainref1_Matrix.mono _ _ _ _
   | exact seed_Find.mono _ _
   | exact LeO.none _
   | refine LeO.ite ?_ ?_
   | refine LeO.bind ?_ (fun _ => ?_)
theorem fountainlaw9_SeedLeast.mono : ∀ a0 a1 k, LeO (fountainlaw9_SeedLeast.f k a0 a1) (fountainlaw9_SeedLeast.f (k + 1) a0 a1) := by
 intro a0 a1 k
 obtain ⟨ih0, ih1, ih2⟩ := fountainlaw9_SeedLeast.mono_l k
 unfold fountainlaw9_SeedLeast.f
 repeat' first
  | (with_reducible exact ih0 _ _ _ _)
  | (with_reducible exact ih1 _ _ _ _ _)
  | (with_reducible exact ih2 _ _ _ _ _ _)
  | (with_reducible exact fountainlaw9_alive.mono _)
  | (with_reducible exact fountainref1_Matrix.mono _ _ _ _)
  | (with_reducible exact seed_Find.mono _ _)
  | (with_reducible exact LeO.refl _)
  | (with_reducible exact LeO.none _)
  | (with_reducible refine LeO.ite ?_ ?_)
  | (with_reducible refine LeO.bind ?_ (fun _ => ?_))
  | exact ih0 _ _ _ _
  | exact ih1 _ _ _ _ _
  | exact ih2 _ _ _ _ _ _
  | exact fountainlaw9_alive.mono _
  | exact fountainref1_Matrix.mono _ _ _ _
  | exact seed_Find.mono _ _
  | exact LeO.none _
  | refine LeO.ite ?_ ?_
  | refine LeO.bind ?_ (fun _ => ?_)
set_option maxHeartbeats 8000000 in
set_option maxRecDepth 100000 in
theorem fountainlaw9_SeedLeast.calls (k : Nat) (a0 : Int) (a1 : Int) (r : Bool) (w : World) (h : fountainlaw9_SeedLeast.f k a0 a1 = some r) (hrt : r = true) :
 Calls Try.prog 10 #[.int .i64 a0, .int .i64 a1] w fun e w' => e = .returned (.bool r) ∧ Below w.heap.size w w' := by
 have HRT := Aside0.mk hrt
 clear hrt
 have HB := Aside0.mk (Below.refl w.heap.size w)
 have H : ((fountainlaw9_alive.f k).bind fun t383 => (if t383 = true then (if a0 < 1 then (fountainlaw9_SeedLeast.j0 k a0 a1 t383 true) else (if a0 > 20 then (fountainlaw9_SeedLeast.j0 k a0 a1 t383 true) else (fountainlaw9_SeedLeast.j0 k a0 a1 t383 (decide (a1 < 0))))) else (fountainlaw9_SeedLeast.j0 k a0 a1 t383 true))) = some r := h
 clear h
 replace H := Option.bind_eq_some_iff.mp H
 obtain ⟨t383, A30, H⟩ := H
 replace H : (if t383 = true then (if a0 < 1 then (fountainlaw9_SeedLeast.j0 k a0 a1 t383 true) else (if a0 > 20 then (fountainlaw9_SeedLeast.j0 k a0 a1 t383 true) else (fountainlaw9_SeedLeast.j0 k a0 a1 t383 (decide (a1 < 0))))) else (fountainlaw9_SeedLeast.j0 k a0 a1 t383 true)) = some r := H
 have A3 := Aside0.mk A30
 clear A30
 have HC4 := Aside0.mk H
 clear H
 go_enter Try.func10, Try.ntmps10
 go_upto_region 2 with (first | ((with_reducible refine gate_callee (f := 41) rfl ?_); refine goesL_ (some 11) rfl rfl Try.func41 (by kernel_rfl) rfl #[] rfl (by (try simp only [List.map_toArray, List.map_cons, List.map_nil]); first | done | rfl | (simp only [List.length_drop, List.length_take]; rfl)) ?_; (with_reducible refine (fountainlaw9_alive.calls k  t383 _ A3.out).mono ?_); rintro e w5 ⟨rfl, hb⟩; refine ⟨_, rfl, ?_⟩; have n0_ := Aside0.mk (belt hb); clear HB; have HB := n0_; clear n0_; (try clear hb); (try clear hb2); (try clear hk); (try clear hi)))
 (try simp only [Act.put, List.setIfInBounds_toArray, List.set_cons_zero, List.set_cons_succ])
 go_cut [25] (fun v25 wc => ∃ (kq : Nat) (x25_3 : Bool), v25 = .bool x25_3 ∧ Aside0 (fountainlaw9_SeedLeast.j0 kq a0 a1 t383 x25_3 = some r) ∧ Aside0 (kq ≤ k) ∧ Aside0 (Below w.heap.size w wc))
 case first =>
  have H := HC4.out
  clear HC4
  by_cases c6 : t383 = true
  ·subst c6
   have H1 : (if a0 < 1 then (fountainlaw9_SeedLeast.j0 k a0 a1 true true) else (if a0 > 20 then (fountainlaw9_SeedLeast.j0 k a0 a1 true true) else (fountainlaw9_SeedLeast.j0 k a0 a1 true (decide (a1 < 0))))) = some r := by rw [if_pos rfl] at H; exact H
   clear H
   have H := H1
   clear H1
   by_cases c7 : a0 < 1
   ·rw [if_pos c7] at H
    have c7b0 : decide (a0 < 1) = true := decide_eq_true c7
    clear c7
    (first | rw [c7b0] | (simp only [i64_w, i32_w]; rw [c7b0]) | skip)
    have H' := Aside0.mk H
    clear H
    go_wp2
    go_meet
    case rel => exact ⟨_, (true), (by first | rfl | (simp; done) | (simp [*]; done)), H', ⟨by first | omega | exact Nat.le_refl _⟩, ⟨bel⟩⟩
   ·rw [if_neg c7] at H
    have c7b0 : decide (a0 < 1) = false := decide_eq_false c7
    clear c7
    (first | rw [c7b0] | (simp only [i64_w, i32_w]; rw [c7b0]) | skip)
    by_cases c8 : a0 > 20
    ·rw [if_pos c8] at H
     have c8b0 : decide (20 < a0) = true := decide_eq_true c8
     clear c8
     have H' := Aside0.mk H
     clear H
     go_wp2
     go_meet
     case rel => exact ⟨_, (true), (by first | rfl | (simp; done) | (simp [*]; done)), H', ⟨by first | omega | exact Nat.le_refl _⟩, ⟨bel⟩⟩
    ·rw [if_neg c8] at H
     have c8b0 : decide (20 < a0) = false := decide_eq_false c8
     clear c8
     have H' := Aside0.mk H
     clear H
     go_wp2
     go_meet
     case rel => exact ⟨_, (decide (a1 < 0)), (by first | rfl | (simp; done) | (simp [*]; done)), H', ⟨by first | omega | exact Nat.le_refl _⟩, ⟨bel⟩⟩
  ·replace c6 := Bool.eq_false_iff.mpr c6
   subst c6
   have H1 : (fountainlaw9_SeedLeast.j0 k a0 a1 false true) = some r := by rw [if_neg (show ¬ (false = true) by decide)] at H; exact H
   clear H
   have H := H1
   clear H1
   have H' := Aside0.mk H
   clear H
   go_wp2
   go_meet
   case rel => exact ⟨_, (true), (by first | rfl | (simp; done) | (simp [*]; done)), H', ⟨by first | omega | exact Nat.le_refl _⟩, ⟨bel⟩⟩
 case rest =>
  clear HC4
  try clear c1
  try clear p2
  try clear c4
  try clear c6
  try clear c7
  try clear c7b0
  try clear c8
  try clear c8b0
  obtain ⟨kq, x25_3, rfl, HA, HJ3, HB⟩ := hcut
  cases kq with
  | zero => exact absurd HA.out (by simp [fountainlaw9_SeedLeast.j0])
  | succ kj3 =>
   have H := HA.out
   clear HA
   simp only [fountainlaw9_SeedLeast.j0] at H
   by_cases c9 : x25_3 = true
   ·subst c9
    have H1 : (some t383) = some r := by rw [if_pos rfl] at H; exact H
    clear H
    have H := H1
    clear H1
    obtain rfl := Option.some.inj H
    go_wp2
    go_ret
    exact ⟨by first | rfl | (simp [errW_none, errW_some] <;> rfl) | (simp [*, errW_none, errW_some] <;> rfl), bel⟩
   ·replace c9 := Bool.eq_false_iff.mpr c9
    subst c9
    have H1 : ((seed_Find.f kj3 a0).bind fun bt384 => ((fountainlaw9_num.f bt384.2).bind fun t386 => (if t386 = 0 then (fountainlaw9_SeedLeast.l0 kj3 a0 a1 bt384.1 ([] : List Int) 0) else ((fountainlaw9_num.f bt384.2).bind fun t387 => (some (t387 == 5)))))) = some r := by rw [if_neg (show ¬ (false = true) by decide)] at H; exact H
    clear H
    have H := H1
    clear H1
    replace H := Option.bind_eq_some_iff.mp H
    obtain ⟨⟨t384, t385⟩, A100, H⟩ := H
    replace H : ((fountainlaw9_num.f t385).bind fun t386 => (if t386 = 0 then (fountainlaw9_SeedLeast.l0 kj3 a0 a1 t384 ([] : List Int) 0) else ((fountainlaw9_num.f t385).bind fun t387 => (some (t387 == 5))))) = some r := H
    have A10 := Aside0.mk A100
    clear A100
    replace H := Option.bind_eq_some_iff.mp H
    obtain ⟨t386, A110, H⟩ := H
    replace H : (if t386 = 0 then (fountainlaw9_SeedLeast.l0 kj3 a0 a1 t384 ([] : List Int) 0) else ((fountainlaw9_num.f t385).bind fun t387 => (some (t387 == 5)))) = some r := H
    have A11 := Aside0.mk A110
    clear A110
    by_cases c12 : t386 = 0
    ·rw [if_pos c12] at H
     have c12b0 : (t386 == 0) = true := beq_iff_eq.mpr c12
     have c12b1 : (t386 != 0) = false := bne_eq_false_iff_eq.mpr c12
     clear c12
     have H' := Aside0.mk H
     clear H
     go_wp2_with (first | ((with_reducible refine gate_callee (f := 42) rfl ?_); refine goesL_ (some 29) rfl rfl Try.func42 (by kernel_rfl) rfl #[.int .i64 a0] rfl (by (try simp only [List.map_toArray, List.map_cons, List.map_nil]); first | done | rfl | (simp only [List.length_drop, List.length_take]; rfl)) ?_; (with_reducible refine (seed_Find.calls kj3 a0 t384 t385 _ A10.out).mono ?_); rintro e w13 ⟨rfl, hb⟩; refine ⟨_, rfl, ?_⟩; have n0_ := Aside0.mk (belt hb); clear HB; have HB := n0_; clear n0_; (try clear hb); (try clear hb2); (try clear hk); (try clear hi)) | ((with_reducible refine gate_callee (f := 44) rfl ?_); refine goesL_ (some 33) rfl rfl Try.func44 (by kernel_rfl) rfl #[.int .i64 t385] rfl (by (try simp only [List.map_toArray, List.map_cons, List.map_nil]); first | done | rfl | (simp only [List.length_drop, List.length_take]; rfl)) ?_; (with_reducible refine (fountainlaw9_num.calls t385 t386 _ A11.out).mono ?_); rintro e w' ⟨rfl, ⟨nd, rfl⟩⟩; refine ⟨_, rfl, ?_⟩))
     go_loopg [8, 9] kj3 (fun kq v8 v9 w' => ∃ (x8_2 : List Int) (x9_2 : Int), v9 = .int .i64 x9_2 ∧ Aside0 (fountainlaw9_SeedLeast.l0 kq a0 a1 t384 x8_2 x9_2 = some r) ∧ Aside0 (kq ≤ kj3) ∧ Aside0 (Kd.R (Kd.int .i64) 3 w' w.heap.size (fun _ => True) v8 x8_2) ∧ Aside0 (Below w.heap.size w w'))
     case atStart => exact ⟨(([] : List Int)), (0), (by first | rfl | (simp; done) | (simp [*]; done)), H', ⟨Nat.le_refl _⟩, ⟨by first | exact Kd.R_nil _ _ _ _ _ | exact Kd.N_nil _ _ _ _ _ | exact Kd.V_nil _ _ _ _ _ | exact Kd.Q_nil _ _ _ _ _ | exact Kd.S_nil _ _ _ _ _⟩, ⟨bel⟩⟩
     case round =>
      clear H'
      try clear c1
      try clear p2
      try clear c4
      try clear c6
      try clear c7
      try clear c7b0
      try clear c8
      try clear c8b0
      try clear c9
      try clear c10
      try clear c12
      try clear c12b0
      try clear c12b1
      try clear p2
      obtain ⟨x8_2, x9_2, rfl, HA, HK2, HO_8, HB⟩ := hrel
      cases gk with
      | zero => exact absurd HA.out (by simp [fountainlaw9_SeedLeast.l0])
      | succ k2 =>
       have H := HA.out
       clear HA
       simp only [fountainlaw9_SeedLeast.l0] at H
       by_cases c14 : x9_2 < a0
       ·rw [if_pos c14] at H
        have c14b0 : decide (x9_2 < a0) = true := decide_eq_true c14
        clear c14
        by_cases c15 : x8_2.length < 17592186044416
        ·rw [if_pos c15] at H
         have LMc15 := Aside0.mk c15
         clear c15
         obtain ⟨y388, hy388⟩ : ∃ y_ : List Int, y_ = (x8_2 ++ [x9_2]) := ⟨_, rfl⟩
         replace H : (fountainlaw9_SeedLeast.l0 k2 a0 a1 t384 y388 (wrap64 (x9_2 + 1))) = some r := by first | (rw [hy388]; with_reducible exact H) | (have H2_ := (Option.bind_some _ _).symm.trans H; rw [hy388]; with_reducible exact H2_) | (have H2_ := (Option.bind_some _ _).symm.trans H; with_reducible exact H2_) | with_reducible exact H | (rw [hy388]; exact H) | exact H
         have Ny388 := Aside0.mk hy388
         clear hy388
         have H' := Aside0.mk H
         clear H
         go_wp2_with (first | ((with_reducible refine gate_builtin (b := .append) (xs := #[.tmp 43, .tmp 45]) rfl ?_); at_builtin; refine Kd.R_append (Kd.int .i64) (w0 := w) w.heap.size rfl (.tmp 43) (.tmp 45) 51 3 (.int .i64 0) 8 rfl Try.underlying51 info3 rfl (by decide) (by omega) u8 x8_2 x9_2 [.int .i64 x9_2] (fun _ => True) (fun _ => False) rfl rfl ?aP (fun _ hk => hk.elim) ?aF ?aO ?aB ?aS ?aL ?_; (case aP => exact rfl); (case aB => exact bel); (case aF => exact (fun _ _ => trivial)); (case aO => exact (R_g HO_8.out)); (case aS => exact bels); (case aL => have := LMc15.out; omega); intro v389 w16 ho hb hg hat; rw [← Ny388.out] at ho; have n0_ := Aside0.mk (hb); have n1_ := Aside0.mk (ho); clear HB; clear HO_8; have HB := n0_; have HO390 := n1_; clear n0_ n1_; clear ho hb hg hat))
         go_roundg k2
         case measure => have := HJ3.out; have := HK2.out; omega
         case rel => exact ⟨(y388), (wrap64 (x9_2 + 1)), (by first | rfl | (simp; done) | (simp [*]; done)), H', ⟨by have := HJ3.out; have := HK2.out; omega⟩, ⟨by (with_reducible repeat (first | apply Kd.R_alloc | apply Kd.R_drewN | apply Kd.R_drew)); exact HO390.out⟩, ⟨bel⟩⟩
        ·rw [if_neg c15] at H
         exact absurd H (by simp)
       ·rw [if_neg c14] at H
        have c14b0 : decide (x9_2 < a0) = false := decide_eq_false c14
        clear c14
        replace H := Option.bind_eq_some_iff.mp H
        obtain ⟨t391, A170, H⟩ := H
        replace H : (if t384 < 0 then (fountainlaw9_SeedLeast.j2 k2 a0 a1 t384 x8_2 t391 true) else (if t384 > 255 then (fountainlaw9_SeedLeast.j2 k2 a0 a1 t384 x8_2 t391 true) else ((fountainref1_Matrix.f k2 a0 t384 x8_2).bind fun t392 => ((Pz.rrank.f t391 t392).bind fun t395 => (fountainlaw9_SeedLeast.j2 k2 a0 a1 t384 x8_2 t391 (t395 != t391)))))) = some r := H
        have A17 := Aside0.mk A170
        clear A170
        have HC18 := Aside0.mk H
        clear H
        go_upto_region 13 with (first | ((with_reducible refine gate_callee (f := 45) rfl ?_); refine goesL_ (some 48) rfl rfl Try.func45 (by kernel_rfl) rfl #[.int .i64 a0] rfl (by (try simp only [List.map_toArray, List.map_cons, List.map_nil]); first | done | rfl | (simp only [List.length_drop, List.length_take]; rfl)) ?_; (with_reducible refine (fountainref1_L.calls a0 t391 _ A17.out).mono ?_); rintro e w' ⟨rfl, ⟨nd, rfl⟩⟩; refine ⟨_, rfl, ?_⟩))
        (try simp only [Act.put, List.setIfInBounds_toArray, List.set_cons_zero, List.set_cons_succ])
        go_cut [64] (fun v64 wc => ∃ (kq : Nat) (x64_17 : Bool), v64 = .bool x64_17 ∧ Aside0 (fountainlaw9_SeedLeast.j2 kq a0 a1 t384 x8_2 t391 x64_17 = some r) ∧ Aside0 (kq ≤ k2) ∧ Aside0 (Kd.R (Kd.int .i64) 3 wc w.heap.size (fun _ => True) u8 x8_2) ∧ Aside0 (Below w.heap.size w wc))
        case first =>
         have H := HC18.out
         clear HC18
         by_cases c19 : t384 < 0
         ·rw [if_pos c19] at H
          have c19b0 : decide (t384 < 0) = true := decide_eq_true c19
          clear c19
          (first | rw [c19b0] | (simp only [i64_w, i32_w]; rw [c19b0]) | skip)
          have H' := Aside0.mk H
          clear H
          go_wp2
          go_meet
          case rel => exact ⟨_, (true), (by first | rfl | (simp; done) | (simp [*]; done)), H', ⟨by have := HJ3.out; have := HK2.out; first | omega | exact Nat.le_refl _⟩, ⟨by (with_reducible repeat (first | apply Kd.R_alloc | apply Kd.R_drewN | apply Kd.R_drew)); exact HO_8.out⟩, ⟨bel⟩⟩
         ·rw [if_neg c19] at H
          have c19b0 : decide (t384 < 0) = false := decide_eq_false c19
          clear c19
          (first | rw [c19b0] | (simp only [i64_w, i32_w]; rw [c19b0]) | skip)
          by_cases c20 : t384 > 255
          ·rw [if_pos c20] at H
           have c20b0 : decide (255 < t384) = true := decide_eq_true c20
           clear c20
           have H' := Aside0.mk H
           clear H
           go_wp2
           go_meet
           case rel => exact ⟨_, (true), (by first | rfl | (simp; done) | (simp [*]; done)), H', ⟨by have := HJ3.out; have := HK2.out; first | omega | exact Nat.le_refl _⟩, ⟨by (with_reducible repeat (first | apply Kd.R_alloc | apply Kd.R_drewN | apply Kd.R_drew)); exact HO_8.out⟩, ⟨bel⟩⟩
          ·rw [if_neg c20] at H
           have c20b0 : decide (255 < t384) = false := decide_eq_false c20
           clear c20
           replace H := Option.bind_eq_some_iff.mp H
           obtain ⟨t392, A210, H⟩ := H
           replace H : ((Pz.rrank.f t391 t392).bind fun t395 => (fountainlaw9_SeedLeast.j2 k2 a0 a1 t384 x8_2 t391 (t395 != t391))) = some r := H
           have A21 := Aside0.mk A210
           clear A210
           replace H := Option.bind_eq_some_iff.mp H
           obtain ⟨t395, A220, H⟩ := H
           replace H : (fountainlaw9_SeedLeast.j2 k2 a0 a1 t384 x8_2 t391 (t395 != t391)) = some r := H
           have A22 := Aside0.mk A220
           clear A220
           have H' := Aside0.mk H
           clear H
           obtain ⟨Ao23, co23, eo23⟩ := Kd.R_slice HO_8.out
           subst eo23
           go_wp2_with (first | (go_at_call 39; (with_reducible refine (fountainref1_Matrix.calls k2 a0 t384 _ _ x8_2 t392 _ ?side1 ?side2 A21.out).mono ?_); (case side1 => repeat (first | exact (Kd.R_reads' HO_8.out).2.2 | (with_reducible refine Kd.C_alloc ?_ _) | (with_reducible refine Kd.C_drewN ?_ _) | (with_reducible refine Kd.C_drew ?_))); (case side2 => exact (Kd.R_reads' HO_8.out).2.1); rintro e w24 ⟨v393, rfl, ho0, hb⟩; have n0_ := Aside0.mk (Kd.R_below (R_g HO_8.out) hb); have n1_ := Aside0.mk (Kd.N_lower (Kd.N_mono (ok' := fun k_ => some k_ ≠ (.slice Ao23 x8_2.length co23 : Value).ownBlock) ho0 (fun k_ hk_ => (Kd.fresh' (Kd.R_lt (R_g HO_8.out)) k_ hk_))) bels); have n2_ := Aside0.mk (belt hb); clear HO_8; clear HB; have HO_8 := n0_; have HO394 := n1_; have HB := n2_; clear n0_ n1_ n2_; (try clear hb); (try clear hb2); (try clear hk); (try clear hi); (try clear ho0); obtain ⟨Ao25, co25, eo25⟩ := Kd.N_slice HO394.out; subst eo25) | (go_at_call 30; (with_reducible refine (Pz.rrank.calls t391 _ _ t392 t395 _ ?side1 ?side2 A22.out).mono ?_); (case side1 => repeat (first | exact (Kd.N_reads' HO394.out).2.2 | (with_reducible refine Kd.C_alloc ?_ _) | (with_reducible refine Kd.C_drewN ?_ _) | (with_reducible refine Kd.C_drew ?_))); (case side2 => exact (Kd.N_reads' HO394.out).2.1); rintro e w26 ⟨rfl, hb⟩; have n0_ := Aside0.mk (Kd.R_below (R_g HO_8.out) hb); have n1_ := Aside0.mk (Kd.N_below (N_g HO394.out) hb); have n2_ := Aside0.mk (belt hb); clear HO_8; clear HO394; clear HB; have HO_8 := n0_; have HO394 := n1_; have HB := n2_; clear n0_ n1_ n2_; (try clear hb); (try clear hb2); (try clear hk); (try clear hi)))
           go_meet
           case rel => exact ⟨_, ((t395 != t391)), (by first | rfl | (simp; done) | (simp [*]; done)), H', ⟨by have := HJ3.out; have := HK2.out; first | omega | exact Nat.le_refl _⟩, ⟨by (with_reducible repeat (first | apply Kd.R_alloc | apply Kd.R_drewN | apply Kd.R_drew)); exact HO_8.out⟩, ⟨bel⟩⟩
        case rest =>
         clear HC18
         try clear c1
         try clear c2
         try clear p2
         try clear c4
         try clear c6
         try clear p6
         try clear c7
         try clear c7b0
         try clear c8
         try clear c8b0
         try clear c9
         try clear c10
         try clear c12
         try clear c12b0
         try clear c12b1
         try clear c14
         try clear c14b0
         try clear c15
         try clear c19
         try clear c19b0
         try clear c20
         try clear c20b0
         try clear p2
         obtain ⟨kq, x64_17, rfl, HA, HJ17, HO_8, HB⟩ := hcut
         cases kq with
         | zero => exact absurd HA.out (by simp [fountainlaw9_SeedLeast.j2])
         | succ kj17 =>
          have H := HA.out
          clear HA
          simp only [fountainlaw9_SeedLeast.j2] at H
          by_cases c27 : x64_17 = true
          ·subst c27
           have H1 : (some false) = some r := by rw [if_pos rfl] at H; exact H
           clear H
           have H := H1
           clear H1
           exact absurd ((Option.some.inj H).trans HRT.out) (by decide)
          ·replace c27 := Bool.eq_false_iff.mpr c27
           subst c27
           have H1 : (if t384 = 0 then (some true) else ((fountainref1_Matrix.f kj17 a0 (Int.tmod a1 t384) x8_2).bind fun t396 => ((Pz.rrank.f t391 t396).bind fun t399 => (some (decide (t399 < t391)))))) = some r := by rw [if_neg (show ¬ (false = true) by decide)] at H; exact H
           clear H
           have H := H1
           clear H1
           by_cases c28 : t384 = 0
           ·rw [if_pos c28] at H
            have c28b0 : (t384 == 0) = true := beq_iff_eq.mpr c28
            have c28b1 : (t384 != 0) = false := bne_eq_false_iff_eq.mpr c28
            clear c28
            obtain rfl := Option.some.inj H
            go_wp2
            go_ret
            exact ⟨by first | rfl | (simp [errW_none, errW_some] <;> rfl) | (simp [*, errW_none, errW_some] <;> rfl), bel⟩
           ·rw [if_neg c28] at H
            have c28b0 : (t384 == 0) = false := beq_eq_false_iff_ne.mpr c28
            have c28b1 : (t384 != 0) = true := bne_iff_ne.mpr c28
            replace H := Option.bind_eq_some_iff.mp H
            obtain ⟨t396, A290, H⟩ := H
            replace H : ((Pz.rrank.f t391 t396).bind fun t399 => (some (decide (t399 < t391)))) = some r := H
            have A29 := Aside0.mk A290
            clear A290
            replace H := Option.bind_eq_some_iff.mp H
            obtain ⟨t399, A300, H⟩ := H
            replace H : (some (decide (t399 < t391))) = some r := H
            have A30 := Aside0.mk A300
            clear A300
            obtain rfl := Option.some.inj H
            obtain ⟨Ao31, co31, eo31⟩ := Kd.R_slice HO_8.out
            subst eo31
            go_wp2_with (first | (go_at_call 39; (with_reducible refine (fountainref1_Matrix.calls kj17 a0 (Int.tmod a1 t384) _ _ x8_2 t396 _ ?side1 ?side2 A29.out).mono ?_); (case side1 => repeat (first | exact (Kd.R_reads' HO_8.out).2.2 | (with_reducible refine Kd.C_alloc ?_ _) | (with_reducible refine Kd.C_drewN ?_ _) | (with_reducible refine Kd.C_drew ?_))); (case side2 => exact (Kd.R_reads' HO_8.out).2.1); rintro e w32 ⟨v397, rfl, ho0, hb⟩; have n0_ := Aside0.mk (Kd.R_below (R_g HO_8.out) hb); have n1_ := Aside0.mk (Kd.N_lower (Kd.N_mono (ok' := fun k_ => some k_ ≠ (.slice Ao31 x8_2.length co31 : Value).ownBlock) ho0 (fun k_ hk_ => (Kd.fresh' (Kd.R_lt (R_g HO_8.out)) k_ hk_))) bels); have n2_ := Aside0.mk (belt hb); clear HO_8; clear HB; have HO_8 := n0_; have HO398 := n1_; have HB := n2_; clear n0_ n1_ n2_; (try clear hb); (try clear hb2); (try clear hk); (try clear hi); (try clear ho0); obtain ⟨Ao33, co33, eo33⟩ := Kd.N_slice HO398.out; subst eo33) | (go_at_call 30; (with_reducible refine (Pz.rrank.calls t391 _ _ t396 t399 _ ?side1 ?side2 A30.out).mono ?_); (case side1 => repeat (first | exact (Kd.N_reads' HO398.out).2.2 | (with_reducible refine Kd.C_alloc ?_ _) | (with_reducible refine Kd.C_drewN ?_ _) | (with_reducible refine Kd.C_drew ?_))); (case side2 => exact (Kd.N_reads' HO398.out).2.1); rintro e w34 ⟨rfl, hb⟩; have n0_ := Aside0.mk (Kd.R_below (R_g HO_8.out) hb); have n1_ := Aside0.mk (Kd.N_below (N_g HO398.out) hb); have n2_ := Aside0.mk (belt hb); clear HO_8; clear HO398; clear HB; have HO_8 := n0_; have HO398 := n1_; have HB := n2_; clear n0_ n1_ n2_; (try clear hb); (try clear hb2); (try clear hk); (try clear hi)))
            go_ret
            exact ⟨by first | rfl | (simp [errW_none, errW_some] <;> rfl) | (simp [*, errW_none, errW_some] <;> rfl), bel⟩
    ·rw [if_neg c12] at H
     have c12b0 : (t386 == 0) = false := beq_eq_false_iff_ne.mpr c12
     have c12b1 : (t386 != 0) = true := bne_iff_ne.mpr c12
     replace H := Option.bind_eq_some_iff.mp H
     obtain ⟨t387, A350, H⟩ := H
     replace H : (some (t387 == 5)) = some r := H
     have A35 := Aside0.mk A350
     clear A350
     obtain rfl := Option.some.inj H
     go_wp2_with (first | ((with_reducible refine gate_callee (f := 42) rfl ?_); refine goesL_ (some 29) rfl rfl Try.func42 (by kernel_rfl) rfl #[.int .i64 a0] rfl (by (try simp only [List.map_toArray, List.map_cons, List.map_nil]); first | done | rfl | (simp only [List.length_drop, List.length_take]; rfl)) ?_; (with_reducible refine (seed_Find.calls kj3 a0 t384 t385 _ A10.out).mono ?_); rintro e w36 ⟨rfl, hb⟩; refine ⟨_, rfl, ?_⟩; have n0_ := Aside0.mk (belt hb); clear HB; have HB := n0_; clear n0_; (try clear hb); (try clear hb2); (try clear hk); (try clear hi)) | ((with_reducible refine gate_callee (f := 44) rfl ?_); refine goesL_ (some 33) rfl rfl Try.func44 (by kernel_rfl) rfl #[.int .i64 t385] rfl (by (try simp only [List.map_toArray, List.map_cons, List.map_nil]); first | done | rfl | (simp only [List.length_drop, List.length_take]; rfl)) ?_; (with_reducible refine (fountainlaw9_num.calls t385 t386 _ A11.out).mono ?_); rintro e w' ⟨rfl, ⟨nd, rfl⟩⟩; refine ⟨_, rfl, ?_⟩) | ((with_reducible refine gate_callee (f := 44) rfl ?_); refine goesL_ (some 36) rfl rfl Try.func44 (by kernel_rfl) rfl #[.int .i64 t385] rfl (by (try simp only [List.map_toArray, List.map_cons, List.map_nil]); first | done | rfl | (simp only [List.length_drop, List.length_take]; rfl)) ?_; (with_reducible refine (fountainlaw9_num.calls t385 t387 _ A35.out).mono ?_); rintro e w' ⟨rfl, ⟨nd, rfl⟩⟩; refine ⟨_, rfl, ?_⟩))
     go_ret
     exact ⟨by first | rfl | (simp [errW_none, errW_some] <;> rfl) | (simp [*, errW_none, errW_some] <;> rfl), bel⟩


end Go.Proofs.Ytbfhinfblepidaa.PSeedLeast
namespace Go.Proofs.Ytbfhinfblepidaa.PSeedLeast
open Go.RowKit Go.Proofs.YtbfhinfblepidaaW.PrintWords Go.Proofs.YtbfhinfblepidaaW.PrintLast Go.Proofs.YtbfhinfblepidaaW.PrintMore Go.Proofs.Ytbfhinfblepidaa.PSolveTells Go.Proofs.Ytbfhinfblepidaa.PSeedTells
attribute [local go_sem] max2_int min2_int max_two min_two max_three min_three max_four min_four   -- for this text's walks alone
set_option linter.unusedVariables false
set_option linter.unusedSimpArgs false


end Go.Proofs.Ytbfhinfblepidaa.PSeedLeast
