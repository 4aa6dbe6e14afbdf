-- PRINTED BY print.sh 35421559b90ae4d0a3588c463048766b98c2df88dd9212a6774a882060cdf62d: not written by this session
import Derived.Test.YtinplhdjgjijiaaPFieldPowersx0
import Derived.Test.YtinplhdjgjijiaaPFieldPowersx1
namespace Go.Proofs.Ytinplhdjgjijiaa.PFieldPowers
open Go.RowKit Go.Proofs.YtinplhdjgjijiaaW.PrintWords Go.Proofs.YtinplhdjgjijiaaW.PrintLast Go.Proofs.YtinplhdjgjijiaaW.PrintMore
attribute [local go_sem] max2_int min2_int max_two min_two max_three min_three max_four min_four   -- for this text's walks alone
set_option linter.unusedVariables false
set_option linter.unusedSimpArgs false

/-! ### fountainlaw1_FieldPowers: function 5 -/
mutual
def fountainlaw1_FieldPowers.j0 : Nat → Int → Int → Int → Bool → Bool → Option (Bool)
  | 0, _, _, _, _, _ => none
  | k + 1, x0, x1, x2, x7, x28 => if x28 = true then (some x7) else ((field_Power.f k x0).bind fun t118 => ((field_Power.f k x1).bind fun t119 => ((field_Mul.f k (([t118, t119] : List Int))).bind fun t123 => ((field_Power.f k (wrap64 (x0 + x1))).bind fun t124 => (if t123 = t124 then ((field_Power.f k (wrap64 (x0 + 255))).bind fun t125 => ((field_Power.f k x0).bind fun t126 => (fountainlaw1_FieldPowers.j1 k x2 (t125 != t126)))) else (fountainlaw1_FieldPowers.j1 k x2 true))))))
def fountainlaw1_FieldPowers.j1 : Nat → Int → Bool → Option (Bool)
  | 0, _, _ => none
  | k + 1, x2, x48 => if x48 = true then (some false) else (fountainlaw1_FieldPowers.l0 k x2 0 0)
def fountainlaw1_FieldPowers.l0 : Nat → Int → Int → Int → Option (Bool)
  | 0, _, _, _ => none
  | k + 1, x2, x8, x9 => if x9 < 255 then ((field_Power.f k x9).bind fun t127 => (if t127 = x2 then (fountainlaw1_FieldPowers.l0 k x2 (wrap64 (x8 + 1)) (wrap64 (x9 + 1))) else (fountainlaw1_FieldPowers.l0 k x2 x8 (wrap64 (x9 + 1))))) else (if ((x8 == 1) == (x2 != 0)) = true then (some (decide (x8 ≤ 1))) else (some false))
end
def fountainlaw1_FieldPowers.f (k : Nat) (a0 : Int) (a1 : Int) (a2 : Int) : Option (Bool) := (fountainlaw1_alive.f k).bind fun t117 => (if t117 = true then (if a0 < (-100000) then (fountainlaw1_FieldPowers.j0 k a0 a1 a2 t117 true) else (if a0 > 100000 then (fountainlaw1_FieldPowers.j0 k a0 a1 a2 t117 true) else (if a1 < (-100000) then (fountainlaw1_FieldPowers.j0 k a0 a1 a2 t117 true) else (fountainlaw1_FieldPowers.j0 k a0 a1 a2 t117 (decide (a1 > 100000)))))) else (fountainlaw1_FieldPowers.j0 k a0 a1 a2 t117 true))
theorem fountainlaw1_FieldPowers.mono_l : ∀ k, (∀ y0 y1 y2 y3 y4, LeO (fountainlaw1_FieldPowers.j0 k y0 y1 y2 y3 y4) (fountainlaw1_FieldPowers.j0 (k + 1) y0 y1 y2 y3 y4)) ∧ (∀ y0 y1, LeO (fountainlaw1_FieldPowers.j1 k y0 y1) (fountainlaw1_FieldPowers.j1 (k + 1) y0 y1)) ∧ (∀ y0 y1 y2, LeO (fountainlaw1_FieldPowers.l0 k y0 y1 y2) (fountainlaw1_FieldPowers.l0 (k + 1) y0 y1 y2))
  | 0 => ⟨fun _ _ _ _ _ r h => by simp [fountainlaw1_FieldPowers.j0] at h, fun _ _ r h => by simp [fountainlaw1_FieldPowers.j1] at h, fun _ _ _ r h => by simp [fountainlaw1_FieldPowers.l0] at h⟩
  | k + 1 => by
    obtain ⟨ih0, ih1, ih2⟩ := fountainlaw1_FieldPowers.mono_l k
    refine ⟨?_, ?_, ?_⟩
    · intro y0 y1 y2 y3 y4
      unfold fountainlaw1_FieldPowers.j0
      repeat' first
      | (with_reducible exact ih0 _ _ _ _ _)
      | (with_reducible exact ih1 _ _)
      | (with_reducible exact ih2 _ _ _)
      | (with_reducible exact field_Mul.mono _ _)
      | (with_reducible exact field_Power.mono _ _)
      | (with_reducible exact fountainlaw1_alive.mono _)
      | (with_reducible exact LeO.refl _)
      | (with_reducible exact LeO.none _)
      | (with_reducible refine LeO.ite ?_ ?_)
      | (with_reducible refine LeO.bind ?_ (fun _ => ?_))
      | exact ih0 _ _ _ _ _
      | exact ih1 _ _
      | exact ih2 _ _ _
      | exact field_Mul.mono _ _
      | exact field_Power.mono _ _
      | exact fountainlaw1_alive.mono _
      | exact LeO.none _
      | refine LeO.ite ?_ ?_
      | refine LeO.bind ?_ (fun _ => ?_)
    · intro y0 y1
      unfold fountainlaw1_FieldPowers.j1
      repeat' first
      | (with_reducible exact ih0 _ _ _ _ _)
      | (with_reducible exact ih1 _ _)
      | (with_reducible exact ih2 _ _ _)
      | (with_reducible exact field_Mul.mono _ _)
      | (with_reducible exact field_Power.mono _ _)
      | (with_reducible exact fountainlaw1_alive.mono _)
      | (with_reducible exact LeO.refl _)
      | (with_reducible exact LeO.none _)
      | (with_reducible refine LeO.ite ?_ ?_)
      | (with_reducible refine LeO.bind ?_ (fun _ => ?_))
      | exact ih0 _ _ _ _ _
      | exact ih1 _ _
      | exact ih2 _ _ _
      | exact field_Mul.mono _ _
      | exact field_Power.mono _ _
      | exact fountainlaw1_alive.mono _
      | exact LeO.none _
      | refine LeO.ite ?_ ?_
      | refine LeO.bind ?_ (fun _ => ?_)
    · intro y0 y1 y2
      unfold fountainlaw1_FieldPowers.l0
      repeat' first
      | (with_reducible exact ih0 _ _ _ _ _)
      | (with_reducible exact ih1 _ _)
      | (with_reducible exact ih2 _ _ _)
      | (with_reducible exact field_Mul.mono _ _)
      | (with_reducible exact field_Power.mono _ _)
      | (with_reducible exact fountainlaw1_alive.mono _)
      | (with_reducible exact LeO.refl _)
      | (with_reducible exact LeO.none _)
      | (with_reducible refine LeO.ite ?_ ?_)
      | (with_reducible refine LeO.bind ?_ (fun _ => ?_))
      | exact ih0 _ _ _ _ _
      | exact ih1 _ _
      | exact ih2 _ _ _
      | exact field_Mul.mono _ _
      | exact field_Power.mono _ _
      | exact fountainlaw1_alive.mono _
      | exact LeO.none _
      | refine LeO.ite ?_ ?_
      | refine LeO.bind ?_ (fun _ => ?_)
theorem fountainlaw1_FieldPowers.mono : ∀ a0 a1 a2 k, LeO (fountainlaw1_FieldPowers.f k a0 a1 a2) (fountainlaw1_FieldPowers.f (k + 1) a0 a1 a2) := by
  intro a0 a1 a2 k
  obtain ⟨ih0, ih1, ih2⟩ := fountainlaw1_FieldPowers.mono_l k
  unfold fountainlaw1_FieldPowers.f
  repeat' first
      | (with_reducible exact ih0 _ _ _ _ _)
      | (with_reducible exact ih1 _ _)
      | (with_reducible exact ih2 _ _ _)
      | (with_reducible exact field_Mul.mono _ _)
      | (with_reducible exact field_Power.mono _ _)
      | (with_reducible exact fountainlaw1_alive.mono _)
      | (with_reducible exact LeO.refl _)
      | (with_reducible exact LeO.none _)
      | (with_reducible refine LeO.ite ?_ ?_)
      | (with_reducible refine LeO.bind ?_ (fun _ => ?_))
      | exact ih0 _ _ _ _ _
      | exact ih1 _ _
      | exact ih2 _ _ _
      | exact field_Mul.mono _ _
      | exact field_Power.mono _ _
      | exact fountainlaw1_alive.mono _
      | exact LeO.none _
      | refine LeO.ite ?_ ?_
      | refine LeO.bind ?_ (fun _ => ?_)
set_option maxHeartbeats 8000000 in
set_option maxRecDepth 100000 in
theorem fountainlaw1_FieldPowers.calls (k : Nat) (a0 : Int) (a1 : Int) (a2 : Int) (r : Bool) (w : World) (h : fountainlaw1_FieldPowers.f k a0 a1 a2 = some r) :
    Calls Try.prog 5 #[.int .i64 a0, .int .i64 a1, .int .u8 a2] w fun e w' => e = .returned (.bool r) ∧ Below w.heap.size w w' := by
  have HB := Aside0.mk (Below.refl w.heap.size w)
  have H : ((fountainlaw1_alive.f k).bind fun t117 => (if t117 = true then (if a0 < (-100000) then (fountainlaw1_FieldPowers.j0 k a0 a1 a2 t117 true) else (if a0 > 100000 then (fountainlaw1_FieldPowers.j0 k a0 a1 a2 t117 true) else (if a1 < (-100000) then (fountainlaw1_FieldPowers.j0 k a0 a1 a2 t117 true) else (fountainlaw1_FieldPowers.j0 k a0 a1 a2 t117 (decide (a1 > 100000)))))) else (fountainlaw1_FieldPowers.j0 k a0 a1 a2 t117 true))) = some r := h
  clear h
  replace H := Option.bind_eq_some_iff.mp H
  obtain ⟨t117, A40, H⟩ := H
  replace H : (if t117 = true then (if a0 < (-100000) then (fountainlaw1_FieldPowers.j0 k a0 a1 a2 t117 true) else (if a0 > 100000 then (fountainlaw1_FieldPowers.j0 k a0 a1 a2 t117 true) else (if a1 < (-100000) then (fountainlaw1_FieldPowers.j0 k a0 a1 a2 t117 true) else (fountainlaw1_FieldPowers.j0 k a0 a1 a2 t117 (decide (a1 > 100000)))))) else (fountainlaw1_FieldPowers.j0 k a0 a1 a2 t117 true)) = some r := H
  have A4 := Aside0.mk A40
  clear A40
  have HC5 := Aside0.mk H
  clear H
  go_enter Try.func5, Try.ntmps5
  go_upto_region 2 with (first | ((with_reducible refine gate_callee (f := 13) rfl ?_); refine goesL_ (some 10) rfl rfl Try.func13 (by kernel_rfl) rfl #[] rfl (by (try simp only [List.map_toArray, List.map_cons, List.map_nil]); first | done | rfl | (simp only [List.length_drop, List.length_take]; rfl)) ?_; (with_reducible refine (fountainlaw1_alive.calls k  t117 _ A4.out).mono ?_); rintro e w6 ⟨rfl, hb⟩; refine ⟨_, rfl, ?_⟩; have n0_ := Aside0.mk (below_step (by repeat (first | (with_reducible first | exact HB.out | apply below_alloc | apply pw_below_drewN | apply below_drew1) | exact HB.out)) hb); clear HB; have HB := n0_; clear n0_; (try clear hb); (try clear hb2); (try clear hk); (try clear hi)))
  (try simp only [Act.put, List.setIfInBounds_toArray, List.set_cons_zero, List.set_cons_succ])
  go_cut [28] (fun v28 wc => ∃ (kq : Nat) (x28_4 : Bool), v28 = .bool x28_4 ∧ Aside0 (fountainlaw1_FieldPowers.j0 kq a0 a1 a2 t117 x28_4 = some r) ∧ Aside0 (kq ≤ k) ∧ Aside0 (Below w.heap.size w wc))
  case first =>
    have H := HC5.out
    clear HC5
    by_cases c7 : t117 = true
    · subst c7
      have H1 : (if a0 < (-100000) then (fountainlaw1_FieldPowers.j0 k a0 a1 a2 true true) else (if a0 > 100000 then (fountainlaw1_FieldPowers.j0 k a0 a1 a2 true true) else (if a1 < (-100000) then (fountainlaw1_FieldPowers.j0 k a0 a1 a2 true true) else (fountainlaw1_FieldPowers.j0 k a0 a1 a2 true (decide (a1 > 100000)))))) = some r := by rw [if_pos rfl] at H; exact H
      clear H
      have H := H1
      clear H1
      by_cases c8 : a0 < (-100000)
      · rw [if_pos c8] at H
        have c8b0 : decide (a0 < (-100000)) = true := decide_eq_true c8
        clear c8
        (first | rw [c8b0] | (simp only [i64_w, i32_w]; rw [c8b0]) | skip)
        have H' := Aside0.mk H
        clear H
        go_wp2
        go_meet
        case rel => exact ⟨_, (true), (by first | rfl | (simp; done) | (simp [*]; done)), H', ⟨by first | omega | exact Nat.le_refl _⟩, ⟨by repeat (first | (with_reducible first | exact HB.out | apply below_alloc | apply pw_below_drewN | apply below_drew1) | exact HB.out)⟩⟩
      · rw [if_neg c8] at H
        have c8b0 : decide (a0 < (-100000)) = false := decide_eq_false c8
        clear c8
        (first | rw [c8b0] | (simp only [i64_w, i32_w]; rw [c8b0]) | skip)
        by_cases c9 : a0 > 100000
        · rw [if_pos c9] at H
          have c9b0 : decide (100000 < a0) = true := decide_eq_true c9
          clear c9
          have H' := Aside0.mk H
          clear H
          go_wp2
          go_meet
          case rel => exact ⟨_, (true), (by first | rfl | (simp; done) | (simp [*]; done)), H', ⟨by first | omega | exact Nat.le_refl _⟩, ⟨by repeat (first | (with_reducible first | exact HB.out | apply below_alloc | apply pw_below_drewN | apply below_drew1) | exact HB.out)⟩⟩
        · rw [if_neg c9] at H
          have c9b0 : decide (100000 < a0) = false := decide_eq_false c9
          clear c9
          by_cases c10 : a1 < (-100000)
          · rw [if_pos c10] at H
            have c10b0 : decide (a1 < (-100000)) = true := decide_eq_true c10
            clear c10
            have H' := Aside0.mk H
            clear H
            go_wp2
            go_meet
            case rel => exact ⟨_, (true), (by first | rfl | (simp; done) | (simp [*]; done)), H', ⟨by first | omega | exact Nat.le_refl _⟩, ⟨by repeat (first | (with_reducible first | exact HB.out | apply below_alloc | apply pw_below_drewN | apply below_drew1) | exact HB.out)⟩⟩
          · rw [if_neg c10] at H
            have c10b0 : decide (a1 < (-100000)) = false := decide_eq_false c10
            clear c10
            have H' := Aside0.mk H
            clear H
            go_wp2
            go_meet
            case rel => exact ⟨_, (decide (a1 > 100000)), (by first | rfl | (simp; done) | (simp [*]; done)), H', ⟨by first | omega | exact Nat.le_refl _⟩, ⟨by repeat (first | (with_reducible first | exact HB.out | apply below_alloc | apply pw_below_drewN | apply below_drew1) | exact HB.out)⟩⟩
    · replace c7 := Bool.eq_false_iff.mpr c7
      subst c7
      have H1 : (fountainlaw1_FieldPowers.j0 k a0 a1 a2 false true) = some r := by rw [if_neg (show ¬ (false = true) by decide)] at H; exact H
      clear H
      have H := H1
      clear H1
      have H' := Aside0.mk H
      clear H
      go_wp2
      go_meet
      case rel => exact ⟨_, (true), (by first | rfl | (simp; done) | (simp [*]; done)), H', ⟨by first | omega | exact Nat.le_refl _⟩, ⟨by repeat (first | (with_reducible first | exact HB.out | apply below_alloc | apply pw_below_drewN | apply below_drew1) | exact HB.out)⟩⟩
  case rest =>
    clear HC5
    try clear c1
    try clear p2
    try clear c5
    try clear c7
    try clear c8
    try clear c8b0
    try clear c9
    try clear c9b0
    try clear c10
    try clear c10b0
    obtain ⟨kq, x28_4, rfl, HA, HJ4, HB⟩ := hcut
    cases kq with
    | zero => exact absurd HA.out (by simp [fountainlaw1_FieldPowers.j0])
    | succ kj4 =>
      have H := HA.out
      clear HA
      simp only [fountainlaw1_FieldPowers.j0] at H
      by_cases c11 : x28_4 = true
      · subst c11
        have H1 : (some t117) = some r := by rw [if_pos rfl] at H; exact H
        clear H
        have H := H1
        clear H1
        obtain rfl := Option.some.inj H
        go_wp2
        go_ret
        exact ⟨by first | rfl | (simp [errW_none, errW_some] <;> rfl) | (simp [*, errW_none, errW_some] <;> rfl), by repeat (first | (with_reducible first | exact HB.out | apply below_alloc | apply pw_below_drewN | apply below_drew1) | exact HB.out)⟩
      · replace c11 := Bool.eq_false_iff.mpr c11
        subst c11
        have H1 : ((field_Power.f kj4 a0).bind fun t118 => ((field_Power.f kj4 a1).bind fun t119 => ((field_Mul.f kj4 (([t118, t119] : List Int))).bind fun t123 => ((field_Power.f kj4 (wrap64 (a0 + a1))).bind fun t124 => (if t123 = t124 then ((field_Power.f kj4 (wrap64 (a0 + 255))).bind fun t125 => ((field_Power.f kj4 a0).bind fun t126 => (fountainlaw1_FieldPowers.j1 kj4 a2 (t125 != t126)))) else (fountainlaw1_FieldPowers.j1 kj4 a2 true)))))) = some r := by rw [if_neg (show ¬ (false = true) by decide)] at H; exact H
        clear H
        have H := H1
        clear H1
        have HC12 := Aside0.mk H
        clear H
        go_upto_region 4 with (fail)
        go_cut [48] (fun v48 wc => ∃ (kq : Nat) (x48_11 : Bool), v48 = .bool x48_11 ∧ Aside0 (fountainlaw1_FieldPowers.j1 kq a2 x48_11 = some r) ∧ Aside0 (kq ≤ kj4) ∧ Aside0 (Below w.heap.size w wc))
        case first =>
          have H := HC12.out
          clear HC12
          replace H := Option.bind_eq_some_iff.mp H
          obtain ⟨t118, A130, H⟩ := H
          replace H : ((field_Power.f kj4 a1).bind fun t119 => ((field_Mul.f kj4 (([t118, t119] : List Int))).bind fun t123 => ((field_Power.f kj4 (wrap64 (a0 + a1))).bind fun t124 => (if t123 = t124 then ((field_Power.f kj4 (wrap64 (a0 + 255))).bind fun t125 => ((field_Power.f kj4 a0).bind fun t126 => (fountainlaw1_FieldPowers.j1 kj4 a2 (t125 != t126)))) else (fountainlaw1_FieldPowers.j1 kj4 a2 true))))) = some r := H
          have A13 := Aside0.mk A130
          clear A130
          replace H := Option.bind_eq_some_iff.mp H
          obtain ⟨t119, A140, H⟩ := H
          replace H : ((field_Mul.f kj4 (([t118, t119] : List Int))).bind fun t123 => ((field_Power.f kj4 (wrap64 (a0 + a1))).bind fun t124 => (if t123 = t124 then ((field_Power.f kj4 (wrap64 (a0 + 255))).bind fun t125 => ((field_Power.f kj4 a0).bind fun t126 => (fountainlaw1_FieldPowers.j1 kj4 a2 (t125 != t126)))) else (fountainlaw1_FieldPowers.j1 kj4 a2 true)))) = some r := H
          have A14 := Aside0.mk A140
          clear A140
          obtain ⟨y120, hy120⟩ : ∃ y_ : List Int, y_ = (([t118, t119] : List Int)) := ⟨_, rfl⟩
          replace H : ((field_Mul.f kj4 y120).bind fun t123 => ((field_Power.f kj4 (wrap64 (a0 + a1))).bind fun t124 => (if t123 = t124 then ((field_Power.f kj4 (wrap64 (a0 + 255))).bind fun t125 => ((field_Power.f kj4 a0).bind fun t126 => (fountainlaw1_FieldPowers.j1 kj4 a2 (t125 != t126)))) else (fountainlaw1_FieldPowers.j1 kj4 a2 true)))) = some r := by first | (rw [hy120]; with_reducible exact H) | (have H2_ := (Option.bind_some _ _).symm.trans H; rw [hy120]; with_reducible exact H2_) | (have H2_ := (Option.bind_some _ _).symm.trans H; with_reducible exact H2_) | with_reducible exact H | (rw [hy120]; exact H) | exact H
          have Ny120 := Aside0.mk hy120
          clear hy120
          replace H := Option.bind_eq_some_iff.mp H
          obtain ⟨t123, A150, H⟩ := H
          replace H : ((field_Power.f kj4 (wrap64 (a0 + a1))).bind fun t124 => (if t123 = t124 then ((field_Power.f kj4 (wrap64 (a0 + 255))).bind fun t125 => ((field_Power.f kj4 a0).bind fun t126 => (fountainlaw1_FieldPowers.j1 kj4 a2 (t125 != t126)))) else (fountainlaw1_FieldPowers.j1 kj4 a2 true))) = some r := H
          have A15 := Aside0.mk A150
          clear A150
          replace H := Option.bind_eq_some_iff.mp H
          obtain ⟨t124, A160, H⟩ := H
          replace H : (if t123 = t124 then ((field_Power.f kj4 (wrap64 (a0 + 255))).bind fun t125 => ((field_Power.f kj4 a0).bind fun t126 => (fountainlaw1_FieldPowers.j1 kj4 a2 (t125 != t126)))) else (fountainlaw1_FieldPowers.j1 kj4 a2 true)) = some r := H
          have A16 := Aside0.mk A160
          clear A160
          by_cases c17 : t123 = t124
          · rw [if_pos c17] at H
            have c17b0 : (t123 == t124) = true := beq_iff_eq.mpr c17
            have c17b1 : (t123 != t124) = false := bne_eq_false_iff_eq.mpr c17
            clear c17
            (first | rw [c17b0] | (simp only [i64_w, i32_w]; rw [c17b0]) | skip)
            replace H := Option.bind_eq_some_iff.mp H
            obtain ⟨t125, A180, H⟩ := H
            replace H : ((field_Power.f kj4 a0).bind fun t126 => (fountainlaw1_FieldPowers.j1 kj4 a2 (t125 != t126))) = some r := H
            have A18 := Aside0.mk A180
            clear A180
            replace H := Option.bind_eq_some_iff.mp H
            obtain ⟨t126, A190, H⟩ := H
            replace H : (fountainlaw1_FieldPowers.j1 kj4 a2 (t125 != t126)) = some r := H
            have A19 := Aside0.mk A190
            clear A190
            have H' := Aside0.mk H
            clear H
            go_wp2_with (first | ((with_reducible refine gate_callee (f := 18) rfl ?_); refine goesL_ (some 31) rfl rfl Try.func18 (by kernel_rfl) rfl #[.int .i64 a0] rfl (by (try simp only [List.map_toArray, List.map_cons, List.map_nil]); first | done | rfl | (simp only [List.length_drop, List.length_take]; rfl)) ?_; (with_reducible refine (field_Power.calls kj4 a0 t118 _ A13.out).mono ?_); rintro e w' ⟨rfl, ⟨nd, rfl⟩⟩; refine ⟨_, rfl, ?_⟩) | ((with_reducible refine gate_callee (f := 18) rfl ?_); refine goesL_ (some 33) rfl rfl Try.func18 (by kernel_rfl) rfl #[.int .i64 a1] rfl (by (try simp only [List.map_toArray, List.map_cons, List.map_nil]); first | done | rfl | (simp only [List.length_drop, List.length_take]; rfl)) ?_; (with_reducible refine (field_Power.calls kj4 a1 t119 _ A14.out).mono ?_); rintro e w' ⟨rfl, ⟨nd, rfl⟩⟩; refine ⟨_, rfl, ?_⟩) | ((with_reducible refine gate_dst (N := 34) rfl ?_); refine Kd.R_lit (Kd.int .u8) _ 5 ?hg (N := 34) ?hd (xs := ([t118, t119] : List Int)) (inner := [.int .u8 t118, .int .u8 t119]) (ok := fun _ => True) (okp := fun _ => True) ?hr ?hp (fun _ hk => hk) trivial (Below.refl _ _) (Nat.le_refl _) (by simp) ?_; (case hd => rfl); (case hg => rfl); (case hr => first | (go_simp; done) | (go_simp; rfl)); (case hp => exact (Reps.one (show Kd.M (Kd.int .u8) _ _ _ t118 [.int .u8 t118] from rfl) (Reps.one (show Kd.M (Kd.int .u8) _ _ _ t119 [.int .u8 t119] from rfl) (Reps.none _ _)))); intro v121 w20 ho21 hb hg_ hnew_; clear hg_ hnew_; (first | rw [← Ny120.out] at ho21 | (simp only [Int.reduceToNat] at ho21; rw [← Ny120.out] at ho21)); have n0_ := Aside0.mk (Kd.R_lower ho21 (below_size (by repeat (first | (with_reducible first | exact HB.out | apply below_alloc | apply pw_below_drewN | apply below_drew1) | exact HB.out)))); have n1_ := Aside0.mk (below_step (by repeat (first | (with_reducible first | exact HB.out | apply below_alloc | apply pw_below_drewN | apply below_drew1) | exact HB.out)) hb); clear HB; have HO122 := n0_; have HB := n1_; clear n0_ n1_; clear hb ho21; obtain ⟨Ao22, co22, eo22⟩ := Kd.R_slice HO122.out; subst eo22) | ((with_reducible refine gate_callee (f := 16) rfl ?_); refine goesL_ (some 35) rfl rfl Try.func16 (by kernel_rfl) rfl #[.slice Ao22 y120.length co22] rfl (by (try simp only [List.map_toArray, List.map_cons, List.map_nil]); first | done | rfl | (simp only [List.length_drop, List.length_take]; rfl)) ?_; (with_reducible refine (field_Mul.calls kj4 _ _ y120 t123 _ ?side1 ?side2 A15.out).mono ?_); (case side1 => repeat (first | exact (Kd.R_reads' HO122.out).2.2 | (with_reducible refine Kd.C_alloc ?_ _) | (with_reducible refine Kd.C_drewN ?_ _) | (with_reducible refine Kd.C_drew ?_))); (case side2 => exact (Kd.R_reads' HO122.out).2.1); rintro e w' ⟨rfl, ⟨nd, rfl⟩⟩; refine ⟨_, rfl, ?_⟩) | ((with_reducible refine gate_callee (f := 18) rfl ?_); refine goesL_ (some 39) rfl rfl Try.func18 (by kernel_rfl) rfl #[.int .i64 (wrap64 (a0 + a1))] rfl (by (try simp only [List.map_toArray, List.map_cons, List.map_nil]); first | done | rfl | (simp only [List.length_drop, List.length_take]; rfl)) ?_; (with_reducible refine (field_Power.calls kj4 (wrap64 (a0 + a1)) t124 _ A16.out).mono ?_); rintro e w' ⟨rfl, ⟨nd, rfl⟩⟩; refine ⟨_, rfl, ?_⟩) | (go_at_call 18; (with_reducible refine (field_Power.calls kj4 (wrap64 (a0 + 255)) t125 _ A18.out).mono ?_); rintro e w' ⟨rfl, ⟨nd, rfl⟩⟩) | (go_at_call 18; (with_reducible refine (field_Power.calls kj4 a0 t126 _ A19.out).mono ?_); rintro e w' ⟨rfl, ⟨nd, rfl⟩⟩))
            go_meet
            case rel => exact ⟨_, ((t125 != t126)), (by first | rfl | (simp; done) | (simp [*]; done)), H', ⟨by have := HJ4.out; first | omega | exact Nat.le_refl _⟩, ⟨by repeat (first | (with_reducible first | exact HB.out | apply below_alloc | apply pw_below_drewN | apply below_drew1) | exact HB.out)⟩⟩
          · rw [if_neg c17] at H
            have c17b0 : (t123 == t124) = false := beq_eq_false_iff_ne.mpr c17
            have c17b1 : (t123 != t124) = true := bne_iff_ne.mpr c17
            (first | rw [c17b0] | (simp only [i64_w, i32_w]; rw [c17b0]) | skip)
            have H' := Aside0.mk H
            clear H
            go_wp2_with (first | ((with_reducible refine gate_callee (f := 18) rfl ?_); refine goesL_ (some 31) rfl rfl Try.func18 (by kernel_rfl) rfl #[.int .i64 a0] rfl (by (try simp only [List.map_toArray, List.map_cons, List.map_nil]); first | done | rfl | (simp only [List.length_drop, List.length_take]; rfl)) ?_; (with_reducible refine (field_Power.calls kj4 a0 t118 _ A13.out).mono ?_); rintro e w' ⟨rfl, ⟨nd, rfl⟩⟩; refine ⟨_, rfl, ?_⟩) | ((with_reducible refine gate_callee (f := 18) rfl ?_); refine goesL_ (some 33) rfl rfl Try.func18 (by kernel_rfl) rfl #[.int .i64 a1] rfl (by (try simp only [List.map_toArray, List.map_cons, List.map_nil]); first | done | rfl | (simp only [List.length_drop, List.length_take]; rfl)) ?_; (with_reducible refine (field_Power.calls kj4 a1 t119 _ A14.out).mono ?_); rintro e w' ⟨rfl, ⟨nd, rfl⟩⟩; refine ⟨_, rfl, ?_⟩) | ((with_reducible refine gate_dst (N := 34) rfl ?_); refine Kd.R_lit (Kd.int .u8) _ 5 ?hg (N := 34) ?hd (xs := ([t118, t119] : List Int)) (inner := [.int .u8 t118, .int .u8 t119]) (ok := fun _ => True) (okp := fun _ => True) ?hr ?hp (fun _ hk => hk) trivial (Below.refl _ _) (Nat.le_refl _) (by simp) ?_; (case hd => rfl); (case hg => rfl); (case hr => first | (go_simp; done) | (go_simp; rfl)); (case hp => exact (Reps.one (show Kd.M (Kd.int .u8) _ _ _ t118 [.int .u8 t118] from rfl) (Reps.one (show Kd.M (Kd.int .u8) _ _ _ t119 [.int .u8 t119] from rfl) (Reps.none _ _)))); intro v121 w23 ho24 hb hg_ hnew_; clear hg_ hnew_; (first | rw [← Ny120.out] at ho24 | (simp only [Int.reduceToNat] at ho24; rw [← Ny120.out] at ho24)); have n0_ := Aside0.mk (Kd.R_lower ho24 (below_size (by repeat (first | (with_reducible first | exact HB.out | apply below_alloc | apply pw_below_drewN | apply below_drew1) | exact HB.out)))); have n1_ := Aside0.mk (below_step (by repeat (first | (with_reducible first | exact HB.out | apply below_alloc | apply pw_below_drewN | apply below_drew1) | exact HB.out)) hb); clear HB; have HO122 := n0_; have HB := n1_; clear n0_ n1_; clear hb ho24; obtain ⟨Ao25, co25, eo25⟩ := Kd.R_slice HO122.out; subst eo25) | ((with_reducible refine gate_callee (f := 16) rfl ?_); refine goesL_ (some 35) rfl rfl Try.func16 (by kernel_rfl) rfl #[.slice Ao25 y120.length co25] rfl (by (try simp only [List.map_toArray, List.map_cons, List.map_nil]); first | done | rfl | (simp only [List.length_drop, List.length_take]; rfl)) ?_; (with_reducible refine (field_Mul.calls kj4 _ _ y120 t123 _ ?side1 ?side2 A15.out).mono ?_); (case side1 => repeat (first | exact (Kd.R_reads' HO122.out).2.2 | (with_reducible refine Kd.C_alloc ?_ _) | (with_reducible refine Kd.C_drewN ?_ _) | (with_reducible refine Kd.C_drew ?_))); (case side2 => exact (Kd.R_reads' HO122.out).2.1); rintro e w' ⟨rfl, ⟨nd, rfl⟩⟩; refine ⟨_, rfl, ?_⟩) | ((with_reducible refine gate_callee (f := 18) rfl ?_); refine goesL_ (some 39) rfl rfl Try.func18 (by kernel_rfl) rfl #[.int .i64 (wrap64 (a0 + a1))] rfl (by (try simp only [List.map_toArray, List.map_cons, List.map_nil]); first | done | rfl | (simp only [List.length_drop, List.length_take]; rfl)) ?_; (with_reducible refine (field_Power.calls kj4 (wrap64 (a0 + a1)) t124 _ A16.out).mono ?_); rintro e w' ⟨rfl, ⟨nd, rfl⟩⟩; refine ⟨_, rfl, ?_⟩))
            go_meet
            case rel => exact ⟨_, (true), (by first | rfl | (simp; done) | (simp [*]; done)), H', ⟨by have := HJ4.out; first | omega | exact Nat.le_refl _⟩, ⟨by repeat (first | (with_reducible first | exact HB.out | apply below_alloc | apply pw_below_drewN | apply below_drew1) | exact HB.out)⟩⟩
        case rest =>
          clear HC12
          try clear c1
          try clear p2
          try clear c5
          try clear p6
          try clear c7
          try clear c8
          try clear c8b0
          try clear c9
          try clear c9b0
          try clear c10
          try clear c10b0
          try clear c11
          try clear c13
          try clear c16
          try clear c17
          try clear c17b0
          try clear c17b1
          try clear c18
          try clear p2
          obtain ⟨kq, x48_11, rfl, HA, HJ11, HB⟩ := hcut
          cases kq with
          | zero => exact absurd HA.out (by simp [fountainlaw1_FieldPowers.j1])
          | succ kj11 =>
            have H := HA.out
            clear HA
            simp only [fountainlaw1_FieldPowers.j1] at H
            by_cases c26 : x48_11 = true
            · subst c26
              have H1 : (some false) = some r := by rw [if_pos rfl] at H; exact H
              clear H
              have H := H1
              clear H1
              obtain rfl := Option.some.inj H
              go_wp2
              go_ret
              exact ⟨by first | rfl | (simp [errW_none, errW_some] <;> rfl) | (simp [*, errW_none, errW_some] <;> rfl), by repeat (first | (with_reducible first | exact HB.out | apply below_alloc | apply pw_below_drewN | apply below_drew1) | exact HB.out)⟩
            · replace c26 := Bool.eq_false_iff.mpr c26
              subst c26
              have H1 : (fountainlaw1_FieldPowers.l0 kj11 a2 0 0) = some r := by rw [if_neg (show ¬ (false = true) by decide)] at H; exact H
              clear H
              have H := H1
              clear H1
              have H' := Aside0.mk H
              clear H
              go_wp2
              go_loopg [8, 9] kj11 (fun kq v8 v9 w' => ∃ (x8_3 : Int) (x9_3 : Int), v8 = .int .i64 x8_3 ∧ v9 = .int .i64 x9_3 ∧ Aside0 (fountainlaw1_FieldPowers.l0 kq a2 x8_3 x9_3 = some r) ∧ Aside0 (kq ≤ kj11) ∧ Aside0 (Below w.heap.size w w'))
              case atStart => exact ⟨(0), (0), (by first | rfl | (simp; done) | (simp [*]; done)), (by first | rfl | (simp; done) | (simp [*]; done)), H', ⟨Nat.le_refl _⟩, ⟨by repeat (first | (with_reducible first | exact HB.out | apply below_alloc | apply pw_below_drewN | apply below_drew1) | exact HB.out)⟩⟩
              case round =>
                clear H'
                try clear c1
                try clear c2
                try clear p2
                try clear c5
                try clear p6
                try clear c7
                try clear c8
                try clear c8b0
                try clear c9
                try clear c9b0
                try clear c10
                try clear c10b0
                try clear c11
                try clear c13
                try clear c16
                try clear c17
                try clear c17b0
                try clear c17b1
                try clear c18
                try clear c26
                try clear p2
                try clear p6
                obtain ⟨x8_3, x9_3, rfl, rfl, HA, HK3, HB⟩ := hrel
                cases gk with
                | zero => exact absurd HA.out (by simp [fountainlaw1_FieldPowers.l0])
                | succ k3 =>
                  have H := HA.out
                  clear HA
                  simp only [fountainlaw1_FieldPowers.l0] at H
                  by_cases c27 : x9_3 < 255
                  · rw [if_pos c27] at H
                    have c27b0 : decide (x9_3 < 255) = true := decide_eq_true c27
                    clear c27
                    replace H := Option.bind_eq_some_iff.mp H
                    obtain ⟨t127, A280, H⟩ := H
                    replace H : (if t127 = a2 then (fountainlaw1_FieldPowers.l0 k3 a2 (wrap64 (x8_3 + 1)) (wrap64 (x9_3 + 1))) else (fountainlaw1_FieldPowers.l0 k3 a2 x8_3 (wrap64 (x9_3 + 1)))) = some r := H
                    have A28 := Aside0.mk A280
                    clear A280
                    by_cases c29 : t127 = a2
                    · rw [if_pos c29] at H
                      have c29b0 : (t127 == a2) = true := beq_iff_eq.mpr c29
                      have c29b1 : (t127 != a2) = false := bne_eq_false_iff_eq.mpr c29
                      clear c29
                      have H' := Aside0.mk H
                      clear H
                      go_wp2_with (first | ((with_reducible refine gate_callee (f := 18) rfl ?_); refine goesL_ (some 54) rfl rfl Try.func18 (by kernel_rfl) rfl #[.int .i64 x9_3] rfl (by (try simp only [List.map_toArray, List.map_cons, List.map_nil]); first | done | rfl | (simp only [List.length_drop, List.length_take]; rfl)) ?_; (with_reducible refine (field_Power.calls k3 x9_3 t127 _ A28.out).mono ?_); rintro e w' ⟨rfl, ⟨nd, rfl⟩⟩; refine ⟨_, rfl, ?_⟩))
                      go_roundg k3
                      case measure => have := HJ4.out; have := HJ11.out; have := HK3.out; omega
                      case rel => exact ⟨(wrap64 (x8_3 + 1)), (wrap64 (x9_3 + 1)), (by first | rfl | (simp; done) | (simp [*]; done)), (by first | rfl | (simp; done) | (simp [*]; done)), H', ⟨by have := HJ4.out; have := HJ11.out; have := HK3.out; omega⟩, ⟨by repeat (first | (with_reducible first | exact HB.out | apply below_alloc | apply pw_below_drewN | apply below_drew1) | exact HB.out)⟩⟩
                    · rw [if_neg c29] at H
                      have c29b0 : (t127 == a2) = false := beq_eq_false_iff_ne.mpr c29
                      have c29b1 : (t127 != a2) = true := bne_iff_ne.mpr c29
                      have H' := Aside0.mk H
                      clear H
                      go_wp2_with (first | ((with_reducible refine gate_callee (f := 18) rfl ?_); refine goesL_ (some 54) rfl rfl Try.func18 (by kernel_rfl) rfl #[.int .i64 x9_3] rfl (by (try simp only [List.map_toArray, List.map_cons, List.map_nil]); first | done | rfl | (simp only [List.length_drop, List.length_take]; rfl)) ?_; (with_reducible refine (field_Power.calls k3 x9_3 t127 _ A28.out).mono ?_); rintro e w' ⟨rfl, ⟨nd, rfl⟩⟩; refine ⟨_, rfl, ?_⟩))
                      go_roundg k3
                      case measure => have := HJ4.out; have := HJ11.out; have := HK3.out; omega
                      case rel => exact ⟨(x8_3), (wrap64 (x9_3 + 1)), (by first | rfl | (simp; done) | (simp [*]; done)), (by first | rfl | (simp; done) | (simp [*]; done)), H', ⟨by have := HJ4.out; have := HJ11.out; have := HK3.out; omega⟩, ⟨by repeat (first | (with_reducible first | exact HB.out | apply below_alloc | apply pw_below_drewN | apply below_drew1) | exact HB.out)⟩⟩
                  · rw [if_neg c27] at H
                    have c27b0 : decide (x9_3 < 255) = false := decide_eq_false c27
                    clear c27
                    by_cases c30 : ((x8_3 == 1) == (a2 != 0)) = true
                    · rw [if_pos c30] at H
                      have c30b0 : ((x8_3 == 1) == (a2 != 0)) = true := c30
                      (try (have c30b1 : decide ((x8_3 == 1) = (a2 != 0)) = true := by simpa using c30))
                      (try (have c30b2 : ((x8_3 == 1) == (a2 != 0)) = true := by simpa using c30))
                      clear c30
                      obtain rfl := Option.some.inj H
                      go_wp2
                      go_ret
                      exact ⟨by first | rfl | (simp [errW_none, errW_some] <;> rfl) | (simp [*, errW_none, errW_some] <;> rfl), by repeat (first | (with_reducible first | exact HB.out | apply below_alloc | apply pw_below_drewN | apply below_drew1) | exact HB.out)⟩
                    · rw [if_neg c30] at H
                      have c30b0 : ((x8_3 == 1) == (a2 != 0)) = false := by simpa using c30
                      (try (have c30b1 : decide ((x8_3 == 1) = (a2 != 0)) = false := by simpa using c30))
                      (try (have c30b2 : ((x8_3 == 1) == (a2 != 0)) = false := by simpa using c30))
                      (try (have c30b3 : ¬ ((x8_3 == 1) = (a2 != 0)) := by simpa using c30))
                      clear c30
                      obtain rfl := Option.some.inj H
                      go_wp2
                      go_ret
                      exact ⟨by first | rfl | (simp [errW_none, errW_some] <;> rfl) | (simp [*, errW_none, errW_some] <;> rfl), by repeat (first | (with_reducible first | exact HB.out | apply below_alloc | apply pw_below_drewN | apply below_drew1) | exact HB.out)⟩

/-- THE ONE PURE STATEMENT of fountainlaw1_FieldPowers: yours. -/
def fountainlaw1_FieldPowers.Pure : Prop := ∀ (a0 : Int) (a1 : Int) (a2 : Int), (Lit.int .i64 a0).wf = true → (Lit.int .i64 a1).wf = true → (Lit.int .u8 a2).wf = true → ∃ k, fountainlaw1_FieldPowers.f k a0 a1 a2 = some true
theorem fountainlaw1_FieldPowers.walk (P : fountainlaw1_FieldPowers.Pure) (a0 : Int) (a1 : Int) (a2 : Int) (w : World) (w0 : (Lit.int .i64 a0).wf = true) (w1 : (Lit.int .i64 a1).wf = true) (w2 : (Lit.int .u8 a2).wf = true) :
    Calls Try.prog 5 #[.int .i64 a0, .int .i64 a1, .int .u8 a2] w fun e w' => e = .returned (.bool true) ∧ Below w.heap.size w w' := by
  obtain ⟨k, h⟩ := P a0 a1 a2 w0 w1 w2
  refine (fountainlaw1_FieldPowers.calls k a0 a1 a2 true w h).mono ?_
  rintro e w' ⟨rfl, hd⟩
  exact ⟨rfl, hd⟩

end Go.Proofs.Ytinplhdjgjijiaa.PFieldPowers
