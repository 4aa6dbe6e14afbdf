/- Written by a program (this session's own): functions that the law reaches, as plain Lean functions, each with the proof that the code comes to it. No conditions but those that stand in the theorems. -/
import Derived.Test.YtbfhinfblepidaaPq
import Derived.Test.YtbfhinfblepidaaDz
import Derived.Test.YtbfhinfblepidaaPDecodeTellsx10
set_option maxHeartbeats 8000000
set_option maxRecDepth 100000
namespace Go.Proofs.Ytbfhinfblepidaa.PDecodeSource
open Go.RowKit Go.Proofs.YtbfhinfblepidaaW.PrintWords Go.Proofs.YtbfhinfblepidaaW.PrintLast Go.Proofs.YtbfhinfblepidaaW.PrintMore Go.Proofs.Ytbfhinfblepidaa.PSolveTells Go.Proofs.Ytbfhinfblepidaa.PSeedTells Go.Proofs.Ytbfhinfblepidaa.PBlockTells Go.Proofs.Ytbfhinfblepidaa.PDecodeTells
attribute [local go_sem] max2_int min2_int max_two min_two max_three min_three max_four min_four
set_option linter.unusedVariables false
set_option linter.unusedSimpArgs false
mutual
noncomputable def fountainlaw11_DecodeSource.j0 : Nat → Int → Int → Bool → Bool → Option (Bool)
 | 0, _, _, _, _ => none
 | k + 1, x0, x1, x5, x30 => if x30 = true then (some x5) else ((fountainref1_Seed.f k x0).bind fun bt452 => (if bt452.2 = 0 then (fountainlaw11_DecodeSource.l0 k x0 x1 ([] : List Int) ([] : List Int) 0) else (some true)))
noncomputable def fountainlaw11_DecodeSource.l0 : Nat → Int → Int → List Int → List Int → Int → Option (Bool)
 | 0, _, _, _, _, _ => none
 | k + 1, x0, x1, x8, x9, x10 => if x10 < x0 then (if x8.length < 17592186044416 then ((some (x8 ++ [x10] : List Int)).bind fun y454 => (if x10 = x1 then (fountainlaw11_DecodeSource.l0 k x0 x1 y454 x9 (wrap64 (x10 + 1))) else (if x9.length < 17592186044416 then (fountainlaw11_DecodeSource.l0 k x0 x1 y454 (x9 ++ [x10]) (wrap64 (x10 + 1))) else (none)))) else (none)) else ((Pd.denough.f x0 x8).bind fun t460 => (if t460 = true then ((Pd.denough.f x0 x9).bind fun t461 => (if t461 = true then (some false) else (if x9.length < 17592186044416 then ((some (x9 ++ [x1] : List Int)).bind fun y462 => (if y462.length < 17592186044416 then ((Pd.denough.f x0 (y462 ++ [7777])).bind fun t468 => (some t468)) else (none))) else (none)))) else (some false)))
end
noncomputable def fountainlaw11_DecodeSource.f (k : Nat) (a0 : Int) (a1 : Int) : Option (Bool) := (Pd.alive11.f).bind fun t451 => (if t451 = true then (if a0 < 1 then (fountainlaw11_DecodeSource.j0 k a0 a1 t451 true) else (if a0 > 14 then (fountainlaw11_DecodeSource.j0 k a0 a1 t451 true) else (if a1 < 0 then (fountainlaw11_DecodeSource.j0 k a0 a1 t451 true) else (fountainlaw11_DecodeSource.j0 k a0 a1 t451 (decide (a1 ≥ a0)))))) else (fountainlaw11_DecodeSource.j0 k a0 a1 t451 true))
theorem fountainlaw11_DecodeSource.calls (k : Nat) (a0 : Int) (a1 : Int) (r : Bool) (w : World) (h : fountainlaw11_DecodeSource.f k a0 a1 = some r) (hrt : r = true) :
 Calls Try.prog 16 #[.int .i64 a0, .int .i64 a1] w fun e w' => e = .returned (.bool r) ∧ Below w.heap.size w w' := by
 have HRT := zA hrt
 clear hrt
 have HB := zA (Below.refl w.heap.size w)
 have H : ((Pd.alive11.f).bind fun t451 => (if t451 = true then (if a0 < 1 then (fountainlaw11_DecodeSource.j0 k a0 a1 t451 true) else (if a0 > 14 then (fountainlaw11_DecodeSource.j0 k a0 a1 t451 true) else (if a1 < 0 then (fountainlaw11_DecodeSource.j0 k a0 a1 t451 true) else (fountainlaw11_DecodeSource.j0 k a0 a1 t451 (decide (a1 ≥ a0)))))) else (fountainlaw11_DecodeSource.j0 k a0 a1 t451 true))) = some r := h
 clear h
 replace H := Option.bind_eq_some_iff.mp H
 obtain ⟨t451, A30, H⟩ := H
 try dsimp only at H
 have A3 := zA A30
 clear A30
 have HC4 := zA H
 clear H
 go_enter Try.func16, Try.ntmps16
 go_upto_region 2 with (first | ((with_reducible refine gate_callee (f := 54) rfl ?_); refine goesL_ (some 11) rfl rfl Try.func54 (by kernel_rfl) rfl #[] rfl agl ?_; (with_reducible refine (Pd.alive11.calls  t451 _ A3.out).mono ?_); rintro e w5 ⟨rfl, hb⟩; refine ⟨_, rfl, ?_⟩; replace HB := zA (belt hb)))
 (try simp only [Act.put, List.setIfInBounds_toArray, List.set_cons_zero, List.set_cons_succ])
 go_cut [30] (fun v30 wc => ∃ (kq : Nat) (x30_3 : Bool), v30 = .bool x30_3 ∧ Aside0 (fountainlaw11_DecodeSource.j0 kq a0 a1 t451 x30_3 = some r) ∧ Aside0 (kq ≤ k) ∧ Aside0 (Below w.heap.size w wc))
 case first =>
  have H := HC4.out
  clear HC4
  by_cases c6 : t451 = true
  ·subst c6
   have H1 : (if a0 < 1 then (fountainlaw11_DecodeSource.j0 k a0 a1 true true) else (if a0 > 14 then (fountainlaw11_DecodeSource.j0 k a0 a1 true true) else (if a1 < 0 then (fountainlaw11_DecodeSource.j0 k a0 a1 true true) else (fountainlaw11_DecodeSource.j0 k a0 a1 true (decide (a1 ≥ a0)))))) = some r := by rw [if_pos rfl] at H; exact H
   clear H
   have H := H1
   clear H1
   by_cases c7 : a0 < 1
   ·rw [if_pos c7] at H
    have c7b0 : decide (a0 < 1) = true := decide_eq_true c7
    clear c7
    (first | rw [c7b0] | (simp only [i64_w, i32_w]; rw [c7b0]) | skip)
    have H' := zA H
    clear H
    go_wp2
    go_meet
    case rel => exact ⟨_, (true), frs, H', ⟨by first | omega | exact Nat.le_refl _⟩, ⟨bel⟩⟩
   ·rw [if_neg c7] at H
    have c7b0 : decide (a0 < 1) = false := decide_eq_false c7
    clear c7
    (first | rw [c7b0] | (simp only [i64_w, i32_w]; rw [c7b0]) | skip)
    by_cases c8 : a0 > 14
    ·rw [if_pos c8] at H
     have c8b0 : decide (14 < a0) = true := decide_eq_true c8
     clear c8
     have H' := zA H
     clear H
     go_wp2
     go_meet
     case rel => exact ⟨_, (true), frs, H', ⟨by first | omega | exact Nat.le_refl _⟩, ⟨bel⟩⟩
    ·rw [if_neg c8] at H
     have c8b0 : decide (14 < a0) = false := decide_eq_false c8
     clear c8
     by_cases c9 : a1 < 0
     ·rw [if_pos c9] at H
      have c9b0 : decide (a1 < 0) = true := decide_eq_true c9
      clear c9
      have H' := zA H
      clear H
      go_wp2
      go_meet
      case rel => exact ⟨_, (true), frs, H', ⟨by first | omega | exact Nat.le_refl _⟩, ⟨bel⟩⟩
     ·rw [if_neg c9] at H
      have c9b0 : decide (a1 < 0) = false := decide_eq_false c9
      clear c9
      have H' := zA H
      clear H
      go_wp2
      go_meet
      case rel => exact ⟨_, (decide (a1 ≥ a0)), frs, H', ⟨by first | omega | exact Nat.le_refl _⟩, ⟨bel⟩⟩
  ·replace c6 := Bool.eq_false_iff.mpr c6
   subst c6
   have H1 : (fountainlaw11_DecodeSource.j0 k a0 a1 false true) = some r := by rw [if_neg (show ¬ (false = true) by decide)] at H; exact H
   clear H
   have H := H1
   clear H1
   have H' := zA H
   clear H
   go_wp2
   go_meet
   case rel => exact ⟨_, (true), frs, H', ⟨by first | omega | exact Nat.le_refl _⟩, ⟨bel⟩⟩
 case rest =>
  clear HC4
  obtain ⟨kq, x30_3, rfl, HA, HJ3, HB⟩ := hcut
  cases kq with
  | zero => exact absurd HA.out (by simp [fountainlaw11_DecodeSource.j0])
  | succ kj3 =>
   have H := HA.out
   clear HA
   simp only [fountainlaw11_DecodeSource.j0] at H
   by_cases c10 : x30_3 = true
   ·subst c10
    have H1 : (some t451) = some r := by rw [if_pos rfl] at H; exact H
    clear H
    have H := H1
    clear H1
    obtain rfl := Option.some.inj H
    go_wp2
    go_ret
    exact ⟨by first | rfl | (simp [errW_none, errW_some] <;> rfl) | (simp [*, errW_none, errW_some] <;> rfl), bel⟩
   ·replace c10 := Bool.eq_false_iff.mpr c10
    subst c10
    have H1 : ((fountainref1_Seed.f kj3 a0).bind fun bt452 => (if bt452.2 = 0 then (fountainlaw11_DecodeSource.l0 kj3 a0 a1 ([] : List Int) ([] : List Int) 0) else (some true))) = some r := by rw [if_neg (show ¬ (false = true) by decide)] at H; exact H
    clear H
    have H := H1
    clear H1
    replace H := Option.bind_eq_some_iff.mp H
    obtain ⟨⟨t452, t453⟩, A110, H⟩ := H
    try dsimp only at H
    have A11 := zA A110
    clear A110
    by_cases c12 : t453 = 0
    ·rw [if_pos c12] at H
     have c12b0 : (t453 == 0) = true := beq_iff_eq.mpr c12
     have c12b1 : (t453 != 0) = false := bne_eq_false_iff_eq.mpr c12
     clear c12
     have H' := zA H
     clear H
     go_wp2_with (first | ((with_reducible refine gate_callee (f := 43) rfl ?_); refine goesL_ (some 34) rfl rfl Try.func43 (by kernel_rfl) rfl #[.int .i64 a0] rfl agl ?_; (with_reducible refine (fountainref1_Seed.calls kj3 a0 t452 t453 _ A11.out).mono ?_); rintro e w13 ⟨rfl, hb⟩; refine ⟨_, rfl, ?_⟩; replace HB := zA (belt hb)))
     go_loopg [8, 9, 10] kj3 (fun kq v8 v9 v10 w' => ∃ (x8_2 : List Int) (x9_2 : List Int) (x10_2 : Int), v10 = .int .i64 x10_2 ∧ Aside0 (fountainlaw11_DecodeSource.l0 kq a0 a1 x8_2 x9_2 x10_2 = some r) ∧ Aside0 (kq ≤ kj3) ∧ Aside0 (Kd.R (Kd.int .i64) 3 w' w.heap.size (fun k_ => some k_ ≠ (v9 : Value).ownBlock) v8 x8_2) ∧ Aside0 (Kd.R (Kd.int .i64) 3 w' w.heap.size (fun k_ => some k_ ≠ (v8 : Value).ownBlock) v9 x9_2) ∧ Aside0 (Below w.heap.size w w'))
     case atStart => exact ⟨(([] : List Int)), (([] : List Int)), (0), frs, H', ⟨Nat.le_refl _⟩, ⟨by first | exact Kd.R_nil _ _ _ _ _ | exact Kd.N_nil _ _ _ _ _ | exact Kd.V_nil _ _ _ _ _ | exact Kd.Q_nil _ _ _ _ _ | exact Kd.S_nil _ _ _ _ _⟩, ⟨by first | exact Kd.R_nil _ _ _ _ _ | exact Kd.N_nil _ _ _ _ _ | exact Kd.V_nil _ _ _ _ _ | exact Kd.Q_nil _ _ _ _ _ | exact Kd.S_nil _ _ _ _ _⟩, ⟨bel⟩⟩
     case round =>
      clear H'
      obtain ⟨x8_2, x9_2, x10_2, rfl, HA, HK2, HO_8, HO_9, HB⟩ := hrel
      cases gk with
      | zero => exact absurd HA.out (by simp [fountainlaw11_DecodeSource.l0])
      | succ k2 =>
       have H := HA.out
       clear HA
       simp only [fountainlaw11_DecodeSource.l0] at H
       by_cases c14 : x10_2 < a0
       ·rw [if_pos c14] at H
        have c14b0 : decide (x10_2 < a0) = true := decide_eq_true c14
        clear c14
        by_cases c15 : x8_2.length < 17592186044416
        ·rw [if_pos c15] at H
         have LMc15 := zA c15
         clear c15
         obtain ⟨y454, hy454⟩ : ∃ y_ : List Int, y_ = (x8_2 ++ [x10_2]) := ⟨_, rfl⟩
         replace H : (if x10_2 = a1 then (fountainlaw11_DecodeSource.l0 k2 a0 a1 y454 x9_2 (wrap64 (x10_2 + 1))) else (if x9_2.length < 17592186044416 then (fountainlaw11_DecodeSource.l0 k2 a0 a1 y454 (x9_2 ++ [x10_2]) (wrap64 (x10_2 + 1))) else (none))) = some r := zC H hy454
         have Ny454 := zA hy454
         clear hy454
         by_cases c16 : x10_2 = a1
         ·rw [if_pos c16] at H
          have c16b0 : (x10_2 == a1) = true := beq_iff_eq.mpr c16
          have c16b1 : (x10_2 != a1) = false := bne_eq_false_iff_eq.mpr c16
          clear c16
          have H' := zA H
          clear H
          go_wp2_with (first | ((with_reducible refine gate_builtin (b := .append) (xs := #[.tmp 44, .tmp 46]) rfl ?_); (try (refine gate_guard (by rfl) ?_; dsimp only)); at_builtin; refine Kd.R_append (Kd.int .i64) (w0 := w) w.heap.size rfl (.tmp 44) (.tmp 46) 51 3 (.int .i64 0) 8 rfl Try.underlying51 info3 rfl (by decide) (by omega) u8 x8_2 x10_2 [.int .i64 x10_2] (fun k_ => some k_ ≠ (u9 : Value).ownBlock) (fun _ => False) rfl rfl ?aP (fun _ hk => hk.elim) ?aF ?aO ?aB ?aS ?aL ?_; (case aP => exact rfl); (case aB => exact bel); (case aF => exact (fun k_ hk => Kd.fresh' (Kd.R_lt (R_g HO_9.out)) k_ hk)); (case aO => exact (R_g HO_8.out)); (case aS => exact bels); (case aL => have := LMc15.out; omega); intro v455 w17 ho hb hg hat; rw [← Ny454.out] at ho; replace HO_9 := zA (Kd.R_after (ok := (fun _ => True)) (R_g (Kd.R_mono HO_9.out (fun _ hk => ⟨trivial, hk⟩))) hg hat); replace HB := zA (hb); have HO456 := zA (ho); clear HO_8; clear ho hb hg hat))
          go_roundg k2
          case measure => have := HJ3.out; have := HK2.out; omega
          case rel => exact ⟨(y454), (x9_2), (wrap64 (x10_2 + 1)), frs, H', ⟨by have := HJ3.out; have := HK2.out; omega⟩, ⟨rdR HO456.out⟩, ⟨by (with_reducible repeat (first | apply Kd.R_alloc | apply Kd.R_drewN | apply Kd.R_drew)); exact Kd.R_mono HO_9.out (fun _ hk => hk.2)⟩, ⟨bel⟩⟩
         ·rw [if_neg c16] at H
          have c16b0 : (x10_2 == a1) = false := beq_eq_false_iff_ne.mpr c16
          have c16b1 : (x10_2 != a1) = true := bne_iff_ne.mpr c16
          by_cases c18 : x9_2.length < 17592186044416
          ·rw [if_pos c18] at H
           have LMc18 := zA c18
           clear c18
           obtain ⟨y457, hy457⟩ : ∃ y_ : List Int, y_ = (x9_2 ++ [x10_2]) := ⟨_, rfl⟩
           replace H : (fountainlaw11_DecodeSource.l0 k2 a0 a1 y454 y457 (wrap64 (x10_2 + 1))) = some r := zC H hy457
           have Ny457 := zA hy457
           clear hy457
           have H' := zA H
           clear H
           go_wp2_with (first | ((with_reducible refine gate_builtin (b := .append) (xs := #[.tmp 44, .tmp 46]) rfl ?_); (try (refine gate_guard (by rfl) ?_; dsimp only)); at_builtin; refine Kd.R_append (Kd.int .i64) (w0 := w) w.heap.size rfl (.tmp 44) (.tmp 46) 51 3 (.int .i64 0) 8 rfl Try.underlying51 info3 rfl (by decide) (by omega) u8 x8_2 x10_2 [.int .i64 x10_2] (fun k_ => some k_ ≠ (u9 : Value).ownBlock) (fun _ => False) rfl rfl ?aP (fun _ hk => hk.elim) ?aF ?aO ?aB ?aS ?aL ?_; (case aP => exact rfl); (case aB => exact bel); (case aF => exact (fun k_ hk => Kd.fresh' (Kd.R_lt (R_g HO_9.out)) k_ hk)); (case aO => exact (R_g HO_8.out)); (case aS => exact bels); (case aL => have := LMc15.out; omega); intro v455 w19 ho hb hg hat; rw [← Ny454.out] at ho; replace HO_9 := zA (Kd.R_after (ok := (fun _ => True)) (R_g (Kd.R_mono HO_9.out (fun _ hk => ⟨trivial, hk⟩))) hg hat); replace HB := zA (hb); have HO456 := zA (ho); clear HO_8; clear ho hb hg hat) | ((with_reducible refine gate_builtin (b := .append) (xs := #[.tmp 51, .tmp 53]) rfl ?_); (try (refine gate_guard (by rfl) ?_; dsimp only)); at_builtin; refine Kd.R_append (Kd.int .i64) (w0 := w) w.heap.size rfl (.tmp 51) (.tmp 53) 51 3 (.int .i64 0) 8 rfl Try.underlying51 info3 rfl (by decide) (by omega) u9 x9_2 x10_2 [.int .i64 x10_2] (fun k_ => some k_ ≠ (v455 : Value).ownBlock) (fun _ => False) rfl rfl ?aP (fun _ hk => hk.elim) ?aF ?aO ?aB ?aS ?aL ?_; (case aP => exact rfl); (case aB => exact bel); (case aF => exact (fun k_ hk => Kd.fresh' (Kd.R_lt (R_g HO456.out)) k_ hk)); (case aO => exact (R_g (Kd.R_mono HO_9.out (fun _ hk => hk.2)))); (case aS => exact bels); (case aL => have := LMc18.out; omega); intro v458 w20 ho hb hg hat; rw [← Ny457.out] at ho; replace HO456 := zA (Kd.R_after (ok := (fun _ => True)) (R_g (Kd.R_mono HO456.out (fun _ hk => ⟨trivial, hk⟩))) hg hat); replace HB := zA (hb); have HO459 := zA (ho); clear HO_9; clear ho hb hg hat))
           go_roundg k2
           case measure => have := HJ3.out; have := HK2.out; omega
           case rel => exact ⟨(y454), (y457), (wrap64 (x10_2 + 1)), frs, H', ⟨by have := HJ3.out; have := HK2.out; omega⟩, ⟨by (with_reducible repeat (first | apply Kd.R_alloc | apply Kd.R_drewN | apply Kd.R_drew)); exact Kd.R_mono HO456.out (fun _ hk => hk.2)⟩, ⟨rdR HO459.out⟩, ⟨bel⟩⟩
          ·rw [if_neg c18] at H
           exact absurd H (by simp)
        ·rw [if_neg c15] at H
         exact absurd H (by simp)
       ·rw [if_neg c14] at H
        have c14b0 : decide (x10_2 < a0) = false := decide_eq_false c14
        clear c14
        replace H := Option.bind_eq_some_iff.mp H
        obtain ⟨t460, A210, H⟩ := H
        try dsimp only at H
        have A21 := zA A210
        clear A210
        by_cases c22 : t460 = true
        ·subst c22
         have H1 : ((Pd.denough.f a0 x9_2).bind fun t461 => (if t461 = true then (some false) else (if x9_2.length < 17592186044416 then ((some (x9_2 ++ [a1] : List Int)).bind fun y462 => (if y462.length < 17592186044416 then ((Pd.denough.f a0 (y462 ++ [7777])).bind fun t468 => (some t468)) else (none))) else (none)))) = some r := by rw [if_pos rfl] at H; exact H
         clear H
         have H := H1
         clear H1
         replace H := Option.bind_eq_some_iff.mp H
         obtain ⟨t461, A230, H⟩ := H
         try dsimp only at H
         have A23 := zA A230
         clear A230
         by_cases c24 : t461 = true
         ·subst c24
          have H1 : (some false) = some r := by rw [if_pos rfl] at H; exact H
          clear H
          have H := H1
          clear H1
          exact absurd ((Option.some.inj H).trans HRT.out) (by decide)
         ·replace c24 := Bool.eq_false_iff.mpr c24
          subst c24
          have H1 : (if x9_2.length < 17592186044416 then ((some (x9_2 ++ [a1] : List Int)).bind fun y462 => (if y462.length < 17592186044416 then ((Pd.denough.f a0 (y462 ++ [7777])).bind fun t468 => (some t468)) else (none))) else (none)) = some r := by rw [if_neg (show ¬ (false = true) by decide)] at H; exact H
          clear H
          have H := H1
          clear H1
          by_cases c25 : x9_2.length < 17592186044416
          ·rw [if_pos c25] at H
           have LMc25 := zA c25
           clear c25
           obtain ⟨y462, hy462⟩ : ∃ y_ : List Int, y_ = (x9_2 ++ [a1]) := ⟨_, rfl⟩
           replace H : (if y462.length < 17592186044416 then ((Pd.denough.f a0 (y462 ++ [7777])).bind fun t468 => (some t468)) else (none)) = some r := zC H hy462
           have Ny462 := zA hy462
           clear hy462
           by_cases c26 : y462.length < 17592186044416
           ·rw [if_pos c26] at H
            have LMc26 := zA c26
            clear c26
            obtain ⟨y465, hy465⟩ : ∃ y_ : List Int, y_ = (y462 ++ [7777]) := ⟨_, rfl⟩
            replace H : ((Pd.denough.f a0 y465).bind fun t468 => (some t468)) = some r := zC H hy465
            have Ny465 := zA hy465
            clear hy465
            replace H := Option.bind_eq_some_iff.mp H
            obtain ⟨t468, A270, H⟩ := H
            try dsimp only at H
            have A27 := zA A270
            clear A270
            obtain rfl := Option.some.inj H
            obtain ⟨Ao28, co28, eo28⟩ := Kd.R_slice HO_8.out
            subst eo28
            go_wp2_with (first | ((with_reducible refine gate_callee (f := 59) rfl ?_); refine goesL_ (some 57) rfl rfl Try.func59 (by kernel_rfl) rfl #[.int .i64 a0, .slice Ao28 x8_2.length co28] rfl agl ?_; (with_reducible refine (Pd.denough.calls a0 _ _ x8_2 true _ ?side1 ?side2 A21.out).mono ?_); (case side1 => repeat (first | exact (Kd.R_reads' HO_8.out).2.2 | (with_reducible refine Kd.C_alloc ?_ _) | (with_reducible refine Kd.C_drewN ?_ _) | (with_reducible refine Kd.C_drew ?_))); (case side2 => exact (Kd.R_reads' HO_8.out).2.1); rintro e w29 ⟨rfl, hb⟩; refine ⟨_, rfl, ?_⟩; replace HO_8 := zA (Kd.R_below (R_g HO_8.out) hb); replace HO_9 := zA (Kd.R_below (R_g HO_9.out) hb); replace HB := zA (belt hb); obtain ⟨Ao30, co30, eo30⟩ := Kd.R_slice HO_9.out; subst eo30) | (go_at_call 59; (with_reducible refine (Pd.denough.calls a0 _ _ x9_2 false _ ?side1 ?side2 A23.out).mono ?_); (case side1 => repeat (first | exact (Kd.R_reads' HO_9.out).2.2 | (with_reducible refine Kd.C_alloc ?_ _) | (with_reducible refine Kd.C_drewN ?_ _) | (with_reducible refine Kd.C_drew ?_))); (case side2 => exact (Kd.R_reads' HO_9.out).2.1); rintro e w31 ⟨rfl, hb⟩; replace HO_8 := zA (Kd.R_below (R_g HO_8.out) hb); replace HO_9 := zA (Kd.R_below (R_g HO_9.out) hb); replace HB := zA (belt hb)) | ((with_reducible refine gate_builtin (b := .append) (xs := #[.tmp 66, .tmp 68]) rfl ?_); (try (refine gate_guard (by rfl) ?_; dsimp only)); at_builtin; refine Kd.R_append (Kd.int .i64) (w0 := w) w.heap.size rfl (.tmp 66) (.tmp 68) 51 3 (.int .i64 0) 8 rfl Try.underlying51 info3 rfl (by decide) (by omega) (.slice Ao30 x9_2.length co30) x9_2 a1 [.int .i64 a1] (fun k_ => some k_ ≠ (.slice Ao28 x8_2.length co28 : Value).ownBlock) (fun _ => False) rfl rfl ?aP (fun _ hk => hk.elim) ?aF ?aO ?aB ?aS ?aL ?_; (case aP => exact rfl); (case aB => exact bel); (case aF => exact (fun k_ hk => Kd.fresh' (Kd.R_lt (R_g HO_8.out)) k_ hk)); (case aO => exact (R_g HO_9.out)); (case aS => exact bels); (case aL => have := LMc25.out; omega); intro v463 w32 ho hb hg hat; rw [← Ny462.out] at ho; replace HO_8 := zA (Kd.R_after (ok := (fun _ => True)) (R_g (Kd.R_mono HO_8.out (fun _ hk => ⟨trivial, hk⟩))) hg hat); replace HB := zA (hb); have HO464 := zA (ho); clear HO_9; clear ho hb hg hat) | ((with_reducible refine gate_builtin (b := .append) (xs := #[.tmp 69, .tmp 70]) rfl ?_); (try (refine gate_guard (by rfl) ?_; dsimp only)); at_builtin; refine Kd.R_append (Kd.int .i64) (w0 := w) w.heap.size rfl (.tmp 69) (.tmp 70) 51 3 (.int .i64 0) 8 rfl Try.underlying51 info3 rfl (by decide) (by omega) v463 y462 7777 [.int .i64 7777] (fun k_ => some k_ ≠ (.slice Ao28 x8_2.length co28 : Value).ownBlock) (fun _ => False) rfl rfl ?aP (fun _ hk => hk.elim) ?aF ?aO ?aB ?aS ?aL ?_; (case aP => exact rfl); (case aB => exact bel); (case aF => exact (fun k_ hk => Kd.fresh' (Kd.R_lt (R_g HO_8.out)) k_ hk)); (case aO => exact (R_g HO464.out)); (case aS => exact bels); (case aL => have := LMc26.out; omega); intro v466 w33 ho hb hg hat; rw [← Ny465.out] at ho; replace HO_8 := zA (Kd.R_after (ok := (fun _ => True)) (by (with_reducible repeat (first | apply Kd.R_alloc | apply Kd.R_drewN | apply Kd.R_drew)); first | exact HO_8.out | exact Kd.S_mono HO_8.out (fun _ hk => ⟨trivial, hk⟩)) hg hat); replace HB := zA (hb); have HO467 := zA (ho); clear HO464; clear ho hb hg hat; obtain ⟨Ao34, co34, eo34⟩ := Kd.R_slice HO467.out; subst eo34) | (go_at_call 59; (with_reducible refine (Pd.denough.calls a0 _ _ y465 t468 _ ?side1 ?side2 A27.out).mono ?_); (case side1 => repeat (first | exact (Kd.R_reads' HO467.out).2.2 | (with_reducible refine Kd.C_alloc ?_ _) | (with_reducible refine Kd.C_drewN ?_ _) | (with_reducible refine Kd.C_drew ?_))); (case side2 => exact (Kd.R_reads' HO467.out).2.1); rintro e w35 ⟨rfl, hb⟩; replace HO_8 := zA (Kd.R_below (R_g HO_8.out) hb); replace HO467 := zA (Kd.R_below (R_g HO467.out) hb); replace HB := zA (belt hb)))
            go_ret
            exact ⟨by first | rfl | (simp [errW_none, errW_some] <;> rfl) | (simp [*, errW_none, errW_some] <;> rfl), bel⟩
           ·rw [if_neg c26] at H
            exact absurd H (by simp)
          ·rw [if_neg c25] at H
           exact absurd H (by simp)
        ·replace c22 := Bool.eq_false_iff.mpr c22
         subst c22
         have H1 : (some false) = some r := by rw [if_neg (show ¬ (false = true) by decide)] at H; exact H
         clear H
         have H := H1
         clear H1
         exact absurd ((Option.some.inj H).trans HRT.out) (by decide)
    ·rw [if_neg c12] at H
     have c12b0 : (t453 == 0) = false := beq_eq_false_iff_ne.mpr c12
     have c12b1 : (t453 != 0) = true := bne_iff_ne.mpr c12
     obtain rfl := Option.some.inj H
     go_wp2_with (first | ((with_reducible refine gate_callee (f := 43) rfl ?_); refine goesL_ (some 34) rfl rfl Try.func43 (by kernel_rfl) rfl #[.int .i64 a0] rfl agl ?_; (with_reducible refine (fountainref1_Seed.calls kj3 a0 t452 t453 _ A11.out).mono ?_); rintro e w36 ⟨rfl, hb⟩; refine ⟨_, rfl, ?_⟩; replace HB := zA (belt hb)))
     go_ret
     exact ⟨by first | rfl | (simp [errW_none, errW_some] <;> rfl) | (simp [*, errW_none, errW_some] <;> rfl), bel⟩
end Go.Proofs.Ytbfhinfblepidaa.PDecodeSource
