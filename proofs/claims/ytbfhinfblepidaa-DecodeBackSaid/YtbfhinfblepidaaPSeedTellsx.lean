/- Written by a program (this session's own): functions that the law reaches, as plain Lean functions, each with the proof that the code comes to it. No conditions but those that stand in the theorems. -/
import Derived.Test.YtbfhinfblepidaaPq
import Derived.Test.YtbfhinfblepidaaPSolveTellsx
import Derived.Test.YtbfhinfblepidaaPa
import Derived.Test.YtbfhinfblepidaaPSeedTellsx3
import Derived.Test.YtbfhinfblepidaaPSeedTellsx10
import Derived.Test.YtbfhinfblepidaaPSeedTellsx12
import Derived.Test.YtbfhinfblepidaaPSeedTellsx5
import Derived.Test.YtbfhinfblepidaaPSeedTellsx7
set_option maxHeartbeats 8000000
set_option maxRecDepth 100000
namespace Go.Proofs.Ytbfhinfblepidaa.PSeedTells
open Go.RowKit Go.Proofs.YtbfhinfblepidaaW.PrintWords Go.Proofs.YtbfhinfblepidaaW.PrintLast Go.Proofs.YtbfhinfblepidaaW.PrintMore Go.Proofs.Ytbfhinfblepidaa.PSolveTells
attribute [local go_sem] max2_int min2_int max_two min_two max_three min_three max_four min_four
set_option linter.unusedVariables false
set_option linter.unusedSimpArgs false
mutual
noncomputable def fountainref1_Matrix.j0 : Nat → Int → Int → List Int → Bool → Option ((List (List Int)))
 | 0, _, _, _, _ => none
 | k + 1, x0, x1, x2, x23 => if x23 = true then (some ([] : List (List Int))) else ((fountainref1_Low.f k x0).bind fun t367 => ((fountainref1_High.f k x0).bind fun t370 => (if t367.length + t370.length < 5864062014805 then (fountainref1_Matrix.l0 k x0 x1 x2 (t367 ++ t370) 0) else (none))))
noncomputable def fountainref1_Matrix.l0 : Nat → Int → Int → List Int → List (List Int) → Int → Option ((List (List Int)))
 | 0, _, _, _, _, _ => none
 | k + 1, x0, x1, x2, x7, x8 => if x8 < (x2.length : Int) then (if 0 ≤ x8 then ((fountainref1_Row.f k x0 x1 (rd x2 x8)).bind fun t377 => (if (t377.length : Int) = 0 then (some ([] : List (List Int))) else (if x7.length < 5864062014805 then (fountainref1_Matrix.l0 k x0 x1 x2 (x7 ++ [t377]) (wrap64 (x8 + 1))) else (none)))) else (none)) else (some x7)
end
noncomputable def fountainref1_Matrix.f (k : Nat) (a0 : Int) (a1 : Int) (l2 : List Int) : Option ((List (List Int))) := if a0 < 1 then (fountainref1_Matrix.j0 k a0 a1 l2 true) else (if a0 > 40 then (fountainref1_Matrix.j0 k a0 a1 l2 true) else (if a1 < 0 then (fountainref1_Matrix.j0 k a0 a1 l2 true) else (fountainref1_Matrix.j0 k a0 a1 l2 (decide (a1 > 255)))))
theorem fountainref1_Matrix.calls (k : Nat) (a0 : Int) (a1 : Int) (A2 : Option Addr) (c2 : Nat) (l2 : List Int) (r : List (List Int)) (w : World) (hr2 : Kd.C (Kd.int .i64) w A2 l2.length l2) (hc2 : l2.length ≤ c2) (h : fountainref1_Matrix.f k a0 a1 l2 = some r) :
 Calls Try.prog 39 #[.int .i64 a0, .int .i64 a1, .slice A2 l2.length c2] w fun e w' => ∃ v0_ : Value, e = .returned (v0_) ∧ Kd.N (Kd.slice 5 (Kd.int .u8)) 30 w' w.heap.size (fun k_ => (w.heap.size ≤ k_)) v0_ r ∧ Below w.heap.size w w' := by
 have HR2 := zA hr2
 have HC2 := zA hc2
 clear hr2 hc2
 have HB := zA (Below.refl w.heap.size w)
 have H : (if a0 < 1 then (fountainref1_Matrix.j0 k a0 a1 l2 true) else (if a0 > 40 then (fountainref1_Matrix.j0 k a0 a1 l2 true) else (if a1 < 0 then (fountainref1_Matrix.j0 k a0 a1 l2 true) else (fountainref1_Matrix.j0 k a0 a1 l2 (decide (a1 > 255)))))) = some r := h
 clear h
 have HC4 := zA H
 clear H
 go_enter Try.func39, Try.ntmps39
 go_upto_region 1 with (fail)
 go_cut [23] (fun v23 wc => ∃ (kq : Nat) (x23_3 : Bool), v23 = .bool x23_3 ∧ Aside0 (fountainref1_Matrix.j0 kq a0 a1 l2 x23_3 = some r) ∧ Aside0 (kq ≤ k) ∧ Aside0 (Below w.heap.size w wc))
 case first =>
  have H := HC4.out
  clear HC4
  by_cases c5 : a0 < 1
  ·rw [if_pos c5] at H
   have c5b0 : decide (a0 < 1) = true := decide_eq_true c5
   clear c5
   (first | rw [c5b0] | (simp only [i64_w, i32_w]; rw [c5b0]) | skip)
   have H' := zA H
   clear H
   go_wp2
   go_meet
   case rel => exact ⟨_, (true), frs, H', ⟨by first | omega | exact Nat.le_refl _⟩, ⟨bel⟩⟩
  ·rw [if_neg c5] at H
   have c5b0 : decide (a0 < 1) = false := decide_eq_false c5
   clear c5
   (first | rw [c5b0] | (simp only [i64_w, i32_w]; rw [c5b0]) | skip)
   by_cases c6 : a0 > 40
   ·rw [if_pos c6] at H
    have c6b0 : decide (40 < a0) = true := decide_eq_true c6
    clear c6
    have H' := zA H
    clear H
    go_wp2
    go_meet
    case rel => exact ⟨_, (true), frs, H', ⟨by first | omega | exact Nat.le_refl _⟩, ⟨bel⟩⟩
   ·rw [if_neg c6] at H
    have c6b0 : decide (40 < a0) = false := decide_eq_false c6
    clear c6
    by_cases c7 : a1 < 0
    ·rw [if_pos c7] at H
     have c7b0 : decide (a1 < 0) = true := decide_eq_true c7
     clear c7
     have H' := zA H
     clear H
     go_wp2
     go_meet
     case rel => exact ⟨_, (true), frs, H', ⟨by first | omega | exact Nat.le_refl _⟩, ⟨bel⟩⟩
    ·rw [if_neg c7] at H
     have c7b0 : decide (a1 < 0) = false := decide_eq_false c7
     clear c7
     have H' := zA H
     clear H
     go_wp2
     go_meet
     case rel => exact ⟨_, (decide (a1 > 255)), frs, H', ⟨by first | omega | exact Nat.le_refl _⟩, ⟨bel⟩⟩
 case rest =>
  clear HC4
  obtain ⟨kq, x23_3, rfl, HA, HJ3, HB⟩ := hcut
  cases kq with
  | zero => exact absurd HA.out (by simp [fountainref1_Matrix.j0])
  | succ kj3 =>
   have H := HA.out
   clear HA
   simp only [fountainref1_Matrix.j0] at H
   by_cases c8 : x23_3 = true
   ·subst c8
    have H1 : (some ([] : List (List Int))) = some r := by rw [if_pos rfl] at H; exact H
    clear H
    have H := H1
    clear H1
    obtain rfl := Option.some.inj H
    go_wp2
    go_ret
    exact ⟨_, by first | rfl | (simp [errW_none, errW_some] <;> rfl) | (simp [*, errW_none, errW_some] <;> rfl), by first | exact Kd.S_nil _ _ _ _ _ | exact Kd.N_nil _ _ _ _ _ | exact Kd.V_nil _ _ _ _ _ | exact Kd.Q_nil _ _ _ _ _ | exact Kd.R_nil _ _ _ _ _, bel⟩
   ·replace c8 := Bool.eq_false_iff.mpr c8
    subst c8
    have H1 : ((fountainref1_Low.f kj3 a0).bind fun t367 => ((fountainref1_High.f kj3 a0).bind fun t370 => (if t367.length + t370.length < 5864062014805 then (fountainref1_Matrix.l0 kj3 a0 a1 l2 (t367 ++ t370) 0) else (none)))) = some r := by rw [if_neg (show ¬ (false = true) by decide)] at H; exact H
    clear H
    have H := H1
    clear H1
    replace H := Option.bind_eq_some_iff.mp H
    obtain ⟨t367, A90, H⟩ := H
    try dsimp only at H
    have A9 := zA A90
    clear A90
    replace H := Option.bind_eq_some_iff.mp H
    obtain ⟨t370, A100, H⟩ := H
    try dsimp only at H
    have A10 := zA A100
    clear A100
    by_cases c11 : t367.length + t370.length < 5864062014805
    ·rw [if_pos c11] at H
     have LMc11 := zA c11
     clear c11
     obtain ⟨y373, hy373⟩ : ∃ y_ : List (List Int), y_ = (t367 ++ t370) := ⟨_, rfl⟩
     replace H : (fountainref1_Matrix.l0 kj3 a0 a1 l2 y373 0) = some r := zC H hy373
     have Ny373 := zA hy373
     clear hy373
     have H' := zA H
     clear H
     go_wp2_with (first | ((with_reducible refine gate_callee (f := 36) rfl ?_); refine goesL_ (some 25) rfl rfl Try.func36 (by kernel_rfl) rfl #[.int .i64 a0] rfl agl ?_; (with_reducible refine (fountainref1_Low.calls kj3 a0 t367 _ A9.out).mono ?_); rintro e w12 ⟨v368, rfl, ho0, hb⟩; refine ⟨_, rfl, ?_⟩; have HO369 := zA (Kd.N_lower (Kd.N_mono (ok' := fun k_ => (w.heap.size ≤ k_)) (Kd.S_N (Kd.S_bound ho0)) (fun k_ hk_ => (Nat.le_trans bels hk_.2.1))) bels); replace HB := zA (belt hb)) | ((with_reducible refine gate_callee (f := 37) rfl ?_); refine goesL_ (some 27) rfl rfl Try.func37 (by kernel_rfl) rfl #[.int .i64 a0] rfl agl ?_; (with_reducible refine (fountainref1_High.calls kj3 a0 t370 _ A10.out).mono ?_); rintro e w13 ⟨v371, rfl, ho0, hb⟩; refine ⟨_, rfl, ?_⟩; have HO372 := zA (Kd.N_lower (Kd.N_mono (ok' := fun k_ => (w.heap.size ≤ k_) ∧ some k_ ≠ (v368 : Value).ownBlock) (Kd.S_N (Kd.S_bound ho0)) (fun k_ hk_ => ⟨(Nat.le_trans bels hk_.2.1), (Kd.fresh' (Kd.N_lt (N_g HO369.out)) k_ hk_.2.1)⟩)) bels); replace HO369 := zA (Kd.N_elder' (N_g HO369.out) (by first | exact Kd.N_base ho0 | exact Kd.N_base (Kd.S_N ho0)) hb); replace HB := zA (belt hb); obtain ⟨Ao15, co15, eo15⟩ := Kd.N_slice HO372.out; subst eo15) | ((with_reducible refine gate_builtin (b := .append) (xs := #[.tmp 25, .tmp 27]) rfl ?_); at_builtin; refine Kd.N_append_rows (Kd.slice 5 (Kd.int .u8)) (w0 := w) w.heap.size rfl (.tmp 25) (.tmp 27) 34 30 (.slice none 0 0) 24 rfl Try.underlying34 info30 rfl (by decide) (by omega) v368 t367 t370 _ _ _ (fun k_ => (w.heap.size ≤ k_)) (fun k_ => ((fun k_ => (w.heap.size ≤ k_))) k_ ∧ some k_ ≠ (v368 : Value).ownBlock) rfl rfl ?aO ?aR (fun _ hk => hk) ?aF ?aB ?aS ?aL ?_; (case aR => exact (by skip; exact Kd.N_F (Kd.N_mono (ok' := (fun k_ => ((fun k_ => (w.heap.size ≤ k_))) k_ ∧ some k_ ≠ (v368 : Value).ownBlock)) (HO372.out) (fun k_ hk => ⟨hk.1, hk.2⟩)))); (case aB => exact bel); (case aF => exact (fun k_ hk => (Nat.le_trans bels hk))); (case aO => exact (N_g (Kd.N_mono HO369.out (fun _ hk => hk.1)))); (case aS => exact bels); (case aL => have := LMc11.out; omega); intro v374 w14 ho hb hg hat; rw [← Ny373.out] at ho; replace HO372 := zA (Kd.N_afterv (ok := (fun k_ => (w.heap.size ≤ k_))) (N_g HO372.out) hg hat); replace HB := zA (hb); have HO375 := zA (ho); clear HO369; clear ho hb hg hat))
     go_loopg [7, 8] kj3 (fun kq v7 v8 w' => ∃ (x7_2 : List (List Int)) (x8_2 : Int), v8 = .int .i64 x8_2 ∧ Aside0 (fountainref1_Matrix.l0 kq a0 a1 l2 x7_2 x8_2 = some r) ∧ Aside0 (kq ≤ kj3) ∧ Aside0 (Kd.N (Kd.slice 5 (Kd.int .u8)) 30 w' w.heap.size (fun k_ => (w.heap.size ≤ k_)) v7 x7_2) ∧ Aside0 (Below w.heap.size w w'))
     case atStart => exact ⟨(y373), (0), frs, H', ⟨Nat.le_refl _⟩, ⟨rdN HO375.out⟩, ⟨bel⟩⟩
     case round =>
      clear H'
      obtain ⟨x7_2, x8_2, rfl, HA, HK2, HO_7, HB⟩ := hrel
      cases gk with
      | zero => exact absurd HA.out (by simp [fountainref1_Matrix.l0])
      | succ k2 =>
       have H := HA.out
       clear HA
       simp only [fountainref1_Matrix.l0] at H
       by_cases c16 : x8_2 < (l2.length : Int)
       ·rw [if_pos c16] at H
        have c16b0 : decide (x8_2 < (l2.length : Int)) = true := decide_eq_true c16
        clear c16
        by_cases c17 : 0 ≤ x8_2
        ·rw [if_pos c17] at H
         have c17b0 : decide (0 ≤ x8_2) = true := decide_eq_true c17
         clear c17
         replace H := Option.bind_eq_some_iff.mp H
         obtain ⟨t377, A180, H⟩ := H
         try dsimp only at H
         have A18 := zA A180
         clear A180
         by_cases c19 : (t377.length : Int) = 0
         ·rw [if_pos c19] at H
          have c19b0 : ((t377.length : Int) == 0) = true := beq_iff_eq.mpr c19
          have c19b1 : ((t377.length : Int) != 0) = false := bne_eq_false_iff_eq.mpr c19
          clear c19
          obtain rfl := Option.some.inj H
          have p376 : 0 ≤ (x8_2 : Int) := of_decide_eq_true asu
          have q376 : x8_2 < (l2.length : Int) := of_decide_eq_true asu
          obtain ⟨ad376, e376, hx376_0⟩ := Kd.at_int HR2.out x8_2 p376 q376
          cases e376
          replace hx376_0 := (HB.out.cell (World.block_lt_of_cell? w _ hx376_0)).trans hx376_0
          replace p376 := eq_true p376
          replace q376 := eq_true q376
          go_wp2_with (first | ((with_reducible refine gate_callee (f := 40) rfl ?_); refine goesL_ (some 41) rfl rfl Try.func40 (by kernel_rfl) rfl #[.int .i64 a0, .int .i64 a1, .int .i64 (rd l2 x8_2)] rfl agl ?_; (with_reducible refine (fountainref1_Row.calls k2 a0 a1 (rd l2 x8_2) t377 _ A18.out).mono ?_); rintro e w20 ⟨v378, rfl, ho0, hb⟩; refine ⟨_, rfl, ?_⟩; replace HO_7 := zA (Kd.N_elder' (N_g HO_7.out) (Kd.R_base ho0) hb); have HO379 := zA (Kd.R_lower (Kd.R_newM (M := fun k_ => (w.heap.size ≤ k_)) ho0 bels (fun k_ h_ => h_)) bels); replace HB := zA (belt hb); obtain ⟨Ao21, co21, eo21⟩ := Kd.R_slice HO379.out; subst eo21))
          go_ret
          exact ⟨_, by first | rfl | (simp [errW_none, errW_some] <;> rfl) | (simp [*, errW_none, errW_some] <;> rfl), by first | exact Kd.S_nil _ _ _ _ _ | exact Kd.N_nil _ _ _ _ _ | exact Kd.V_nil _ _ _ _ _ | exact Kd.Q_nil _ _ _ _ _ | exact Kd.R_nil _ _ _ _ _, bel⟩
         ·rw [if_neg c19] at H
          have c19b0 : ((t377.length : Int) == 0) = false := beq_eq_false_iff_ne.mpr c19
          have c19b1 : ((t377.length : Int) != 0) = true := bne_iff_ne.mpr c19
          have c19b2 : ¬ (t377 = []) := fun h_ => c19 (by rw [h_]; rfl)
          by_cases c22 : x7_2.length < 5864062014805
          ·rw [if_pos c22] at H
           have LMc22 := zA c22
           clear c22
           obtain ⟨y380, hy380⟩ : ∃ y_ : List (List Int), y_ = (x7_2 ++ [t377]) := ⟨_, rfl⟩
           replace H : (fountainref1_Matrix.l0 k2 a0 a1 l2 y380 (wrap64 (x8_2 + 1))) = some r := zC H hy380
           have Ny380 := zA hy380
           clear hy380
           have H' := zA H
           clear H
           have p376 : 0 ≤ (x8_2 : Int) := of_decide_eq_true asu
           have q376 : x8_2 < (l2.length : Int) := of_decide_eq_true asu
           obtain ⟨ad376, e376, hx376_0⟩ := Kd.at_int HR2.out x8_2 p376 q376
           cases e376
           replace hx376_0 := (HB.out.cell (World.block_lt_of_cell? w _ hx376_0)).trans hx376_0
           replace p376 := eq_true p376
           replace q376 := eq_true q376
           go_wp2_with (first | ((with_reducible refine gate_callee (f := 40) rfl ?_); refine goesL_ (some 41) rfl rfl Try.func40 (by kernel_rfl) rfl #[.int .i64 a0, .int .i64 a1, .int .i64 (rd l2 x8_2)] rfl agl ?_; (with_reducible refine (fountainref1_Row.calls k2 a0 a1 (rd l2 x8_2) t377 _ A18.out).mono ?_); rintro e w23 ⟨v378, rfl, ho0, hb⟩; refine ⟨_, rfl, ?_⟩; replace HO_7 := zA (Kd.N_elder' (N_g HO_7.out) (Kd.R_base ho0) hb); have HO379 := zA (Kd.R_lower (Kd.R_newM (M := fun k_ => (w.heap.size ≤ k_)) ho0 bels (fun k_ h_ => h_)) bels); replace HB := zA (belt hb); obtain ⟨Ao24, co24, eo24⟩ := Kd.R_slice HO379.out; subst eo24) | ((with_reducible refine gate_builtin (b := .append) (xs := #[.tmp 45, .tmp 47]) rfl ?_); at_builtin; refine Kd.N_append (Kd.slice 5 (Kd.int .u8)) (w0 := w) w.heap.size rfl (.tmp 45) (.tmp 47) 34 30 (.slice none 0 0) 24 rfl Try.underlying34 info30 rfl (by decide) (by omega) u7 x7_2 t377 [.slice Ao24 t377.length co24] (fun k_ => (w.heap.size ≤ k_)) (fun k_ => ((fun k_ => (w.heap.size ≤ k_))) k_ ∧ some k_ ≠ (u7 : Value).ownBlock) rfl rfl ?aP (fun _ hk => hk) ?aF ?aO ?aB ?aS ?aL ?_; (case aP => exact (Kd.FK_slice_mk (Kd.R_reads' (Kd.R_mono (ok' := (fun k_ => ((fun k_ => (w.heap.size ≤ k_))) k_ ∧ some k_ ≠ (u7 : Value).ownBlock)) (Kd.R_apart' (HO379.out) (Kd.N_typed HO_7.out) (by decide)) (fun k_ hk => ⟨hk.1.1, hk.2⟩))).2.1 (Kd.R_F (Kd.R_mono (ok' := (fun k_ => ((fun k_ => (w.heap.size ≤ k_))) k_ ∧ some k_ ≠ (u7 : Value).ownBlock)) (Kd.R_apart' (HO379.out) (Kd.N_typed HO_7.out) (by decide)) (fun k_ hk => ⟨hk.1.1, hk.2⟩))))); (case aB => exact bel); (case aF => exact (fun k_ hk => (Nat.le_trans bels hk))); (case aO => exact (N_g (Kd.N_mono HO_7.out (fun _ hk => hk.1)))); (case aS => exact bels); (case aL => have := LMc22.out; omega); intro v381 w25 ho hb hg hat; rw [← Ny380.out] at ho; replace HB := zA (hb); have HO382 := zA (ho); clear HO_7 HO379; clear ho hb hg hat))
           go_roundg k2
           case measure => have := HJ3.out; have := HK2.out; omega
           case rel => exact ⟨(y380), (wrap64 (x8_2 + 1)), frs, H', ⟨by have := HJ3.out; have := HK2.out; omega⟩, ⟨rdN HO382.out⟩, ⟨bel⟩⟩
          ·rw [if_neg c22] at H
           exact absurd H (by simp)
        ·rw [if_neg c17] at H
         exact absurd H (by simp)
       ·rw [if_neg c16] at H
        have c16b0 : decide (x8_2 < (l2.length : Int)) = false := decide_eq_false c16
        clear c16
        obtain rfl := Option.some.inj H
        go_wp2
        go_ret
        exact ⟨_, by first | rfl | (simp [errW_none, errW_some] <;> rfl) | (simp [*, errW_none, errW_some] <;> rfl), rdN HO_7.out, bel⟩
    ·rw [if_neg c11] at H
     exact absurd H (by simp)
noncomputable def fountainref1_first.l0 : Nat → Int → List Int → Int → Option (List Int)
 | 0, _, _, _ => none
 | k + 1, x0, x3, x4 => if x4 < x0 then (if x3.length < 17592186044416 then (fountainref1_first.l0 k x0 (x3 ++ [x4]) (wrap64 (x4 + 1))) else (none)) else (some x3)
noncomputable def fountainref1_first.f (k : Nat) (a0 : Int) : Option (List Int) := fountainref1_first.l0 k a0 ([] : List Int) 0
theorem fountainref1_first.calls (k : Nat) (a0 : Int) (r : List Int) (w : World) (h : fountainref1_first.f k a0 = some r) :
 Calls Try.prog 79 #[.int .i64 a0] w fun e w' => ∃ v0_ : Value, e = .returned (v0_) ∧ Kd.R (Kd.int .i64) 3 w' w.heap.size (fun _ => True) v0_ r ∧ Below w.heap.size w w' := by
 have HB := zA (Below.refl w.heap.size w)
 have H : (fountainref1_first.l0 k a0 ([] : List Int) 0) = some r := h
 clear h
 have H' := zA H
 clear H
 go_enter Try.func79, Try.ntmps79
 go_wp2
 go_loopg [3, 4] k (fun kq v3 v4 w' => ∃ (x3_1 : List Int) (x4_1 : Int), v4 = .int .i64 x4_1 ∧ Aside0 (fountainref1_first.l0 kq a0 x3_1 x4_1 = some r) ∧ Aside0 (kq ≤ k) ∧ Aside0 (Kd.R (Kd.int .i64) 3 w' w.heap.size (fun _ => True) v3 x3_1) ∧ Aside0 (Below w.heap.size w w'))
 case atStart => exact ⟨(([] : List Int)), (0), frs, H', ⟨Nat.le_refl _⟩, ⟨by first | exact Kd.R_nil _ _ _ _ _ | exact Kd.N_nil _ _ _ _ _ | exact Kd.V_nil _ _ _ _ _ | exact Kd.Q_nil _ _ _ _ _ | exact Kd.S_nil _ _ _ _ _⟩, ⟨bel⟩⟩
 case round =>
  clear H'
  obtain ⟨x3_1, x4_1, rfl, HA, HK1, HO_3, HB⟩ := hrel
  cases gk with
  | zero => exact absurd HA.out (by simp [fountainref1_first.l0])
  | succ k1 =>
   have H := HA.out
   clear HA
   simp only [fountainref1_first.l0] at H
   by_cases c2 : x4_1 < a0
   ·rw [if_pos c2] at H
    have c2b0 : decide (x4_1 < a0) = true := decide_eq_true c2
    clear c2
    by_cases c3 : x3_1.length < 17592186044416
    ·rw [if_pos c3] at H
     have LMc3 := zA c3
     clear c3
     obtain ⟨y383, hy383⟩ : ∃ y_ : List Int, y_ = (x3_1 ++ [x4_1]) := ⟨_, rfl⟩
     replace H : (fountainref1_first.l0 k1 a0 y383 (wrap64 (x4_1 + 1))) = some r := zC H hy383
     have Ny383 := zA hy383
     clear hy383
     have H' := zA H
     clear H
     go_wp2_with (first | ((with_reducible refine gate_builtin (b := .append) (xs := #[.tmp 10, .tmp 12]) rfl ?_); at_builtin; refine Kd.R_append (Kd.int .i64) (w0 := w) w.heap.size rfl (.tmp 10) (.tmp 12) 51 3 (.int .i64 0) 8 rfl Try.underlying51 info3 rfl (by decide) (by omega) u3 x3_1 x4_1 [.int .i64 x4_1] (fun _ => True) (fun _ => False) rfl rfl ?aP (fun _ hk => hk.elim) ?aF ?aO ?aB ?aS ?aL ?_; (case aP => exact rfl); (case aB => exact bel); (case aF => exact (fun _ _ => trivial)); (case aO => exact (R_g HO_3.out)); (case aS => exact bels); (case aL => have := LMc3.out; omega); intro v384 w4 ho hb hg hat; rw [← Ny383.out] at ho; replace HB := zA (hb); have HO385 := zA (ho); clear HO_3; clear ho hb hg hat))
     go_roundg k1
     case measure => have := HK1.out; omega
     case rel => exact ⟨(y383), (wrap64 (x4_1 + 1)), frs, H', ⟨by have := HK1.out; omega⟩, ⟨rdR HO385.out⟩, ⟨bel⟩⟩
    ·rw [if_neg c3] at H
     exact absurd H (by simp)
   ·rw [if_neg c2] at H
    have c2b0 : decide (x4_1 < a0) = false := decide_eq_false c2
    clear c2
    obtain rfl := Option.some.inj H
    go_wp2
    go_ret
    exact ⟨_, by first | rfl | (simp [errW_none, errW_some] <;> rfl) | (simp [*, errW_none, errW_some] <;> rfl), rdR HO_3.out, bel⟩
mutual
noncomputable def fountainref1_Seed.j0 : Nat → Int → Bool → Option (Int × Int)
 | 0, _, _ => none
 | k + 1, x0, x10 => if x10 = true then (some (0, 1)) else (fountainref1_Seed.l0 k x0 0)
noncomputable def fountainref1_Seed.l0 : Nat → Int → Int → Option (Int × Int)
 | 0, _, _ => none
 | k + 1, x0, x4 => if x4 < 256 then ((fountainref1_L.f x0).bind fun t386 => ((fountainref1_first.f k x0).bind fun t387 => ((fountainref1_Matrix.f k x0 x4 t387).bind fun t390 => ((Pz.rrank.f t386 t390).bind fun t393 => ((fountainref1_L.f x0).bind fun t394 => (if t393 = t394 then (some (x4, 0)) else (fountainref1_Seed.l0 k x0 (wrap64 (x4 + 1))))))))) else (some (0, 5))
end
noncomputable def fountainref1_Seed.f (k : Nat) (a0 : Int) : Option (Int × Int) := if a0 < 1 then (fountainref1_Seed.j0 k a0 true) else (fountainref1_Seed.j0 k a0 (decide (a0 > 40)))
theorem fountainref1_Seed.calls (k : Nat) (a0 : Int) (r1 : Int) (r2 : Int) (w : World) (h : fountainref1_Seed.f k a0 = some (r1, r2)) :
 Calls Try.prog 43 #[.int .i64 a0] w fun e w' => e = .returned (.tuple #[.int .i64 r1, .int .i64 r2]) ∧ Below w.heap.size w w' := by
 have HB := zA (Below.refl w.heap.size w)
 have H : (if a0 < 1 then (fountainref1_Seed.j0 k a0 true) else (fountainref1_Seed.j0 k a0 (decide (a0 > 40)))) = some (r1, r2) := h
 clear h
 have HC2 := zA H
 clear H
 go_enter Try.func43, Try.ntmps43
 go_upto_region 1 with (fail)
 go_cut [10] (fun v10 wc => ∃ (kq : Nat) (x10_1 : Bool), v10 = .bool x10_1 ∧ Aside0 (fountainref1_Seed.j0 kq a0 x10_1 = some (r1, r2)) ∧ Aside0 (kq ≤ k) ∧ Aside0 (Below w.heap.size w wc))
 case first =>
  have H := HC2.out
  clear HC2
  by_cases c3 : a0 < 1
  ·rw [if_pos c3] at H
   have c3b0 : decide (a0 < 1) = true := decide_eq_true c3
   clear c3
   (first | rw [c3b0] | (simp only [i64_w, i32_w]; rw [c3b0]) | skip)
   have H' := zA H
   clear H
   go_wp2
   go_meet
   case rel => exact ⟨_, (true), frs, H', ⟨by first | omega | exact Nat.le_refl _⟩, ⟨bel⟩⟩
  ·rw [if_neg c3] at H
   have c3b0 : decide (a0 < 1) = false := decide_eq_false c3
   clear c3
   (first | rw [c3b0] | (simp only [i64_w, i32_w]; rw [c3b0]) | skip)
   have H' := zA H
   clear H
   go_wp2
   go_meet
   case rel => exact ⟨_, (decide (a0 > 40)), frs, H', ⟨by first | omega | exact Nat.le_refl _⟩, ⟨bel⟩⟩
 case rest =>
  clear HC2
  obtain ⟨kq, x10_1, rfl, HA, HJ1, HB⟩ := hcut
  cases kq with
  | zero => exact absurd HA.out (by simp [fountainref1_Seed.j0])
  | succ kj1 =>
   have H := HA.out
   clear HA
   simp only [fountainref1_Seed.j0] at H
   by_cases c4 : x10_1 = true
   ·subst c4
    have H1 : (some (0, 1)) = some (r1, r2) := by rw [if_pos rfl] at H; exact H
    clear H
    have H := H1
    clear H1
    simp only [Option.some.injEq, Prod.mk.injEq] at H
    obtain ⟨rfl, rfl⟩ := H
    go_wp2
    go_ret2
    exact ⟨by first | rfl | (simp [errW_none, errW_some] <;> rfl) | (simp [*, errW_none, errW_some] <;> rfl), bel⟩
   ·replace c4 := Bool.eq_false_iff.mpr c4
    subst c4
    have H1 : (fountainref1_Seed.l0 kj1 a0 0) = some (r1, r2) := by rw [if_neg (show ¬ (false = true) by decide)] at H; exact H
    clear H
    have H := H1
    clear H1
    have H' := zA H
    clear H
    go_wp2
    go_loopg [4] kj1 (fun kq v4 w' => ∃ (x4_2 : Int), v4 = .int .i64 x4_2 ∧ Aside0 (fountainref1_Seed.l0 kq a0 x4_2 = some (r1, r2)) ∧ Aside0 (kq ≤ kj1) ∧ Aside0 (Below w.heap.size w w'))
    case atStart => exact ⟨(0), frs, H', ⟨Nat.le_refl _⟩, ⟨bel⟩⟩
    case round =>
     clear H'
     obtain ⟨x4_2, rfl, HA, HK2, HB⟩ := hrel
     cases gk with
     | zero => exact absurd HA.out (by simp [fountainref1_Seed.l0])
     | succ k2 =>
      have H := HA.out
      clear HA
      simp only [fountainref1_Seed.l0] at H
      by_cases c5 : x4_2 < 256
      ·rw [if_pos c5] at H
       have c5b0 : decide (x4_2 < 256) = true := decide_eq_true c5
       clear c5
       replace H := Option.bind_eq_some_iff.mp H
       obtain ⟨t386, A60, H⟩ := H
       try dsimp only at H
       have A6 := zA A60
       clear A60
       replace H := Option.bind_eq_some_iff.mp H
       obtain ⟨t387, A70, H⟩ := H
       try dsimp only at H
       have A7 := zA A70
       clear A70
       replace H := Option.bind_eq_some_iff.mp H
       obtain ⟨t390, A80, H⟩ := H
       try dsimp only at H
       have A8 := zA A80
       clear A80
       replace H := Option.bind_eq_some_iff.mp H
       obtain ⟨t393, A90, H⟩ := H
       try dsimp only at H
       have A9 := zA A90
       clear A90
       replace H := Option.bind_eq_some_iff.mp H
       obtain ⟨t394, A100, H⟩ := H
       try dsimp only at H
       have A10 := zA A100
       clear A100
       by_cases c11 : t393 = t394
       ·rw [if_pos c11] at H
        have c11b0 : (t393 == t394) = true := beq_iff_eq.mpr c11
        have c11b1 : (t393 != t394) = false := bne_eq_false_iff_eq.mpr c11
        clear c11
        simp only [Option.some.injEq, Prod.mk.injEq] at H
        obtain ⟨rfl, rfl⟩ := H
        go_wp2_with (first | ((with_reducible refine gate_callee (f := 45) rfl ?_); refine goesL_ (some 16) rfl rfl Try.func45 (by kernel_rfl) rfl #[.int .i64 a0] rfl agl ?_; (with_reducible refine (fountainref1_L.calls a0 t386 _ A6.out).mono ?_); rintro e w' ⟨rfl, ⟨nd, rfl⟩⟩; refine ⟨_, rfl, ?_⟩) | ((with_reducible refine gate_callee (f := 79) rfl ?_); refine goesL_ (some 20) rfl rfl Try.func79 (by kernel_rfl) rfl #[.int .i64 a0] rfl agl ?_; (with_reducible refine (fountainref1_first.calls k2 a0 t387 _ A7.out).mono ?_); rintro e w12 ⟨v388, rfl, ho0, hb⟩; refine ⟨_, rfl, ?_⟩; have HO389 := zA (Kd.R_lower ho0 bels); replace HB := zA (belt hb); obtain ⟨Ao13, co13, eo13⟩ := Kd.R_slice HO389.out; subst eo13) | ((with_reducible refine gate_callee (f := 39) rfl ?_); refine goesL_ (some 21) rfl rfl Try.func39 (by kernel_rfl) rfl #[.int .i64 a0, .int .i64 x4_2, .slice Ao13 t387.length co13] rfl agl ?_; (with_reducible refine (fountainref1_Matrix.calls k2 a0 x4_2 _ _ t387 t390 _ ?side1 ?side2 A8.out).mono ?_); (case side1 => repeat (first | exact (Kd.R_reads' HO389.out).2.2 | (with_reducible refine Kd.C_alloc ?_ _) | (with_reducible refine Kd.C_drewN ?_ _) | (with_reducible refine Kd.C_drew ?_))); (case side2 => exact (Kd.R_reads' HO389.out).2.1); rintro e w14 ⟨v391, rfl, ho0, hb⟩; refine ⟨_, rfl, ?_⟩; have HO392 := zA (Kd.N_lower (Kd.N_mono (ok' := fun k_ => some k_ ≠ (.slice Ao13 t387.length co13 : Value).ownBlock) ho0 (fun k_ hk_ => (Kd.fresh' (Kd.R_lt (R_g HO389.out)) k_ hk_))) bels); replace HO389 := zA (Kd.R_below (R_g HO389.out) hb); replace HB := zA (belt hb); obtain ⟨Ao15, co15, eo15⟩ := Kd.N_slice HO392.out; subst eo15) | ((with_reducible refine gate_callee (f := 30) rfl ?_); refine goesL_ (some 22) rfl rfl Try.func30 (by kernel_rfl) rfl #[.int .i64 t386, .slice Ao15 t390.length co15] rfl agl ?_; (with_reducible refine (Pz.rrank.calls t386 _ _ t390 t393 _ ?side1 ?side2 A9.out).mono ?_); (case side1 => repeat (first | exact (Kd.N_reads' HO392.out).2.2 | (with_reducible refine Kd.C_alloc ?_ _) | (with_reducible refine Kd.C_drewN ?_ _) | (with_reducible refine Kd.C_drew ?_))); (case side2 => exact (Kd.N_reads' HO392.out).2.1); rintro e w16 ⟨rfl, hb⟩; refine ⟨_, rfl, ?_⟩; replace HO389 := zA (Kd.R_below (R_g HO389.out) hb); replace HO392 := zA (Kd.N_below (N_g HO392.out) hb); replace HB := zA (belt hb)) | ((with_reducible refine gate_callee (f := 45) rfl ?_); refine goesL_ (some 24) rfl rfl Try.func45 (by kernel_rfl) rfl #[.int .i64 a0] rfl agl ?_; (with_reducible refine (fountainref1_L.calls a0 t394 _ A10.out).mono ?_); rintro e w' ⟨rfl, ⟨nd, rfl⟩⟩; refine ⟨_, rfl, ?_⟩))
        go_ret2
        exact ⟨by first | rfl | (simp [errW_none, errW_some] <;> rfl) | (simp [*, errW_none, errW_some] <;> rfl), bel⟩
       ·rw [if_neg c11] at H
        have c11b0 : (t393 == t394) = false := beq_eq_false_iff_ne.mpr c11
        have c11b1 : (t393 != t394) = true := bne_iff_ne.mpr c11
        have H' := zA H
        clear H
        go_wp2_with (first | ((with_reducible refine gate_callee (f := 45) rfl ?_); refine goesL_ (some 16) rfl rfl Try.func45 (by kernel_rfl) rfl #[.int .i64 a0] rfl agl ?_; (with_reducible refine (fountainref1_L.calls a0 t386 _ A6.out).mono ?_); rintro e w' ⟨rfl, ⟨nd, rfl⟩⟩; refine ⟨_, rfl, ?_⟩) | ((with_reducible refine gate_callee (f := 79) rfl ?_); refine goesL_ (some 20) rfl rfl Try.func79 (by kernel_rfl) rfl #[.int .i64 a0] rfl agl ?_; (with_reducible refine (fountainref1_first.calls k2 a0 t387 _ A7.out).mono ?_); rintro e w17 ⟨v388, rfl, ho0, hb⟩; refine ⟨_, rfl, ?_⟩; have HO389 := zA (Kd.R_lower ho0 bels); replace HB := zA (belt hb); obtain ⟨Ao18, co18, eo18⟩ := Kd.R_slice HO389.out; subst eo18) | ((with_reducible refine gate_callee (f := 39) rfl ?_); refine goesL_ (some 21) rfl rfl Try.func39 (by kernel_rfl) rfl #[.int .i64 a0, .int .i64 x4_2, .slice Ao18 t387.length co18] rfl agl ?_; (with_reducible refine (fountainref1_Matrix.calls k2 a0 x4_2 _ _ t387 t390 _ ?side1 ?side2 A8.out).mono ?_); (case side1 => repeat (first | exact (Kd.R_reads' HO389.out).2.2 | (with_reducible refine Kd.C_alloc ?_ _) | (with_reducible refine Kd.C_drewN ?_ _) | (with_reducible refine Kd.C_drew ?_))); (case side2 => exact (Kd.R_reads' HO389.out).2.1); rintro e w19 ⟨v391, rfl, ho0, hb⟩; refine ⟨_, rfl, ?_⟩; have HO392 := zA (Kd.N_lower (Kd.N_mono (ok' := fun k_ => some k_ ≠ (.slice Ao18 t387.length co18 : Value).ownBlock) ho0 (fun k_ hk_ => (Kd.fresh' (Kd.R_lt (R_g HO389.out)) k_ hk_))) bels); replace HO389 := zA (Kd.R_below (R_g HO389.out) hb); replace HB := zA (belt hb); obtain ⟨Ao20, co20, eo20⟩ := Kd.N_slice HO392.out; subst eo20) | ((with_reducible refine gate_callee (f := 30) rfl ?_); refine goesL_ (some 22) rfl rfl Try.func30 (by kernel_rfl) rfl #[.int .i64 t386, .slice Ao20 t390.length co20] rfl agl ?_; (with_reducible refine (Pz.rrank.calls t386 _ _ t390 t393 _ ?side1 ?side2 A9.out).mono ?_); (case side1 => repeat (first | exact (Kd.N_reads' HO392.out).2.2 | (with_reducible refine Kd.C_alloc ?_ _) | (with_reducible refine Kd.C_drewN ?_ _) | (with_reducible refine Kd.C_drew ?_))); (case side2 => exact (Kd.N_reads' HO392.out).2.1); rintro e w21 ⟨rfl, hb⟩; refine ⟨_, rfl, ?_⟩; replace HO389 := zA (Kd.R_below (R_g HO389.out) hb); replace HO392 := zA (Kd.N_below (N_g HO392.out) hb); replace HB := zA (belt hb)) | ((with_reducible refine gate_callee (f := 45) rfl ?_); refine goesL_ (some 24) rfl rfl Try.func45 (by kernel_rfl) rfl #[.int .i64 a0] rfl agl ?_; (with_reducible refine (fountainref1_L.calls a0 t394 _ A10.out).mono ?_); rintro e w' ⟨rfl, ⟨nd, rfl⟩⟩; refine ⟨_, rfl, ?_⟩))
        go_roundg k2
        case measure => have := HJ1.out; have := HK2.out; omega
        case rel => exact ⟨(wrap64 (x4_2 + 1)), frs, H', ⟨by have := HJ1.out; have := HK2.out; omega⟩, ⟨bel⟩⟩
      ·rw [if_neg c5] at H
       have c5b0 : decide (x4_2 < 256) = false := decide_eq_false c5
       clear c5
       simp only [Option.some.injEq, Prod.mk.injEq] at H
       obtain ⟨rfl, rfl⟩ := H
       go_wp2
       go_ret2
       exact ⟨by first | rfl | (simp [errW_none, errW_some] <;> rfl) | (simp [*, errW_none, errW_some] <;> rfl), bel⟩
end Go.Proofs.Ytbfhinfblepidaa.PSeedTells
namespace Go.Proofs.Ytbfhinfblepidaa.PSeedTells
open Go.RowKit Go.Proofs.YtbfhinfblepidaaW.PrintWords Go.Proofs.YtbfhinfblepidaaW.PrintLast Go.Proofs.YtbfhinfblepidaaW.PrintMore Go.Proofs.Ytbfhinfblepidaa.PSolveTells
attribute [local go_sem] max2_int min2_int max_two min_two max_three min_three max_four min_four
set_option linter.unusedVariables false
set_option linter.unusedSimpArgs false
end Go.Proofs.Ytbfhinfblepidaa.PSeedTells
