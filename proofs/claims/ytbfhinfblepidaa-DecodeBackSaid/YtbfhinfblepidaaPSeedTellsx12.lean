/- Written by a program (this session's own): functions that the law reaches, as plain Lean functions, each with the proof that the code comes to it. No conditions but those that stand in the theorems. -/
import Derived.Test.YtbfhinfblepidaaPq
import Derived.Test.YtbfhinfblepidaaPSolveTellsx
import Derived.Test.YtbfhinfblepidaaPSeedTellsx3
import Derived.Test.YtbfhinfblepidaaPSeedTellsx10
set_option maxHeartbeats 8000000
set_option maxRecDepth 100000
namespace Go.Proofs.Ytbfhinfblepidaa.PSeedTells
open Go.RowKit Go.Proofs.YtbfhinfblepidaaW.PrintWords Go.Proofs.YtbfhinfblepidaaW.PrintLast Go.Proofs.YtbfhinfblepidaaW.PrintMore Go.Proofs.Ytbfhinfblepidaa.PSolveTells
attribute [local go_sem] max2_int min2_int max_two min_two max_three min_three max_four min_four
set_option linter.unusedVariables false
set_option linter.unusedSimpArgs false
mutual
noncomputable def fountainref1_High.j0 : Nat → Int → Bool → Option ((List (List Int)))
 | 0, _, _ => none
 | k + 1, x0, x12 => if x12 = true then (some ([] : List (List Int))) else (fountainref1_High.l0 k x0 ([] : List (List Int)) 0)
noncomputable def fountainref1_High.l0 : Nat → Int → List (List Int) → Int → Option ((List (List Int)))
 | 0, _, _, _ => none
 | k + 1, x0, x3, x4 => if x4 < 2 then ((fountainref1_L.f x0).bind fun t322 => (if 0 ≤ t322 then (if (t322 : Int).toNat ≤ 281474976710656 then (fountainref1_High.l1 k x0 x3 x4 (List.replicate (t322 : Int).toNat 0) 0) else (none)) else (none))) else (some x3)
noncomputable def fountainref1_High.l1 : Nat → Int → List (List Int) → Int → List Int → Int → Option ((List (List Int)))
 | 0, _, _, _, _, _ => none
 | k + 1, x0, x3, x4, x5, x6 => (fountainref1_W.f x0).bind fun t326 => (if x6 < t326 then ((fountainref1_Rand.f ((x6) % 4294967296) ((wrap64 (x4 + 7)) % 4294967296) 255).bind fun t327 => ((fountainref1_Power.f k t327).bind fun t328 => (if 0 ≤ x6 then (if x6 < (x5.length : Int) then (fountainref1_High.l1 k x0 x3 x4 (x5.set (x6 : Int).toNat t328) (wrap64 (x6 + 1))) else (none)) else (none)))) else ((fountainref1_W.f x0).bind fun t330 => (if 0 ≤ (wrap64 (t330 + x4)) then (if (wrap64 (t330 + x4)) < (x5.length : Int) then (if x3.length < 5864062014805 then (fountainref1_High.l0 k x0 (x3 ++ [(x5.set ((wrap64 (t330 + x4)) : Int).toNat 1)]) (wrap64 (x4 + 1))) else (none)) else (none)) else (none))))
end
noncomputable def fountainref1_High.f (k : Nat) (a0 : Int) : Option ((List (List Int))) := if a0 < 1 then (fountainref1_High.j0 k a0 true) else (fountainref1_High.j0 k a0 (decide (a0 > 40)))
theorem fountainref1_High.calls (k : Nat) (a0 : Int) (r : List (List Int)) (w : World) (h : fountainref1_High.f k a0 = some r) :
 Calls Try.prog 37 #[.int .i64 a0] w fun e w' => ∃ v0_ : Value, e = .returned (v0_) ∧ Kd.S (Kd.slice 5 (Kd.int .u8)) 30 w' w.heap.size (fun _ => True) v0_ r ∧ Below w.heap.size w w' := by
 have HB := zA (Below.refl w.heap.size w)
 have H : (if a0 < 1 then (fountainref1_High.j0 k a0 true) else (fountainref1_High.j0 k a0 (decide (a0 > 40)))) = some r := h
 clear h
 have HC2 := zA H
 clear H
 go_enter Try.func37, Try.ntmps37
 go_upto_region 1 with (fail)
 go_cut [12] (fun v12 wc => ∃ (kq : Nat) (x12_1 : Bool), v12 = .bool x12_1 ∧ Aside0 (fountainref1_High.j0 kq a0 x12_1 = some r) ∧ Aside0 (kq ≤ k) ∧ Aside0 (Below w.heap.size w wc))
 case first =>
  have H := HC2.out
  clear HC2
  by_cases c3 : a0 < 1
  ·rw [if_pos c3] at H
   have c3b0 : decide (a0 < 1) = true := decide_eq_true c3
   clear c3
   (first | rw [c3b0] | (simp only [i64_w, i32_w]; rw [c3b0]) | skip)
   have H' := zA H
   clear H
   go_wp2
   go_meet
   case rel => exact ⟨_, (true), frs, H', ⟨by first | omega | exact Nat.le_refl _⟩, ⟨bel⟩⟩
  ·rw [if_neg c3] at H
   have c3b0 : decide (a0 < 1) = false := decide_eq_false c3
   clear c3
   (first | rw [c3b0] | (simp only [i64_w, i32_w]; rw [c3b0]) | skip)
   have H' := zA H
   clear H
   go_wp2
   go_meet
   case rel => exact ⟨_, (decide (a0 > 40)), frs, H', ⟨by first | omega | exact Nat.le_refl _⟩, ⟨bel⟩⟩
 case rest =>
  clear HC2
  obtain ⟨kq, x12_1, rfl, HA, HJ1, HB⟩ := hcut
  cases kq with
  | zero => exact absurd HA.out (by simp [fountainref1_High.j0])
  | succ kj1 =>
   have H := HA.out
   clear HA
   simp only [fountainref1_High.j0] at H
   by_cases c4 : x12_1 = true
   ·subst c4
    have H1 : (some ([] : List (List Int))) = some r := by rw [if_pos rfl] at H; exact H
    clear H
    have H := H1
    clear H1
    obtain rfl := Option.some.inj H
    go_wp2
    go_ret
    exact ⟨_, by first | rfl | (simp [errW_none, errW_some] <;> rfl) | (simp [*, errW_none, errW_some] <;> rfl), by first | exact Kd.S_nil _ _ _ _ _ | exact Kd.N_nil _ _ _ _ _ | exact Kd.V_nil _ _ _ _ _ | exact Kd.Q_nil _ _ _ _ _ | exact Kd.R_nil _ _ _ _ _, bel⟩
   ·replace c4 := Bool.eq_false_iff.mpr c4
    subst c4
    have H1 : (fountainref1_High.l0 kj1 a0 ([] : List (List Int)) 0) = some r := by rw [if_neg (show ¬ (false = true) by decide)] at H; exact H
    clear H
    have H := H1
    clear H1
    have H' := zA H
    clear H
    go_wp2
    go_loopg [3, 4] kj1 (fun kq v3 v4 w' => ∃ (x3_2 : List (List Int)) (x4_2 : Int), v4 = .int .i64 x4_2 ∧ Aside0 (fountainref1_High.l0 kq a0 x3_2 x4_2 = some r) ∧ Aside0 (kq ≤ kj1) ∧ Aside0 (Kd.S (Kd.slice 5 (Kd.int .u8)) 30 w' w.heap.size (fun _ => True) v3 x3_2) ∧ Aside0 (Below w.heap.size w w'))
    case atStart => exact ⟨(([] : List (List Int))), (0), frs, H', ⟨Nat.le_refl _⟩, ⟨by first | exact Kd.S_nil _ _ _ _ _ | exact Kd.N_nil _ _ _ _ _ | exact Kd.V_nil _ _ _ _ _ | exact Kd.Q_nil _ _ _ _ _ | exact Kd.R_nil _ _ _ _ _⟩, ⟨bel⟩⟩
    case round =>
     clear H'
     obtain ⟨x3_2, x4_2, rfl, HA, HK2, HO_3, HB⟩ := hrel
     cases gk with
     | zero => exact absurd HA.out (by simp [fountainref1_High.l0])
     | succ k2 =>
      have H := HA.out
      clear HA
      simp only [fountainref1_High.l0] at H
      by_cases c5 : x4_2 < 2
      ·rw [if_pos c5] at H
       have c5b0 : decide (x4_2 < 2) = true := decide_eq_true c5
       clear c5
       replace H := Option.bind_eq_some_iff.mp H
       obtain ⟨t322, A60, H⟩ := H
       try dsimp only at H
       have A6 := zA A60
       clear A60
       by_cases c7 : 0 ≤ t322
       ·rw [if_pos c7] at H
        have c7b0 := eq_true c7
        have c7b1 : decide (0 ≤ t322) = true := decide_eq_true c7
        clear c7
        by_cases c8 : (t322 : Int).toNat ≤ 281474976710656
        ·rw [if_pos c8] at H
         have c8b0 := eq_true c8
         have c8b1 : decide ((t322 : Int).toNat ≤ 281474976710656) = true := decide_eq_true c8
         clear c8
         obtain ⟨y323, hy323⟩ : ∃ y_ : List Int, y_ = (List.replicate (t322 : Int).toNat 0) := ⟨_, rfl⟩
         replace H : (fountainref1_High.l1 k2 a0 x3_2 x4_2 y323 0) = some r := zC H hy323
         have Ny323 := zA hy323
         clear hy323
         have H' := zA H
         clear H
         go_wp2_with (first | ((with_reducible refine gate_callee (f := 45) rfl ?_); refine goesL_ (some 18) rfl rfl Try.func45 (by kernel_rfl) rfl #[.int .i64 a0] rfl agl ?_; (with_reducible refine (fountainref1_L.calls a0 t322 _ A6.out).mono ?_); rintro e w' ⟨rfl, ⟨nd, rfl⟩⟩; refine ⟨_, rfl, ?_⟩) | ((with_reducible refine gate_dst (N := 19) rfl ?_); refine Kd.R_make (Kd.int .u8) _ 5 rfl (N := 19) rfl 30 _ _ rfl t322 rfl rfl Try.underlying30 (.int .u8 0) 1 info5 rfl (by decide) (by omega) 0 (ok := fun _ => True) (okp := fun _ => True) rfl (fun _ hk => hk) trivial (of_decide_eq_true asu) (Nat.le_trans (Nat.mul_le_mul_right _ (of_decide_eq_true asu : t322.toNat ≤ 281474976710656)) (by omega)) (Below.refl _ _) (Nat.le_refl _) ?_; intro v324 w9 ho10 hb hg_ hnew_; clear hg_ hnew_; (first | rw [← Ny323.out] at ho10 | (simp only [Int.reduceToNat] at ho10; rw [← Ny323.out] at ho10)); replace HO_3 := zA (Kd.S_elder' (S_g HO_3.out) (Kd.R_base ho10) hb); have HO325 := zA (Kd.R_lower ho10 bels); replace HB := zA (belt hb); clear hb ho10))
         go_loopg [6] k2 (fun kq v6 w' => ∃ (x5_3 : List Int) (x6_3 : Int), v6 = .int .i64 x6_3 ∧ Aside0 (fountainref1_High.l1 kq a0 x3_2 x4_2 x5_3 x6_3 = some r) ∧ Aside0 (kq ≤ k2) ∧ Aside0 (Kd.S (Kd.slice 5 (Kd.int .u8)) 30 w' w.heap.size (fun k_ => some k_ ≠ (v324 : Value).ownBlock) u3 x3_2) ∧ Aside0 (Kd.R (Kd.int .u8) 5 w' w.heap.size (fun _ => True) v324 x5_3) ∧ Aside0 (Below w.heap.size w w'))
         case atStart => exact ⟨(y323), (0), frs, H', ⟨Nat.le_refl _⟩, ⟨by (with_reducible repeat (first | apply Kd.S_alloc | apply Kd.S_drewN | apply Kd.S_drew)); exact Kd.S_mono HO_3.out (fun _ hk => hk.2)⟩, ⟨rdR HO325.out⟩, ⟨bel⟩⟩
         case round =>
          clear H'
          obtain ⟨x5_3, x6_3, rfl, HA, HK3, HO_3, HO_5, HB⟩ := hrel
          cases gk with
          | zero => exact absurd HA.out (by simp [fountainref1_High.l1])
          | succ k3 =>
           have H := HA.out
           clear HA
           simp only [fountainref1_High.l1] at H
           replace H := Option.bind_eq_some_iff.mp H
           obtain ⟨t326, A110, H⟩ := H
           try dsimp only at H
           have A11 := zA A110
           clear A110
           by_cases c12 : x6_3 < t326
           ·rw [if_pos c12] at H
            have c12b0 : decide (x6_3 < t326) = true := decide_eq_true c12
            clear c12
            replace H := Option.bind_eq_some_iff.mp H
            obtain ⟨t327, A130, H⟩ := H
            try dsimp only at H
            have A13 := zA A130
            clear A130
            replace H := Option.bind_eq_some_iff.mp H
            obtain ⟨t328, A140, H⟩ := H
            try dsimp only at H
            have A14 := zA A140
            clear A140
            by_cases c15 : 0 ≤ x6_3
            ·rw [if_pos c15] at H
             have c15b0 : decide (0 ≤ x6_3) = true := decide_eq_true c15
             clear c15
             by_cases c16 : x6_3 < (x5_3.length : Int)
             ·rw [if_pos c16] at H
              have c16b0 : decide (x6_3 < (x5_3.length : Int)) = true := decide_eq_true c16
              clear c16
              obtain ⟨y329, hy329⟩ : ∃ y_ : List Int, y_ = (x5_3.set (x6_3 : Int).toNat t328) := ⟨_, rfl⟩
              replace H : (fountainref1_High.l1 k3 a0 x3_2 x4_2 y329 (wrap64 (x6_3 + 1))) = some r := zC H hy329
              have Ny329 := zA hy329
              clear hy329
              have H' := zA H
              clear H
              go_wp2_with (first | ((with_reducible refine gate_callee (f := 52) rfl ?_); refine goesL_ (some 22) rfl rfl Try.func52 (by kernel_rfl) rfl #[.int .i64 a0] rfl agl ?_; (with_reducible refine (fountainref1_W.calls a0 t326 _ A11.out).mono ?_); rintro e w' ⟨rfl, ⟨nd, rfl⟩⟩; refine ⟨_, rfl, ?_⟩; (try (rw [drewN_self wr]; generalize hq_ : World.drewN wr _ = wr; have n0_ : Aside0 (Kd.S (Kd.slice 5 (Kd.int .u8)) 30 wr w.heap.size (fun k_ => some k_ ≠ (v324 : Value).ownBlock) u3 x3_2) := ⟨by rw [← hq_]; exact (S_g HO_3.out)⟩; have n1_ : Aside0 (Kd.R (Kd.int .u8) 5 wr w.heap.size (fun _ => True) v324 x5_3) := ⟨by rw [← hq_]; exact (R_g HO_5.out)⟩; have n2_ : Aside0 (Below w.heap.size w wr) := ⟨by rw [← hq_]; exact bel⟩; clear HO_3 HO_5 HB hq_; have HO_3 := n0_; have HO_5 := n1_; have HB := n2_; clear n0_ n1_ n2_))) | ((with_reducible refine gate_callee (f := 75) rfl ?_); refine goesL_ (some 33) rfl rfl Try.func75 (by kernel_rfl) rfl #[.int .u32 ((x6_3) % 4294967296), .int .u32 ((wrap64 (x4_2 + 7)) % 4294967296), .int .i64 255] rfl agl ?_; (with_reducible refine (fountainref1_Rand.calls ((x6_3) % 4294967296) ((wrap64 (x4_2 + 7)) % 4294967296) 255 t327 _ A13.out).mono ?_); rintro e w' ⟨rfl, ⟨nd, rfl⟩⟩; refine ⟨_, rfl, ?_⟩; (try (rw [drewN_self wr]; generalize hq_ : World.drewN wr _ = wr; have n0_ : Aside0 (Kd.S (Kd.slice 5 (Kd.int .u8)) 30 wr w.heap.size (fun k_ => some k_ ≠ (v324 : Value).ownBlock) u3 x3_2) := ⟨by rw [← hq_]; exact (S_g HO_3.out)⟩; have n1_ : Aside0 (Kd.R (Kd.int .u8) 5 wr w.heap.size (fun _ => True) v324 x5_3) := ⟨by rw [← hq_]; exact (R_g HO_5.out)⟩; have n2_ : Aside0 (Below w.heap.size w wr) := ⟨by rw [← hq_]; exact bel⟩; clear HO_3 HO_5 HB hq_; have HO_3 := n0_; have HO_5 := n1_; have HB := n2_; clear n0_ n1_ n2_))) | ((with_reducible refine gate_callee (f := 74) rfl ?_); refine goesL_ (some 34) rfl rfl Try.func74 (by kernel_rfl) rfl #[.int .i64 t327] rfl agl ?_; (with_reducible refine (fountainref1_Power.calls k3 t327 t328 _ A14.out).mono ?_); rintro e w' ⟨rfl, ⟨nd, rfl⟩⟩; refine ⟨_, rfl, ?_⟩; (try (rw [drewN_self wr]; generalize hq_ : World.drewN wr _ = wr; have n0_ : Aside0 (Kd.S (Kd.slice 5 (Kd.int .u8)) 30 wr w.heap.size (fun k_ => some k_ ≠ (v324 : Value).ownBlock) u3 x3_2) := ⟨by rw [← hq_]; exact (S_g HO_3.out)⟩; have n1_ : Aside0 (Kd.R (Kd.int .u8) 5 wr w.heap.size (fun _ => True) v324 x5_3) := ⟨by rw [← hq_]; exact (R_g HO_5.out)⟩; have n2_ : Aside0 (Below w.heap.size w wr) := ⟨by rw [← hq_]; exact bel⟩; clear HO_3 HO_5 HB hq_; have HO_3 := n0_; have HO_5 := n1_; have HB := n2_; clear n0_ n1_ n2_)); have p17 : 0 ≤ (x6_3 : Int) := of_decide_eq_true asu; have q17 : (x6_3 : Int) < ((x5_3.length : Int) : Int) := of_decide_eq_true asu; obtain ⟨go17, co17, eo17, gb17, gl17, cl17, HG17⟩ := Kd.R_form HO_5.out (by omega); (first | cases eo17 | (injection eo17 with ea_ en_ ec_; (first | subst ea_ | (injection ea_ with ea_; subst ea_)); subst ec_; clear en_)); have GB17 := zA gb17; have GG17 := zA HG17; clear gb17 gl17 HG17; obtain ⟨hx17_0, hf17_0⟩ := Kd.R_celln 0 HO_5.out (x6_3 : Int) p17 q17; replace p17 := eq_true p17; replace q17 := eq_true q17; obtain ⟨hy18_, hz18_⟩ := Kd.R_celln 0 HO_5.out (x6_3 : Int) (of_decide_eq_true asu) (of_decide_eq_true asu); have HP18 := Kd.R_putg HO_5.out (x6_3 : Int) t328) | ((with_reducible refine gate_store (t := 5) (p := 35) rfl ?_); refine store_event (t := 5) (p := 35) (v := ?vo_w19) (w1 := (wr.setCell ⟨go17, (x6_3 : Int).toNat, none⟩ (.int .u8 t328))) ?hg ?ho ?hn ?hr ?_; (case ho => rfl); (case hg => rfl); (case hn => rfl); (case hr => first | (go_simp; done) | (go_simp; rfl)); intro w19 hw; have hg : wr.grownBy w19 (some go17) := (by rw [hw]; exact HP18.2); have hp_ : Kd.R (Kd.int .u8) 5 w19 w.heap.size (fun _ => True) (.slice (some ⟨go17, 0, none⟩) x5_3.length co17) y329 := (by rw [hw, Ny329.out]; exact HP18.1); clear HP18; replace HO_3 := zA (Kd.S_after (v := (.slice (some ⟨go17, 0, none⟩) x5_3.length co17)) (v1 := (.slice (some ⟨go17, 0, none⟩) x5_3.length co17)) (ok := (fun _ => True)) (S_g (Kd.S_mono HO_3.out (fun _ hk => ⟨trivial, hk⟩))) hg (.inl rfl)); replace HO_5 := zA (hp_); replace HB := zA ((by rw [hw]; exact below_set (HB.out) GB17.out : Below w.heap.size w w19)); clear hg hw hp_))
              go_roundg k3
              case measure => have := HJ1.out; have := HK2.out; have := HK3.out; omega
              case rel => exact ⟨(y329), (wrap64 (x6_3 + 1)), frs, H', ⟨by have := HJ1.out; have := HK2.out; have := HK3.out; omega⟩, ⟨by (with_reducible repeat (first | apply Kd.S_alloc | apply Kd.S_drewN | apply Kd.S_drew)); exact Kd.S_mono HO_3.out (fun _ hk => hk.2)⟩, ⟨rdR HO_5.out⟩, ⟨bel⟩⟩
             ·rw [if_neg c16] at H
              exact absurd H (by simp)
            ·rw [if_neg c15] at H
             exact absurd H (by simp)
           ·rw [if_neg c12] at H
            have c12b0 : decide (x6_3 < t326) = false := decide_eq_false c12
            clear c12
            replace H := Option.bind_eq_some_iff.mp H
            obtain ⟨t330, A200, H⟩ := H
            try dsimp only at H
            have A20 := zA A200
            clear A200
            obtain ⟨ji21, hji21⟩ : ∃ j_ : Int, (wrap64 (t330 + x4_2)) = j_ := ⟨_, rfl⟩
            replace H : (if 0 ≤ (ji21) then (if (ji21) < (x5_3.length : Int) then (if x3_2.length < 5864062014805 then (fountainref1_High.l0 k3 a0 (x3_2 ++ [(x5_3.set ((ji21) : Int).toNat 1)]) (wrap64 (x4_2 + 1))) else (none)) else (none)) else (none)) = some r := by first | (rw [hji21] at H; exact H) | (simp only [hji21] at H ⊢; exact H)
            (try rw [hji21] at A11)
            (try rw [hji21] at A20)
            have hji21w : (IntKind.i64.wrap (t330 + x4_2)) = ji21 := (i64_w _).trans hji21
            by_cases c22 : 0 ≤ (ji21)
            ·rw [if_pos c22] at H
             have c22b0 : decide (0 ≤ (ji21)) = true := decide_eq_true c22
             clear c22
             by_cases c23 : (ji21) < (x5_3.length : Int)
             ·rw [if_pos c23] at H
              have c23b0 : decide ((ji21) < (x5_3.length : Int)) = true := decide_eq_true c23
              clear c23
              obtain ⟨y331, hy331⟩ : ∃ y_ : List Int, y_ = (x5_3.set ((ji21) : Int).toNat 1) := ⟨_, rfl⟩
              replace H : (if x3_2.length < 5864062014805 then (fountainref1_High.l0 k3 a0 (x3_2 ++ [y331]) (wrap64 (x4_2 + 1))) else (none)) = some r := zC H hy331
              have Ny331 := zA hy331
              clear hy331
              by_cases c25 : x3_2.length < 5864062014805
              ·rw [if_pos c25] at H
               have LMc25 := zA c25
               clear c25
               obtain ⟨y332, hy332⟩ : ∃ y_ : List (List Int), y_ = (x3_2 ++ [y331]) := ⟨_, rfl⟩
               replace H : (fountainref1_High.l0 k3 a0 y332 (wrap64 (x4_2 + 1))) = some r := zC H hy332
               have Ny332 := zA hy332
               clear hy332
               have H' := zA H
               clear H
               go_wp2_with (first | ((with_reducible refine gate_callee (f := 52) rfl ?_); refine goesL_ (some 22) rfl rfl Try.func52 (by kernel_rfl) rfl #[.int .i64 a0] rfl agl ?_; (with_reducible refine (fountainref1_W.calls a0 t326 _ A11.out).mono ?_); rintro e w' ⟨rfl, ⟨nd, rfl⟩⟩; refine ⟨_, rfl, ?_⟩; (try (rw [drewN_self wr]; generalize hq_ : World.drewN wr _ = wr; have n0_ : Aside0 (Kd.S (Kd.slice 5 (Kd.int .u8)) 30 wr w.heap.size (fun k_ => some k_ ≠ (v324 : Value).ownBlock) u3 x3_2) := ⟨by rw [← hq_]; exact (S_g HO_3.out)⟩; have n1_ : Aside0 (Kd.R (Kd.int .u8) 5 wr w.heap.size (fun _ => True) v324 x5_3) := ⟨by rw [← hq_]; exact (R_g HO_5.out)⟩; have n2_ : Aside0 (Below w.heap.size w wr) := ⟨by rw [← hq_]; exact bel⟩; clear HO_3 HO_5 HB hq_; have HO_3 := n0_; have HO_5 := n1_; have HB := n2_; clear n0_ n1_ n2_))) | ((with_reducible refine gate_callee (f := 52) rfl ?_); refine goesL_ (some 38) rfl rfl Try.func52 (by kernel_rfl) rfl #[.int .i64 a0] rfl agl ?_; (with_reducible refine (fountainref1_W.calls a0 t330 _ A20.out).mono ?_); rintro e w' ⟨rfl, ⟨nd, rfl⟩⟩; refine ⟨_, rfl, ?_⟩; (try (rw [drewN_self wr]; generalize hq_ : World.drewN wr _ = wr; have n0_ : Aside0 (Kd.S (Kd.slice 5 (Kd.int .u8)) 30 wr w.heap.size (fun k_ => some k_ ≠ (v324 : Value).ownBlock) u3 x3_2) := ⟨by rw [← hq_]; exact (S_g HO_3.out)⟩; have n1_ : Aside0 (Kd.R (Kd.int .u8) 5 wr w.heap.size (fun _ => True) v324 x5_3) := ⟨by rw [← hq_]; exact (R_g HO_5.out)⟩; have n2_ : Aside0 (Below w.heap.size w wr) := ⟨by rw [← hq_]; exact bel⟩; clear HO_3 HO_5 HB hq_; have HO_3 := n0_; have HO_5 := n1_; have HB := n2_; clear n0_ n1_ n2_)); have p24 : 0 ≤ ((ji21) : Int) := of_decide_eq_true asu; have q24 : ((ji21) : Int) < ((x5_3.length : Int) : Int) := of_decide_eq_true asu; obtain ⟨go24, co24, eo24, gb24, gl24, cl24, HG24⟩ := Kd.R_form HO_5.out (by omega); (first | cases eo24 | (injection eo24 with ea_ en_ ec_; (first | subst ea_ | (injection ea_ with ea_; subst ea_)); subst ec_; clear en_)); have GB24 := zA gb24; have GG24 := zA HG24; clear gb24 gl24 HG24; obtain ⟨hx24_0, hf24_0⟩ := Kd.R_celln 0 HO_5.out ((ji21) : Int) p24 q24; replace p24 := eq_true p24; replace q24 := eq_true q24; obtain ⟨hy26_, hz26_⟩ := Kd.R_celln 0 HO_5.out ((ji21) : Int) (of_decide_eq_true asu) (of_decide_eq_true asu); have HP26 := Kd.R_putg HO_5.out ((ji21) : Int) 1) | ((with_reducible refine gate_store (t := 5) (p := 41) rfl ?_); refine store_event (t := 5) (p := 41) (v := ?vo_w27) (w1 := (wr.setCell ⟨go24, ((ji21) : Int).toNat, none⟩ (.int .u8 1))) ?hg ?ho ?hn ?hr ?_; (case ho => rfl); (case hg => rfl); (case hn => rfl); (case hr => first | (go_simp; done) | (go_simp; rfl)); intro w27 hw; have hg : wr.grownBy w27 (some go24) := (by rw [hw]; exact HP26.2); have hp_ : Kd.R (Kd.int .u8) 5 w27 w.heap.size (fun _ => True) (.slice (some ⟨go24, 0, none⟩) x5_3.length co24) y331 := (by rw [hw, Ny331.out]; exact HP26.1); clear HP26; replace HO_3 := zA (Kd.S_after (v := (.slice (some ⟨go24, 0, none⟩) x5_3.length co24)) (v1 := (.slice (some ⟨go24, 0, none⟩) x5_3.length co24)) (ok := (fun _ => True)) (S_g (Kd.S_mono HO_3.out (fun _ hk => ⟨trivial, hk⟩))) hg (.inl rfl)); replace HO_5 := zA (hp_); replace HB := zA ((by rw [hw]; exact below_set (HB.out) GB24.out : Below w.heap.size w w27)); clear hg hw hp_) | ((with_reducible refine gate_builtin (b := .append) (xs := #[.tmp 42, .tmp 44]) rfl ?_); at_builtin; refine Kd.S_append (Kd.slice 5 (Kd.int .u8)) (w0 := w) w.heap.size rfl (.tmp 42) (.tmp 44) 34 30 (.slice none 0 0) 24 rfl Try.underlying34 info30 rfl (by decide) (by omega) u3 x3_2 y331 [.slice (some ⟨go24, 0, none⟩) x5_3.length co24] (fun _ => True) (fun k_ => some k_ = (.slice (some ⟨go24, 0, none⟩) x5_3.length co24 : Value).ownBlock) rfl rfl ?aP (fun k_ hk_ => ((Kd.R_mono (ok' := fun k_ => ((fun _ => True)) k_ ∧ some k_ ≠ (u3 : Value).ownBlock) (Kd.R_apart' (HO_5.out) (Kd.S_typed HO_3.out) (by decide)) (fun k_ hk => ⟨trivial, hk.2⟩))).1 k_ hk_.symm) ?aF ?aO ?aB ?aS ?aL ?_; (case aP => exact Kd.M_row (Kd.R_mono (Kd.R_tight rfl (Kd.R_mono (ok' := fun k_ => ((fun _ => True)) k_ ∧ some k_ ≠ (u3 : Value).ownBlock) (Kd.R_apart' (HO_5.out) (Kd.S_typed HO_3.out) (by decide)) (fun k_ hk => ⟨trivial, hk.2⟩))) (fun _ h_ => h_))); (case aB => exact bel); (case aF => exact (fun _ _ => trivial)); (case aO => exact (S_g (Kd.S_mono HO_3.out (fun k_ hk => ⟨trivial, fun e_ => hk.2 e_⟩)))); (case aS => exact bels); (case aL => have := LMc25.out; omega); intro v333 w28 ho hb hg hat; rw [← Ny332.out] at ho; replace HB := zA (hb); have HO334 := zA (ho); clear HO_3 HO_5; clear ho hb hg hat))
               go_roundg k3
               case measure => have := HJ1.out; have := HK2.out; have := HK3.out; omega
               case rel => exact ⟨(y332), (wrap64 (x4_2 + 1)), frs, H', ⟨by have := HJ1.out; have := HK2.out; have := HK3.out; omega⟩, ⟨rdS HO334.out⟩, ⟨bel⟩⟩
              ·rw [if_neg c25] at H
               exact absurd H (by simp)
             ·rw [if_neg c23] at H
              exact absurd H (by simp)
            ·rw [if_neg c22] at H
             exact absurd H (by simp)
        ·rw [if_neg c8] at H
         exact absurd H (by simp)
       ·rw [if_neg c7] at H
        exact absurd H (by simp)
      ·rw [if_neg c5] at H
       have c5b0 : decide (x4_2 < 2) = false := decide_eq_false c5
       clear c5
       obtain rfl := Option.some.inj H
       go_wp2
       go_ret
       exact ⟨_, by first | rfl | (simp [errW_none, errW_some] <;> rfl) | (simp [*, errW_none, errW_some] <;> rfl), rdS HO_3.out, bel⟩
noncomputable def fountainref1_Degree.l0 : Nat → Int → List Int → Int → Int → Option (Int)
 | 0, _, _, _, _ => none
 | k + 1, x0, x3, x4, x5 => if x5 < (x3.length : Int) then (if 0 ≤ x5 then (if (rd x3 x5) ≤ x0 then (fountainref1_Degree.l0 k x0 x3 (wrap64 (x4 + 1)) (wrap64 (x5 + 1))) else (fountainref1_Degree.l0 k x0 x3 x4 (wrap64 (x5 + 1)))) else (none)) else (some x4)
noncomputable def fountainref1_Degree.f (k : Nat) (a0 : Int) : Option (Int) := (fountainref1_Cut.f a0 0 1048575).bind fun t335 => (fountainref1_Degree.l0 k t335 (([5243, 529531, 704294, 791675, 844104, 879057, 904023] : List Int)) 1 0)
theorem fountainref1_Degree.calls (k : Nat) (a0 : Int) (r : Int) (w : World) (h : fountainref1_Degree.f k a0 = some r) :
 Calls Try.prog 105 #[.int .i64 a0] w fun e w' => e = .returned (.int .i64 r) ∧ Below w.heap.size w w' := by
 have HB := zA (Below.refl w.heap.size w)
 have H : ((fountainref1_Cut.f a0 0 1048575).bind fun t335 => (fountainref1_Degree.l0 k t335 (([5243, 529531, 704294, 791675, 844104, 879057, 904023] : List Int)) 1 0)) = some r := h
 clear h
 replace H := Option.bind_eq_some_iff.mp H
 obtain ⟨t335, A20, H⟩ := H
 try dsimp only at H
 have A2 := zA A20
 clear A20
 obtain ⟨y336, hy336⟩ : ∃ y_ : List Int, y_ = (([5243, 529531, 704294, 791675, 844104, 879057, 904023] : List Int)) := ⟨_, rfl⟩
 replace H : (fountainref1_Degree.l0 k t335 y336 1 0) = some r := zC H hy336
 have Ny336 := zA hy336
 clear hy336
 have H' := zA H
 clear H
 go_enter Try.func105, Try.ntmps105
 go_wp2_with (first | ((with_reducible refine gate_callee (f := 70) rfl ?_); refine goesL_ (some 7) rfl rfl Try.func70 (by kernel_rfl) rfl #[.int .i64 a0, .int .i64 0, .int .i64 1048575] rfl agl ?_; (with_reducible refine (fountainref1_Cut.calls a0 0 1048575 t335 _ A2.out).mono ?_); rintro e w' ⟨rfl, ⟨nd, rfl⟩⟩; refine ⟨_, rfl, ?_⟩) | ((with_reducible refine gate_dst (N := 8) rfl ?_); refine Kd.R_lit (Kd.int .i64) _ 3 ?hg (N := 8) ?hd (xs := ([5243, 529531, 704294, 791675, 844104, 879057, 904023] : List Int)) (inner := [.int .i64 5243, .int .i64 529531, .int .i64 704294, .int .i64 791675, .int .i64 844104, .int .i64 879057, .int .i64 904023]) (ok := fun _ => True) (okp := fun _ => True) ?hr ?hp (fun _ hk => hk) trivial (Below.refl _ _) (Nat.le_refl _) (by simp) ?_; (case hd => rfl); (case hg => rfl); (case hr => first | (go_simp; done) | (go_simp; rfl)); (case hp => exact (Reps.one (show Kd.M (Kd.int .i64) _ _ _ 5243 [.int .i64 5243] from rfl) (Reps.one (show Kd.M (Kd.int .i64) _ _ _ 529531 [.int .i64 529531] from rfl) (Reps.one (show Kd.M (Kd.int .i64) _ _ _ 704294 [.int .i64 704294] from rfl) (Reps.one (show Kd.M (Kd.int .i64) _ _ _ 791675 [.int .i64 791675] from rfl) (Reps.one (show Kd.M (Kd.int .i64) _ _ _ 844104 [.int .i64 844104] from rfl) (Reps.one (show Kd.M (Kd.int .i64) _ _ _ 879057 [.int .i64 879057] from rfl) (Reps.one (show Kd.M (Kd.int .i64) _ _ _ 904023 [.int .i64 904023] from rfl) (Reps.none _ _))))))))); intro v337 w3 ho4 hb hg_ hnew_; clear hg_ hnew_; (first | rw [← Ny336.out] at ho4 | (simp only [Int.reduceToNat] at ho4; rw [← Ny336.out] at ho4)); have HO338 := zA (Kd.R_lower ho4 bels); replace HB := zA (belt hb); clear hb ho4))
 go_loopg [4, 5] k (fun kq v4 v5 w' => ∃ (x4_1 : Int) (x5_1 : Int), v4 = .int .i64 x4_1 ∧ v5 = .int .i64 x5_1 ∧ Aside0 (fountainref1_Degree.l0 kq t335 y336 x4_1 x5_1 = some r) ∧ Aside0 (kq ≤ k) ∧ Aside0 (Kd.R (Kd.int .i64) 3 w' w.heap.size (fun _ => True) v337 y336) ∧ Aside0 (Below w.heap.size w w'))
 case atStart => exact ⟨(1), (0), frs, frs, H', ⟨Nat.le_refl _⟩, ⟨rdR HO338.out⟩, ⟨bel⟩⟩
 case round =>
  clear H'
  obtain ⟨x4_1, x5_1, rfl, rfl, HA, HK1, HO_3, HB⟩ := hrel
  cases gk with
  | zero => exact absurd HA.out (by simp [fountainref1_Degree.l0])
  | succ k1 =>
   have H := HA.out
   clear HA
   simp only [fountainref1_Degree.l0] at H
   by_cases c5 : x5_1 < (y336.length : Int)
   ·rw [if_pos c5] at H
    have c5b0 : decide (x5_1 < (y336.length : Int)) = true := decide_eq_true c5
    clear c5
    by_cases c6 : 0 ≤ x5_1
    ·rw [if_pos c6] at H
     have c6b0 : decide (0 ≤ x5_1) = true := decide_eq_true c6
     clear c6
     by_cases c7 : (rd y336 x5_1) ≤ t335
     ·rw [if_pos c7] at H
      have c7b0 : decide ((rd y336 x5_1) ≤ t335) = true := decide_eq_true c7
      clear c7
      have H' := zA H
      clear H
      obtain ⟨Ao8, co8, eo8⟩ := Kd.R_slice HO_3.out
      subst eo8
      have p339 : 0 ≤ (x5_1 : Int) := of_decide_eq_true asu
      have q339 : x5_1 < (y336.length : Int) := of_decide_eq_true asu
      obtain ⟨ad339, e339, hx339_0⟩ := Kd.at_int (Kd.R_reads' HO_3.out).2.2 x5_1 p339 q339
      cases e339
      replace p339 := eq_true p339
      replace q339 := eq_true q339
      go_wp2
      go_roundg k1
      case measure => have := HK1.out; omega
      case rel => exact ⟨(wrap64 (x4_1 + 1)), (wrap64 (x5_1 + 1)), frs, frs, H', ⟨by have := HK1.out; omega⟩, ⟨rdR HO_3.out⟩, ⟨bel⟩⟩
     ·rw [if_neg c7] at H
      have c7b0 : decide ((rd y336 x5_1) ≤ t335) = false := decide_eq_false c7
      clear c7
      have H' := zA H
      clear H
      obtain ⟨Ao9, co9, eo9⟩ := Kd.R_slice HO_3.out
      subst eo9
      have p339 : 0 ≤ (x5_1 : Int) := of_decide_eq_true asu
      have q339 : x5_1 < (y336.length : Int) := of_decide_eq_true asu
      obtain ⟨ad339, e339, hx339_0⟩ := Kd.at_int (Kd.R_reads' HO_3.out).2.2 x5_1 p339 q339
      cases e339
      replace p339 := eq_true p339
      replace q339 := eq_true q339
      go_wp2
      go_roundg k1
      case measure => have := HK1.out; omega
      case rel => exact ⟨(x4_1), (wrap64 (x5_1 + 1)), frs, frs, H', ⟨by have := HK1.out; omega⟩, ⟨rdR HO_3.out⟩, ⟨bel⟩⟩
    ·rw [if_neg c6] at H
     exact absurd H (by simp)
   ·rw [if_neg c5] at H
    have c5b0 : decide (x5_1 < (y336.length : Int)) = false := decide_eq_false c5
    clear c5
    obtain rfl := Option.some.inj H
    obtain ⟨Ao10, co10, eo10⟩ := Kd.R_slice HO_3.out
    subst eo10
    go_wp2
    go_ret
    exact ⟨by first | rfl | (simp [errW_none, errW_some] <;> rfl) | (simp [*, errW_none, errW_some] <;> rfl), bel⟩
end Go.Proofs.Ytbfhinfblepidaa.PSeedTells
namespace Go.Proofs.Ytbfhinfblepidaa.PSeedTells
open Go.RowKit Go.Proofs.YtbfhinfblepidaaW.PrintWords Go.Proofs.YtbfhinfblepidaaW.PrintLast Go.Proofs.YtbfhinfblepidaaW.PrintMore Go.Proofs.Ytbfhinfblepidaa.PSolveTells
attribute [local go_sem] max2_int min2_int max_two min_two max_three min_three max_four min_four
set_option linter.unusedVariables false
set_option linter.unusedSimpArgs false
mutual
noncomputable def fountainref1_Parts.j0 : Nat → Int → Int → Int → Bool → Option (List Int)
 | 0, _, _, _, _ => none
 | k + 1, x0, x1, x2, x37 => if x37 = true then (some ([] : List Int)) else ((fountainref1_W.f x0).bind fun t340 => ((fountainref1_Rand.f ((Go.bits .and .u64 (IntKind.u64.wrap (wrap64 ((wrap64 (x1 * 65537)) + (wrap64 (x2 * 31))))) 4294967295) % 4294967296) 0 1048576).bind fun t341 => ((fountainref1_Degree.f k t341).bind fun t342 => ((fountainref1_Cut.f t342 0 t340).bind fun t343 => (if t340 > 1 then ((fountainref1_Rand.f ((Go.bits .and .u64 (IntKind.u64.wrap (wrap64 ((wrap64 (x1 * 65537)) + (wrap64 (x2 * 31))))) 4294967295) % 4294967296) 1 (wrap64 (t340 - 1))).bind fun t344 => (fountainref1_Parts.j1 k t340 ((Go.bits .and .u64 (IntKind.u64.wrap (wrap64 ((wrap64 (x1 * 65537)) + (wrap64 (x2 * 31))))) 4294967295) % 4294967296) t343 (wrap64 (1 + t344)))) else (fountainref1_Parts.j1 k t340 ((Go.bits .and .u64 (IntKind.u64.wrap (wrap64 ((wrap64 (x1 * 65537)) + (wrap64 (x2 * 31))))) 4294967295) % 4294967296) t343 1))))))
noncomputable def fountainref1_Parts.j1 : Nat → Int → Int → Int → Int → Option (List Int)
 | 0, _, _, _, _ => none
 | k + 1, x7, x8, x9, x10 => (fountainref1_Rand.f x8 2 x7).bind fun t345 => (if 0 ≤ x7 then (if (x7 : Int).toNat ≤ 281474976710656 then (fountainref1_Parts.l0 k x7 x8 x9 x10 t345 (List.replicate (x7 : Int).toNat false) ([] : List Int) 0) else (none)) else (none))
noncomputable def fountainref1_Parts.l0 : Nat → Int → Int → Int → Int → Int → List Bool → List Int → Int → Option (List Int)
 | 0, _, _, _, _, _, _, _, _ => none
 | k + 1, x7, x8, x9, x10, x11, x12, x13, x14 => if x14 < x9 then (if x7 = 0 then (none) else (fountainref1_Parts.l1 k x7 x8 x9 x10 x11 x12 x13 x14 (Int.tmod (wrap64 (x11 + (wrap64 (x14 * x10)))) x7))) else ((fountainref1_Rand.f x8 3 2).bind fun t349 => (if x13.length < 17592186044416 then (some (x13 ++ [wrap64 (x7 + t349)])) else (none)))
noncomputable def fountainref1_Parts.l1 : Nat → Int → Int → Int → Int → Int → List Bool → List Int → Int → Int → Option (List Int)
 | 0, _, _, _, _, _, _, _, _, _ => none
 | k + 1, x7, x8, x9, x10, x11, x12, x13, x14, x15 => if 0 ≤ x15 then (if x15 < (x12.length : Int) then (if rdOf false x12 x15 = true then (if x7 = 0 then (none) else (fountainref1_Parts.l1 k x7 x8 x9 x10 x11 x12 x13 x14 (Int.tmod (wrap64 (x15 + 1)) x7))) else (if x13.length < 17592186044416 then (fountainref1_Parts.l0 k x7 x8 x9 x10 x11 (x12.set (x15 : Int).toNat true) (x13 ++ [x15]) (wrap64 (x14 + 1))) else (none))) else (none)) else (none)
end
noncomputable def fountainref1_Parts.f (k : Nat) (a0 : Int) (a1 : Int) (a2 : Int) : Option (List Int) := if a0 < 1 then (fountainref1_Parts.j0 k a0 a1 a2 true) else (if a0 > 40 then (fountainref1_Parts.j0 k a0 a1 a2 true) else (if a1 < 0 then (fountainref1_Parts.j0 k a0 a1 a2 true) else (if a1 > 255 then (fountainref1_Parts.j0 k a0 a1 a2 true) else (if a2 < 0 then (fountainref1_Parts.j0 k a0 a1 a2 true) else (fountainref1_Parts.j0 k a0 a1 a2 (decide (a2 ≥ 16777216)))))))
theorem fountainref1_Parts.calls (k : Nat) (a0 : Int) (a1 : Int) (a2 : Int) (r : List Int) (w : World) (h : fountainref1_Parts.f k a0 a1 a2 = some r) :
 Calls Try.prog 77 #[.int .i64 a0, .int .i64 a1, .int .i64 a2] w fun e w' => ∃ v0_ : Value, e = .returned (v0_) ∧ Kd.R (Kd.int .i64) 3 w' w.heap.size (fun _ => True) v0_ r ∧ Below w.heap.size w w' := by
 have HB := zA (Below.refl w.heap.size w)
 have H : (if a0 < 1 then (fountainref1_Parts.j0 k a0 a1 a2 true) else (if a0 > 40 then (fountainref1_Parts.j0 k a0 a1 a2 true) else (if a1 < 0 then (fountainref1_Parts.j0 k a0 a1 a2 true) else (if a1 > 255 then (fountainref1_Parts.j0 k a0 a1 a2 true) else (if a2 < 0 then (fountainref1_Parts.j0 k a0 a1 a2 true) else (fountainref1_Parts.j0 k a0 a1 a2 (decide (a2 ≥ 16777216)))))))) = some r := h
 clear h
 have HC4 := zA H
 clear H
 go_enter Try.func77, Try.ntmps77
 go_upto_region 1 with (fail)
 go_cut [37] (fun v37 wc => ∃ (kq : Nat) (x37_3 : Bool), v37 = .bool x37_3 ∧ Aside0 (fountainref1_Parts.j0 kq a0 a1 a2 x37_3 = some r) ∧ Aside0 (kq ≤ k) ∧ Aside0 (Below w.heap.size w wc))
 case first =>
  have H := HC4.out
  clear HC4
  by_cases c5 : a0 < 1
  ·rw [if_pos c5] at H
   have c5b0 : decide (a0 < 1) = true := decide_eq_true c5
   clear c5
   (first | rw [c5b0] | (simp only [i64_w, i32_w]; rw [c5b0]) | skip)
   have H' := zA H
   clear H
   go_wp2
   go_meet
   case rel => exact ⟨_, (true), frs, H', ⟨by first | omega | exact Nat.le_refl _⟩, ⟨bel⟩⟩
  ·rw [if_neg c5] at H
   have c5b0 : decide (a0 < 1) = false := decide_eq_false c5
   clear c5
   (first | rw [c5b0] | (simp only [i64_w, i32_w]; rw [c5b0]) | skip)
   by_cases c6 : a0 > 40
   ·rw [if_pos c6] at H
    have c6b0 : decide (40 < a0) = true := decide_eq_true c6
    clear c6
    have H' := zA H
    clear H
    go_wp2
    go_meet
    case rel => exact ⟨_, (true), frs, H', ⟨by first | omega | exact Nat.le_refl _⟩, ⟨bel⟩⟩
   ·rw [if_neg c6] at H
    have c6b0 : decide (40 < a0) = false := decide_eq_false c6
    clear c6
    by_cases c7 : a1 < 0
    ·rw [if_pos c7] at H
     have c7b0 : decide (a1 < 0) = true := decide_eq_true c7
     clear c7
     have H' := zA H
     clear H
     go_wp2
     go_meet
     case rel => exact ⟨_, (true), frs, H', ⟨by first | omega | exact Nat.le_refl _⟩, ⟨bel⟩⟩
    ·rw [if_neg c7] at H
     have c7b0 : decide (a1 < 0) = false := decide_eq_false c7
     clear c7
     by_cases c8 : a1 > 255
     ·rw [if_pos c8] at H
      have c8b0 : decide (255 < a1) = true := decide_eq_true c8
      clear c8
      have H' := zA H
      clear H
      go_wp2
      go_meet
      case rel => exact ⟨_, (true), frs, H', ⟨by first | omega | exact Nat.le_refl _⟩, ⟨bel⟩⟩
     ·rw [if_neg c8] at H
      have c8b0 : decide (255 < a1) = false := decide_eq_false c8
      clear c8
      by_cases c9 : a2 < 0
      ·rw [if_pos c9] at H
       have c9b0 : decide (a2 < 0) = true := decide_eq_true c9
       clear c9
       have H' := zA H
       clear H
       go_wp2
       go_meet
       case rel => exact ⟨_, (true), frs, H', ⟨by first | omega | exact Nat.le_refl _⟩, ⟨bel⟩⟩
      ·rw [if_neg c9] at H
       have c9b0 : decide (a2 < 0) = false := decide_eq_false c9
       clear c9
       have H' := zA H
       clear H
       go_wp2
       go_meet
       case rel => exact ⟨_, (decide (a2 ≥ 16777216)), frs, H', ⟨by first | omega | exact Nat.le_refl _⟩, ⟨bel⟩⟩
 case rest =>
  clear HC4
  obtain ⟨kq, x37_3, rfl, HA, HJ3, HB⟩ := hcut
  cases kq with
  | zero => exact absurd HA.out (by simp [fountainref1_Parts.j0])
  | succ kj3 =>
   have H := HA.out
   clear HA
   simp only [fountainref1_Parts.j0] at H
   by_cases c10 : x37_3 = true
   ·subst c10
    have H1 : (some ([] : List Int)) = some r := by rw [if_pos rfl] at H; exact H
    clear H
    have H := H1
    clear H1
    obtain rfl := Option.some.inj H
    go_wp2
    go_ret
    exact ⟨_, by first | rfl | (simp [errW_none, errW_some] <;> rfl) | (simp [*, errW_none, errW_some] <;> rfl), by first | exact Kd.R_nil _ _ _ _ _ | exact Kd.N_nil _ _ _ _ _ | exact Kd.V_nil _ _ _ _ _ | exact Kd.Q_nil _ _ _ _ _ | exact Kd.S_nil _ _ _ _ _, bel⟩
   ·replace c10 := Bool.eq_false_iff.mpr c10
    subst c10
    have H1 : ((fountainref1_W.f a0).bind fun t340 => ((fountainref1_Rand.f ((Go.bits .and .u64 (IntKind.u64.wrap (wrap64 ((wrap64 (a1 * 65537)) + (wrap64 (a2 * 31))))) 4294967295) % 4294967296) 0 1048576).bind fun t341 => ((fountainref1_Degree.f kj3 t341).bind fun t342 => ((fountainref1_Cut.f t342 0 t340).bind fun t343 => (if t340 > 1 then ((fountainref1_Rand.f ((Go.bits .and .u64 (IntKind.u64.wrap (wrap64 ((wrap64 (a1 * 65537)) + (wrap64 (a2 * 31))))) 4294967295) % 4294967296) 1 (wrap64 (t340 - 1))).bind fun t344 => (fountainref1_Parts.j1 kj3 t340 ((Go.bits .and .u64 (IntKind.u64.wrap (wrap64 ((wrap64 (a1 * 65537)) + (wrap64 (a2 * 31))))) 4294967295) % 4294967296) t343 (wrap64 (1 + t344)))) else (fountainref1_Parts.j1 kj3 t340 ((Go.bits .and .u64 (IntKind.u64.wrap (wrap64 ((wrap64 (a1 * 65537)) + (wrap64 (a2 * 31))))) 4294967295) % 4294967296) t343 1)))))) = some r := by rw [if_neg (show ¬ (false = true) by decide)] at H; exact H
    clear H
    have H := H1
    clear H1
    replace H := Option.bind_eq_some_iff.mp H
    obtain ⟨t340, A110, H⟩ := H
    try dsimp only at H
    have A11 := zA A110
    clear A110
    replace H := Option.bind_eq_some_iff.mp H
    obtain ⟨t341, A120, H⟩ := H
    try dsimp only at H
    have A12 := zA A120
    clear A120
    replace H := Option.bind_eq_some_iff.mp H
    obtain ⟨t342, A130, H⟩ := H
    try dsimp only at H
    have A13 := zA A130
    clear A130
    replace H := Option.bind_eq_some_iff.mp H
    obtain ⟨t343, A140, H⟩ := H
    try dsimp only at H
    have A14 := zA A140
    clear A140
    have HC15 := zA H
    clear H
    go_upto_if 54 with (first | ((with_reducible refine gate_callee (f := 52) rfl ?_); refine goesL_ (some 39) rfl rfl Try.func52 (by kernel_rfl) rfl #[.int .i64 a0] rfl agl ?_; (with_reducible refine (fountainref1_W.calls a0 t340 _ A11.out).mono ?_); rintro e w' ⟨rfl, ⟨nd, rfl⟩⟩; refine ⟨_, rfl, ?_⟩) | ((with_reducible refine gate_callee (f := 75) rfl ?_); refine goesL_ (some 49) rfl rfl Try.func75 (by kernel_rfl) rfl #[.int .u32 ((Go.bits .and .u64 (IntKind.u64.wrap (wrap64 ((wrap64 (a1 * 65537)) + (wrap64 (a2 * 31))))) 4294967295) % 4294967296), .int .u32 0, .int .i64 1048576] rfl agl ?_; (with_reducible refine (fountainref1_Rand.calls ((Go.bits .and .u64 (IntKind.u64.wrap (wrap64 ((wrap64 (a1 * 65537)) + (wrap64 (a2 * 31))))) 4294967295) % 4294967296) 0 1048576 t341 _ A12.out).mono ?_); rintro e w' ⟨rfl, ⟨nd, rfl⟩⟩; refine ⟨_, rfl, ?_⟩) | ((with_reducible refine gate_callee (f := 105) rfl ?_); refine goesL_ (some 50) rfl rfl Try.func105 (by kernel_rfl) rfl #[.int .i64 t341] rfl agl ?_; (with_reducible refine (fountainref1_Degree.calls kj3 t341 t342 _ A13.out).mono ?_); rintro e w16 ⟨rfl, hb⟩; refine ⟨_, rfl, ?_⟩; replace HB := zA (belt hb)) | ((with_reducible refine gate_callee (f := 70) rfl ?_); refine goesL_ (some 52) rfl rfl Try.func70 (by kernel_rfl) rfl #[.int .i64 t342, .int .i64 0, .int .i64 t340] rfl agl ?_; (with_reducible refine (fountainref1_Cut.calls t342 0 t340 t343 _ A14.out).mono ?_); rintro e w' ⟨rfl, ⟨nd, rfl⟩⟩; refine ⟨_, rfl, ?_⟩))
    (try simp only [Act.put, List.setIfInBounds_toArray, List.set_cons_zero, List.set_cons_succ])
    go_cut [10] (fun v10 wc => ∃ (kq : Nat) (x10_14 : Int), v10 = .int .i64 x10_14 ∧ Aside0 (fountainref1_Parts.j1 kq t340 ((Go.bits .and .u64 (IntKind.u64.wrap (wrap64 ((wrap64 (a1 * 65537)) + (wrap64 (a2 * 31))))) 4294967295) % 4294967296) t343 x10_14 = some r) ∧ Aside0 (kq ≤ kj3) ∧ Aside0 (Below w.heap.size w wc))
    case first =>
     have H := HC15.out
     clear HC15
     by_cases c17 : t340 > 1
     ·rw [if_pos c17] at H
      have c17b0 : decide (1 < t340) = true := decide_eq_true c17
      clear c17
      (first | rw [c17b0] | (simp only [i64_w, i32_w]; rw [c17b0]) | skip)
      replace H := Option.bind_eq_some_iff.mp H
      obtain ⟨t344, A180, H⟩ := H
      try dsimp only at H
      have A18 := zA A180
      clear A180
      have H' := zA H
      clear H
      go_wp2_with (first | ((with_reducible refine gate_callee (f := 75) rfl ?_); refine goesL_ (some 58) rfl rfl Try.func75 (by kernel_rfl) rfl #[.int .u32 ((Go.bits .and .u64 (IntKind.u64.wrap (wrap64 ((wrap64 (a1 * 65537)) + (wrap64 (a2 * 31))))) 4294967295) % 4294967296), .int .u32 1, .int .i64 (wrap64 (t340 - 1))] rfl agl ?_; (with_reducible refine (fountainref1_Rand.calls ((Go.bits .and .u64 (IntKind.u64.wrap (wrap64 ((wrap64 (a1 * 65537)) + (wrap64 (a2 * 31))))) 4294967295) % 4294967296) 1 (wrap64 (t340 - 1)) t344 _ A18.out).mono ?_); rintro e w' ⟨rfl, ⟨nd, rfl⟩⟩; refine ⟨_, rfl, ?_⟩))
      go_meet
      case rel => exact ⟨_, (wrap64 (1 + t344)), frs, H', ⟨by have := HJ3.out; first | omega | exact Nat.le_refl _⟩, ⟨bel⟩⟩
     ·rw [if_neg c17] at H
      have c17b0 : decide (1 < t340) = false := decide_eq_false c17
      clear c17
      (first | rw [c17b0] | (simp only [i64_w, i32_w]; rw [c17b0]) | skip)
      have H' := zA H
      clear H
      go_wp2
      go_meet
      case rel => exact ⟨_, (1), frs, H', ⟨by have := HJ3.out; first | omega | exact Nat.le_refl _⟩, ⟨bel⟩⟩
    case rest =>
     clear HC15
     obtain ⟨kq, x10_14, rfl, HA, HJ14, HB⟩ := hcut
     cases kq with
     | zero => exact absurd HA.out (by simp [fountainref1_Parts.j1])
     | succ kj14 =>
      have H := HA.out
      clear HA
      simp only [fountainref1_Parts.j1] at H
      replace H := Option.bind_eq_some_iff.mp H
      obtain ⟨t345, A190, H⟩ := H
      try dsimp only at H
      have A19 := zA A190
      clear A190
      by_cases c20 : 0 ≤ t340
      ·rw [if_pos c20] at H
       have c20b0 := eq_true c20
       have c20b1 : decide (0 ≤ t340) = true := decide_eq_true c20
       clear c20
       by_cases c21 : (t340 : Int).toNat ≤ 281474976710656
       ·rw [if_pos c21] at H
        have c21b0 := eq_true c21
        have c21b1 : decide ((t340 : Int).toNat ≤ 281474976710656) = true := decide_eq_true c21
        clear c21
        obtain ⟨y346, hy346⟩ : ∃ y_ : List Bool, y_ = (List.replicate (t340 : Int).toNat false) := ⟨_, rfl⟩
        replace H : (fountainref1_Parts.l0 kj14 t340 ((Go.bits .and .u64 (IntKind.u64.wrap (wrap64 ((wrap64 (a1 * 65537)) + (wrap64 (a2 * 31))))) 4294967295) % 4294967296) t343 x10_14 t345 y346 ([] : List Int) 0) = some r := zC H hy346
        have Ny346 := zA hy346
        clear hy346
        have H' := zA H
        clear H
        go_wp2_with (first | ((with_reducible refine gate_callee (f := 75) rfl ?_); refine goesL_ (some 62) rfl rfl Try.func75 (by kernel_rfl) rfl #[.int .u32 ((Go.bits .and .u64 (IntKind.u64.wrap (wrap64 ((wrap64 (a1 * 65537)) + (wrap64 (a2 * 31))))) 4294967295) % 4294967296), .int .u32 2, .int .i64 t340] rfl agl ?_; (with_reducible refine (fountainref1_Rand.calls ((Go.bits .and .u64 (IntKind.u64.wrap (wrap64 ((wrap64 (a1 * 65537)) + (wrap64 (a2 * 31))))) 4294967295) % 4294967296) 2 t340 t345 _ A19.out).mono ?_); rintro e w' ⟨rfl, ⟨nd, rfl⟩⟩; refine ⟨_, rfl, ?_⟩) | ((with_reducible refine gate_dst (N := 64) rfl ?_); refine Kd.R_make Kd.bool _ 4 rfl (N := 64) rfl 128 _ _ rfl t340 rfl rfl Try.underlying128 (.bool false) 1 info4 rfl (by decide) (by omega) false (ok := fun _ => True) (okp := fun _ => True) rfl (fun _ hk => hk) trivial (of_decide_eq_true asu) (Nat.le_trans (Nat.mul_le_mul_right _ (of_decide_eq_true asu : t340.toNat ≤ 281474976710656)) (by omega)) (Below.refl _ _) (Nat.le_refl _) ?_; intro v347 w22 ho23 hb hg_ hnew_; clear hg_ hnew_; (first | rw [← Ny346.out] at ho23 | (simp only [Int.reduceToNat] at ho23; rw [← Ny346.out] at ho23)); have HO348 := zA (Kd.R_lower ho23 bels); replace HB := zA (belt hb); clear hb ho23))
        go_loopg [13, 14] kj14 (fun kq v13 v14 w' => ∃ (x12_3 : List Bool) (x13_3 : List Int) (x14_3 : Int), v14 = .int .i64 x14_3 ∧ Aside0 (fountainref1_Parts.l0 kq t340 ((Go.bits .and .u64 (IntKind.u64.wrap (wrap64 ((wrap64 (a1 * 65537)) + (wrap64 (a2 * 31))))) 4294967295) % 4294967296) t343 x10_14 t345 x12_3 x13_3 x14_3 = some r) ∧ Aside0 (kq ≤ kj14) ∧ Aside0 (Kd.R Kd.bool 4 w' w.heap.size (fun _ => True) v347 x12_3) ∧ Aside0 (Kd.R (Kd.int .i64) 3 w' w.heap.size (fun _ => True) v13 x13_3) ∧ Aside0 (Below w.heap.size w w'))
        case atStart => exact ⟨(y346), (([] : List Int)), (0), frs, H', ⟨Nat.le_refl _⟩, ⟨rdR HO348.out⟩, ⟨by first | exact Kd.R_nil _ _ _ _ _ | exact Kd.N_nil _ _ _ _ _ | exact Kd.V_nil _ _ _ _ _ | exact Kd.Q_nil _ _ _ _ _ | exact Kd.S_nil _ _ _ _ _⟩, ⟨bel⟩⟩
        case round =>
         clear H'
         obtain ⟨x12_3, x13_3, x14_3, rfl, HA, HK3, HO_12, HO_13, HB⟩ := hrel
         cases gk with
         | zero => exact absurd HA.out (by simp [fountainref1_Parts.l0])
         | succ k3 =>
          have H := HA.out
          clear HA
          simp only [fountainref1_Parts.l0] at H
          by_cases c24 : x14_3 < t343
          ·rw [if_pos c24] at H
           have c24b0 : decide (x14_3 < t343) = true := decide_eq_true c24
           clear c24
           by_cases c25 : t340 = 0
           ·rw [if_pos c25] at H
            exact absurd H (by simp)
           ·rw [if_neg c25] at H
            have c25b0 : (t340 == 0) = false := beq_eq_false_iff_ne.mpr c25
            have c25b1 : (t340 != 0) = true := bne_iff_ne.mpr c25
            have H' := zA H
            clear H
            go_wp2
            go_loopg [15] k3 (fun kq v15 w' => ∃ (x15_4 : Int), v15 = .int .i64 x15_4 ∧ Aside0 (fountainref1_Parts.l1 kq t340 ((Go.bits .and .u64 (IntKind.u64.wrap (wrap64 ((wrap64 (a1 * 65537)) + (wrap64 (a2 * 31))))) 4294967295) % 4294967296) t343 x10_14 t345 x12_3 x13_3 x14_3 x15_4 = some r) ∧ Aside0 (kq ≤ k3) ∧ Aside0 (Kd.R Kd.bool 4 w' w.heap.size (fun _ => True) v347 x12_3) ∧ Aside0 (Kd.R (Kd.int .i64) 3 w' w.heap.size (fun _ => True) u13 x13_3) ∧ Aside0 (Below w.heap.size w w'))
            case atStart => exact ⟨(Int.tmod (wrap64 (t345 + (wrap64 (x14_3 * x10_14)))) t340), frs, H', ⟨Nat.le_refl _⟩, ⟨rdR HO_12.out⟩, ⟨rdR HO_13.out⟩, ⟨bel⟩⟩
            case round =>
             clear H'
             obtain ⟨x15_4, rfl, HA, HK4, HO_12, HO_13, HB⟩ := hrel
             cases gk with
             | zero => exact absurd HA.out (by simp [fountainref1_Parts.l1])
             | succ k4 =>
              have H := HA.out
              clear HA
              simp only [fountainref1_Parts.l1] at H
              by_cases c26 : 0 ≤ x15_4
              ·rw [if_pos c26] at H
               have c26b0 : decide (0 ≤ x15_4) = true := decide_eq_true c26
               clear c26
               by_cases c27 : x15_4 < (x12_3.length : Int)
               ·rw [if_pos c27] at H
                have c27b0 : decide (x15_4 < (x12_3.length : Int)) = true := decide_eq_true c27
                clear c27
                obtain ⟨bq28, hbq28⟩ : ∃ b_ : Bool, b_ = (rdOf false x12_3 x15_4) := ⟨_, rfl⟩
                replace H : (if bq28 = true then (if t340 = 0 then (none) else (fountainref1_Parts.l1 k4 t340 ((Go.bits .and .u64 (IntKind.u64.wrap (wrap64 ((wrap64 (a1 * 65537)) + (wrap64 (a2 * 31))))) 4294967295) % 4294967296) t343 x10_14 t345 x12_3 x13_3 x14_3 (Int.tmod (wrap64 (x15_4 + 1)) t340))) else (if x13_3.length < 17592186044416 then (fountainref1_Parts.l0 k4 t340 ((Go.bits .and .u64 (IntKind.u64.wrap (wrap64 ((wrap64 (a1 * 65537)) + (wrap64 (a2 * 31))))) 4294967295) % 4294967296) t343 x10_14 t345 (x12_3.set (x15_4 : Int).toNat true) (x13_3 ++ [x15_4]) (wrap64 (x14_3 + 1))) else (none))) = some r := by rw [← hbq28] at H; exact H
                have Nbq28 := zA hbq28
                clear hbq28
                by_cases c29 : bq28 = true
                ·subst c29
                 have H1 : (if t340 = 0 then (none) else (fountainref1_Parts.l1 k4 t340 ((Go.bits .and .u64 (IntKind.u64.wrap (wrap64 ((wrap64 (a1 * 65537)) + (wrap64 (a2 * 31))))) 4294967295) % 4294967296) t343 x10_14 t345 x12_3 x13_3 x14_3 (Int.tmod (wrap64 (x15_4 + 1)) t340))) = some r := by rw [if_pos rfl] at H; exact H
                 clear H
                 have H := H1
                 clear H1
                 by_cases c30 : t340 = 0
                 ·rw [if_pos c30] at H
                  exact absurd H (by simp)
                 ·rw [if_neg c30] at H
                  have c30b0 : (t340 == 0) = false := beq_eq_false_iff_ne.mpr c30
                  have c30b1 : (t340 != 0) = true := bne_iff_ne.mpr c30
                  have H' := zA H
                  clear H
                  obtain ⟨Ao31, co31, eo31⟩ := Kd.R_slice HO_12.out
                  subst eo31
                  have p353 : 0 ≤ (x15_4 : Int) := of_decide_eq_true asu
                  have q353 : x15_4 < (x12_3.length : Int) := of_decide_eq_true asu
                  obtain ⟨ad353, e353, hx353_0⟩ := Kd.at_bool (Kd.R_reads' HO_12.out).2.2 x15_4 p353 q353
                  (try rw [← Nbq28.out] at hx353_0)
                  cases e353
                  replace p353 := eq_true p353
                  replace q353 := eq_true q353
                  go_wp2
                  go_roundg k4
                  case measure => have := HJ3.out; have := HJ14.out; have := HK3.out; have := HK4.out; omega
                  case rel => exact ⟨(Int.tmod (wrap64 (x15_4 + 1)) t340), frs, H', ⟨by have := HJ3.out; have := HJ14.out; have := HK3.out; have := HK4.out; omega⟩, ⟨rdR HO_12.out⟩, ⟨rdR HO_13.out⟩, ⟨bel⟩⟩
                ·replace c29 := Bool.eq_false_iff.mpr c29
                 subst c29
                 have H1 : (if x13_3.length < 17592186044416 then (fountainref1_Parts.l0 k4 t340 ((Go.bits .and .u64 (IntKind.u64.wrap (wrap64 ((wrap64 (a1 * 65537)) + (wrap64 (a2 * 31))))) 4294967295) % 4294967296) t343 x10_14 t345 (x12_3.set (x15_4 : Int).toNat true) (x13_3 ++ [x15_4]) (wrap64 (x14_3 + 1))) else (none)) = some r := by rw [if_neg (show ¬ (false = true) by decide)] at H; exact H
                 clear H
                 have H := H1
                 clear H1
                 obtain ⟨y354, hy354⟩ : ∃ y_ : List Bool, y_ = (x12_3.set (x15_4 : Int).toNat true) := ⟨_, rfl⟩
                 replace H : (if x13_3.length < 17592186044416 then (fountainref1_Parts.l0 k4 t340 ((Go.bits .and .u64 (IntKind.u64.wrap (wrap64 ((wrap64 (a1 * 65537)) + (wrap64 (a2 * 31))))) 4294967295) % 4294967296) t343 x10_14 t345 y354 (x13_3 ++ [x15_4]) (wrap64 (x14_3 + 1))) else (none)) = some r := zC H hy354
                 have Ny354 := zA hy354
                 clear hy354
                 by_cases c33 : x13_3.length < 17592186044416
                 ·rw [if_pos c33] at H
                  have LMc33 := zA c33
                  clear c33
                  obtain ⟨y355, hy355⟩ : ∃ y_ : List Int, y_ = (x13_3 ++ [x15_4]) := ⟨_, rfl⟩
                  replace H : (fountainref1_Parts.l0 k4 t340 ((Go.bits .and .u64 (IntKind.u64.wrap (wrap64 ((wrap64 (a1 * 65537)) + (wrap64 (a2 * 31))))) 4294967295) % 4294967296) t343 x10_14 t345 y354 y355 (wrap64 (x14_3 + 1))) = some r := zC H hy355
                  have Ny355 := zA hy355
                  clear hy355
                  have H' := zA H
                  clear H
                  obtain ⟨Ao34, co34, eo34⟩ := Kd.R_slice HO_12.out
                  subst eo34
                  have p353 : 0 ≤ (x15_4 : Int) := of_decide_eq_true asu
                  have q353 : x15_4 < (x12_3.length : Int) := of_decide_eq_true asu
                  obtain ⟨ad353, e353, hx353_0⟩ := Kd.at_bool (Kd.R_reads' HO_12.out).2.2 x15_4 p353 q353
                  (try rw [← Nbq28.out] at hx353_0)
                  cases e353
                  replace p353 := eq_true p353
                  replace q353 := eq_true q353
                  have p32 : 0 ≤ (x15_4 : Int) := of_decide_eq_true asu
                  have q32 : (x15_4 : Int) < ((x12_3.length : Int) : Int) := of_decide_eq_true asu
                  obtain ⟨go32, co32, eo32, gb32, gl32, cl32, HG32⟩ := Kd.R_form HO_12.out (by omega)
                  (first | cases eo32 | (injection eo32 with ea_ en_ ec_; (first | subst ea_ | (injection ea_ with ea_; subst ea_)); subst ec_; clear en_))
                  have GB32 := zA gb32
                  have GG32 := zA HG32
                  clear gb32 gl32 HG32
                  (first | simp only [add_plain] at hx353_0 | skip)
                  obtain ⟨hx32_0, hf32_0⟩ := Kd.R_celln false HO_12.out (x15_4 : Int) p32 q32
                  replace p32 := eq_true p32
                  replace q32 := eq_true q32
                  have HP35 := Kd.R_putg HO_12.out (x15_4 : Int) true
                  go_wp2_with (first | ((with_reducible refine gate_store (t := 4) (p := 87) rfl ?_); refine store_event (t := 4) (p := 87) (v := ?vo_w36) (w1 := (wr.setCell ⟨go32, (x15_4 : Int).toNat, none⟩ (.bool true))) ?hg ?ho ?hn ?hr ?_; (case ho => rfl); (case hg => rfl); (case hn => rfl); (case hr => first | (go_simp; done) | (go_simp; rfl)); intro w36 hw; have hg : wr.grownBy w36 (some go32) := (by rw [hw]; exact HP35.2); have hp_ : Kd.R Kd.bool 4 w36 w.heap.size (fun _ => True) (.slice (some ⟨go32, 0, none⟩) x12_3.length co34) y354 := (by rw [hw, Ny354.out]; exact HP35.1); clear HP35; replace HO_13 := zA (Kd.R_over' (v := (.slice (some ⟨go32, 0, none⟩) x12_3.length co34)) (R_g HO_13.out) (Kd.R_typed HO_12.out) (by decide) hg); replace HO_12 := zA (hp_); replace HB := zA ((by rw [hw]; exact below_set (HB.out) GB32.out : Below w.heap.size w w36)); clear hg hw hp_) | ((with_reducible refine gate_builtin (b := .append) (xs := #[.tmp 88, .tmp 90]) rfl ?_); at_builtin; refine Kd.R_append (Kd.int .i64) (w0 := w) w.heap.size rfl (.tmp 88) (.tmp 90) 51 3 (.int .i64 0) 8 rfl Try.underlying51 info3 rfl (by decide) (by omega) u13 x13_3 x15_4 [.int .i64 x15_4] (fun _ => True) (fun _ => False) rfl rfl ?aP (fun _ hk => hk.elim) ?aF ?aO ?aB ?aS ?aL ?_; (case aP => exact rfl); (case aB => exact bel); (case aF => exact (fun _ _ => trivial)); (case aO => exact (R_g HO_13.out)); (case aS => exact bels); (case aL => have := LMc33.out; omega); intro v356 w37 ho hb hg hat; rw [← Ny355.out] at ho; replace HO_12 := zA (Kd.R_over' (R_g HO_12.out) (Kd.R_typed (R_g HO_13.out)) (by decide) hg); replace HB := zA (hb); have HO357 := zA (ho); clear HO_13; clear ho hb hg hat))
                  go_roundg k4
                  case measure => have := HJ3.out; have := HJ14.out; have := HK3.out; have := HK4.out; omega
                  case rel => exact ⟨(y354), (y355), (wrap64 (x14_3 + 1)), frs, H', ⟨by have := HJ3.out; have := HJ14.out; have := HK3.out; have := HK4.out; omega⟩, ⟨rdR HO_12.out⟩, ⟨rdR HO357.out⟩, ⟨bel⟩⟩
                 ·rw [if_neg c33] at H
                  exact absurd H (by simp)
               ·rw [if_neg c27] at H
                exact absurd H (by simp)
              ·rw [if_neg c26] at H
               exact absurd H (by simp)
          ·rw [if_neg c24] at H
           have c24b0 : decide (x14_3 < t343) = false := decide_eq_false c24
           clear c24
           replace H := Option.bind_eq_some_iff.mp H
           obtain ⟨t349, A380, H⟩ := H
           try dsimp only at H
           have A38 := zA A380
           clear A380
           by_cases c39 : x13_3.length < 17592186044416
           ·rw [if_pos c39] at H
            have LMc39 := zA c39
            clear c39
            obtain ⟨y350, hy350⟩ : ∃ y_ : List Int, y_ = (x13_3 ++ [wrap64 (t340 + t349)]) := ⟨_, rfl⟩
            replace H : (some y350) = some r := zC H hy350
            have Ny350 := zA hy350
            clear hy350
            obtain rfl := Option.some.inj H
            go_wp2_with (first | ((with_reducible refine gate_callee (f := 75) rfl ?_); refine goesL_ (some 95) rfl rfl Try.func75 (by kernel_rfl) rfl #[.int .u32 ((Go.bits .and .u64 (IntKind.u64.wrap (wrap64 ((wrap64 (a1 * 65537)) + (wrap64 (a2 * 31))))) 4294967295) % 4294967296), .int .u32 3, .int .i64 2] rfl agl ?_; (with_reducible refine (fountainref1_Rand.calls ((Go.bits .and .u64 (IntKind.u64.wrap (wrap64 ((wrap64 (a1 * 65537)) + (wrap64 (a2 * 31))))) 4294967295) % 4294967296) 3 2 t349 _ A38.out).mono ?_); rintro e w' ⟨rfl, ⟨nd, rfl⟩⟩; refine ⟨_, rfl, ?_⟩) | ((with_reducible refine gate_builtin (b := .append) (xs := #[.tmp 92, .tmp 97]) rfl ?_); at_builtin; refine Kd.R_append (Kd.int .i64) (w0 := w) w.heap.size rfl (.tmp 92) (.tmp 97) 51 3 (.int .i64 0) 8 rfl Try.underlying51 info3 rfl (by decide) (by omega) u13 x13_3 (wrap64 (t340 + t349)) [.int .i64 (wrap64 (t340 + t349))] (fun _ => True) (fun _ => False) rfl rfl ?aP (fun _ hk => hk.elim) ?aF ?aO ?aB ?aS ?aL ?_; (case aP => exact rfl); (case aB => exact bel); (case aF => exact (fun _ _ => trivial)); (case aO => exact (R_g HO_13.out)); (case aS => exact bels); (case aL => have := LMc39.out; omega); intro v351 w40 ho hb hg hat; rw [← Ny350.out] at ho; replace HO_12 := zA (Kd.R_over' (R_g HO_12.out) (Kd.R_typed (R_g HO_13.out)) (by decide) hg); replace HB := zA (hb); have HO352 := zA (ho); clear HO_13; clear ho hb hg hat))
            go_ret
            exact ⟨_, by first | rfl | (simp [errW_none, errW_some] <;> rfl) | (simp [*, errW_none, errW_some] <;> rfl), rdR HO352.out, bel⟩
           ·rw [if_neg c39] at H
            exact absurd H (by simp)
       ·rw [if_neg c21] at H
        exact absurd H (by simp)
      ·rw [if_neg c20] at H
       exact absurd H (by simp)
noncomputable def fountainref1_Row.l0 : Nat → List Int → List Int → Int → Option (List Int)
 | 0, _, _, _ => none
 | k + 1, x7, x8, x9 => if x9 < (x7.length : Int) then (if 0 ≤ x9 then (if 0 ≤ (rd x7 x9) then (if (rd x7 x9) < (x8.length : Int) then (fountainref1_Row.l0 k x7 (x8.set ((rd x7 x9) : Int).toNat 1) (wrap64 (x9 + 1))) else (none)) else (none)) else (none)) else (some x8)
noncomputable def fountainref1_Row.f (k : Nat) (a0 : Int) (a1 : Int) (a2 : Int) : Option (List Int) := (fountainref1_Parts.f k a0 a1 a2).bind fun t358 => (if (t358.length : Int) = 0 then (some ([] : List Int)) else ((fountainref1_L.f a0).bind fun t361 => (if 0 ≤ t361 then (if (t361 : Int).toNat ≤ 281474976710656 then (fountainref1_Row.l0 k t358 (List.replicate (t361 : Int).toNat 0) 0) else (none)) else (none))))
theorem fountainref1_Row.calls (k : Nat) (a0 : Int) (a1 : Int) (a2 : Int) (r : List Int) (w : World) (h : fountainref1_Row.f k a0 a1 a2 = some r) :
 Calls Try.prog 40 #[.int .i64 a0, .int .i64 a1, .int .i64 a2] w fun e w' => ∃ v0_ : Value, e = .returned (v0_) ∧ Kd.R (Kd.int .u8) 5 w' w.heap.size (fun _ => True) v0_ r ∧ Below w.heap.size w w' := by
 have HB := zA (Below.refl w.heap.size w)
 have H : ((fountainref1_Parts.f k a0 a1 a2).bind fun t358 => (if (t358.length : Int) = 0 then (some ([] : List Int)) else ((fountainref1_L.f a0).bind fun t361 => (if 0 ≤ t361 then (if (t361 : Int).toNat ≤ 281474976710656 then (fountainref1_Row.l0 k t358 (List.replicate (t361 : Int).toNat 0) 0) else (none)) else (none))))) = some r := h
 clear h
 replace H := Option.bind_eq_some_iff.mp H
 obtain ⟨t358, A40, H⟩ := H
 try dsimp only at H
 have A4 := zA A40
 clear A40
 by_cases c5 : (t358.length : Int) = 0
 ·rw [if_pos c5] at H
  have c5b0 : ((t358.length : Int) == 0) = true := beq_iff_eq.mpr c5
  have c5b1 : ((t358.length : Int) != 0) = false := bne_eq_false_iff_eq.mpr c5
  clear c5
  obtain rfl := Option.some.inj H
  go_enter Try.func40, Try.ntmps40
  go_wp2_with (first | ((with_reducible refine gate_callee (f := 77) rfl ?_); refine goesL_ (some 13) rfl rfl Try.func77 (by kernel_rfl) rfl #[.int .i64 a0, .int .i64 a1, .int .i64 a2] rfl agl ?_; (with_reducible refine (fountainref1_Parts.calls k a0 a1 a2 t358 _ A4.out).mono ?_); rintro e w6 ⟨v359, rfl, ho0, hb⟩; refine ⟨_, rfl, ?_⟩; have HO360 := zA (Kd.R_lower ho0 bels); replace HB := zA (belt hb); obtain ⟨Ao7, co7, eo7⟩ := Kd.R_slice HO360.out; subst eo7))
  go_ret
  exact ⟨_, by first | rfl | (simp [errW_none, errW_some] <;> rfl) | (simp [*, errW_none, errW_some] <;> rfl), by first | exact Kd.R_nil _ _ _ _ _ | exact Kd.N_nil _ _ _ _ _ | exact Kd.V_nil _ _ _ _ _ | exact Kd.Q_nil _ _ _ _ _ | exact Kd.S_nil _ _ _ _ _, bel⟩
 ·rw [if_neg c5] at H
  have c5b0 : ((t358.length : Int) == 0) = false := beq_eq_false_iff_ne.mpr c5
  have c5b1 : ((t358.length : Int) != 0) = true := bne_iff_ne.mpr c5
  have c5b2 : ¬ (t358 = []) := fun h_ => c5 (by rw [h_]; rfl)
  replace H := Option.bind_eq_some_iff.mp H
  obtain ⟨t361, A80, H⟩ := H
  try dsimp only at H
  have A8 := zA A80
  clear A80
  by_cases c9 : 0 ≤ t361
  ·rw [if_pos c9] at H
   have c9b0 := eq_true c9
   have c9b1 : decide (0 ≤ t361) = true := decide_eq_true c9
   clear c9
   by_cases c10 : (t361 : Int).toNat ≤ 281474976710656
   ·rw [if_pos c10] at H
    have c10b0 := eq_true c10
    have c10b1 : decide ((t361 : Int).toNat ≤ 281474976710656) = true := decide_eq_true c10
    clear c10
    obtain ⟨y362, hy362⟩ : ∃ y_ : List Int, y_ = (List.replicate (t361 : Int).toNat 0) := ⟨_, rfl⟩
    replace H : (fountainref1_Row.l0 k t358 y362 0) = some r := zC H hy362
    have Ny362 := zA hy362
    clear hy362
    have H' := zA H
    clear H
    go_enter Try.func40, Try.ntmps40
    go_wp2_with (first | ((with_reducible refine gate_callee (f := 77) rfl ?_); refine goesL_ (some 13) rfl rfl Try.func77 (by kernel_rfl) rfl #[.int .i64 a0, .int .i64 a1, .int .i64 a2] rfl agl ?_; (with_reducible refine (fountainref1_Parts.calls k a0 a1 a2 t358 _ A4.out).mono ?_); rintro e w11 ⟨v359, rfl, ho0, hb⟩; refine ⟨_, rfl, ?_⟩; have HO360 := zA (Kd.R_lower ho0 bels); replace HB := zA (belt hb); obtain ⟨Ao12, co12, eo12⟩ := Kd.R_slice HO360.out; subst eo12) | ((with_reducible refine gate_callee (f := 45) rfl ?_); refine goesL_ (some 18) rfl rfl Try.func45 (by kernel_rfl) rfl #[.int .i64 a0] rfl agl ?_; (with_reducible refine (fountainref1_L.calls a0 t361 _ A8.out).mono ?_); rintro e w' ⟨rfl, ⟨nd, rfl⟩⟩; refine ⟨_, rfl, ?_⟩) | ((with_reducible refine gate_dst (N := 19) rfl ?_); refine Kd.R_make (Kd.int .u8) _ 5 rfl (N := 19) rfl 30 _ _ rfl t361 rfl rfl Try.underlying30 (.int .u8 0) 1 info5 rfl (by decide) (by omega) 0 (ok := fun _ => True) (okp := fun _ => True) rfl (fun _ hk => hk) trivial (of_decide_eq_true asu) (Nat.le_trans (Nat.mul_le_mul_right _ (of_decide_eq_true asu : t361.toNat ≤ 281474976710656)) (by omega)) (Below.refl _ _) (Nat.le_refl _) ?_; intro v363 w13 ho14 hb hg_ hnew_; clear hg_ hnew_; (first | rw [← Ny362.out] at ho14 | (simp only [Int.reduceToNat] at ho14; rw [← Ny362.out] at ho14)); replace HO360 := zA (Kd.R_below (R_g HO360.out) hb); have HO364 := zA (Kd.R_lower ho14 bels); replace HB := zA (belt hb); clear hb ho14))
    go_loopg [9] k (fun kq v9 w' => ∃ (x8_1 : List Int) (x9_1 : Int), v9 = .int .i64 x9_1 ∧ Aside0 (fountainref1_Row.l0 kq t358 x8_1 x9_1 = some r) ∧ Aside0 (kq ≤ k) ∧ Aside0 (Kd.R (Kd.int .i64) 3 w' w.heap.size (fun _ => True) (.slice Ao12 t358.length co12) t358) ∧ Aside0 (Kd.R (Kd.int .u8) 5 w' w.heap.size (fun _ => True) v363 x8_1) ∧ Aside0 (Below w.heap.size w w'))
    case atStart => exact ⟨(y362), (0), frs, H', ⟨Nat.le_refl _⟩, ⟨rdR HO360.out⟩, ⟨rdR HO364.out⟩, ⟨bel⟩⟩
    case round =>
     clear H'
     obtain ⟨x8_1, x9_1, rfl, HA, HK1, HO_7, HO_8, HB⟩ := hrel
     cases gk with
     | zero => exact absurd HA.out (by simp [fountainref1_Row.l0])
     | succ k1 =>
      have H := HA.out
      clear HA
      simp only [fountainref1_Row.l0] at H
      by_cases c15 : x9_1 < (t358.length : Int)
      ·rw [if_pos c15] at H
       have c15b0 : decide (x9_1 < (t358.length : Int)) = true := decide_eq_true c15
       clear c15
       by_cases c16 : 0 ≤ x9_1
       ·rw [if_pos c16] at H
        have c16b0 : decide (0 ≤ x9_1) = true := decide_eq_true c16
        clear c16
        by_cases c17 : 0 ≤ (rd t358 x9_1)
        ·rw [if_pos c17] at H
         have c17b0 : decide (0 ≤ (rd t358 x9_1)) = true := decide_eq_true c17
         clear c17
         by_cases c18 : (rd t358 x9_1) < (x8_1.length : Int)
         ·rw [if_pos c18] at H
          have c18b0 : decide ((rd t358 x9_1) < (x8_1.length : Int)) = true := decide_eq_true c18
          clear c18
          obtain ⟨y366, hy366⟩ : ∃ y_ : List Int, y_ = (x8_1.set ((rd t358 x9_1) : Int).toNat 1) := ⟨_, rfl⟩
          replace H : (fountainref1_Row.l0 k1 t358 y366 (wrap64 (x9_1 + 1))) = some r := zC H hy366
          have Ny366 := zA hy366
          clear hy366
          have H' := zA H
          clear H
          have p365 : 0 ≤ (x9_1 : Int) := of_decide_eq_true asu
          have q365 : x9_1 < (t358.length : Int) := of_decide_eq_true asu
          obtain ⟨ad365, e365, hx365_0⟩ := Kd.at_int (Kd.R_reads' HO_7.out).2.2 x9_1 p365 q365
          cases e365
          replace p365 := eq_true p365
          replace q365 := eq_true q365
          have p19 : 0 ≤ ((rd t358 x9_1) : Int) := of_decide_eq_true asu
          have q19 : ((rd t358 x9_1) : Int) < ((x8_1.length : Int) : Int) := of_decide_eq_true asu
          obtain ⟨go19, co19, eo19, gb19, gl19, cl19, HG19⟩ := Kd.R_form HO_8.out (by omega)
          (first | cases eo19 | (injection eo19 with ea_ en_ ec_; (first | subst ea_ | (injection ea_ with ea_; subst ea_)); subst ec_; clear en_))
          have GB19 := zA gb19
          have GG19 := zA HG19
          clear gb19 gl19 HG19
          obtain ⟨hx19_0, hf19_0⟩ := Kd.R_celln 0 HO_8.out ((rd t358 x9_1) : Int) p19 q19
          replace p19 := eq_true p19
          replace q19 := eq_true q19
          have HP20 := Kd.R_putg HO_8.out ((rd t358 x9_1) : Int) 1
          go_wp2_with (first | ((with_reducible refine gate_store (t := 5) (p := 31) rfl ?_); refine store_event (t := 5) (p := 31) (v := ?vo_w21) (w1 := (wr.setCell ⟨go19, ((rd t358 x9_1) : Int).toNat, none⟩ (.int .u8 1))) ?hg ?ho ?hn ?hr ?_; (case ho => rfl); (case hg => rfl); (case hn => rfl); (case hr => first | (go_simp; done) | (go_simp; rfl)); intro w21 hw; have hg : wr.grownBy w21 (some go19) := (by rw [hw]; exact HP20.2); have hp_ : Kd.R (Kd.int .u8) 5 w21 w.heap.size (fun _ => True) (.slice (some ⟨go19, 0, none⟩) x8_1.length co19) y366 := (by rw [hw, Ny366.out]; exact HP20.1); clear HP20; replace HO_7 := zA (Kd.R_over' (v := (.slice (some ⟨go19, 0, none⟩) x8_1.length co19)) (R_g HO_7.out) (Kd.R_typed HO_8.out) (by decide) hg); replace HO_8 := zA (hp_); replace HB := zA ((by rw [hw]; exact below_set (HB.out) GB19.out : Below w.heap.size w w21)); clear hg hw hp_))
          go_roundg k1
          case measure => have := HK1.out; omega
          case rel => exact ⟨(y366), (wrap64 (x9_1 + 1)), frs, H', ⟨by have := HK1.out; omega⟩, ⟨rdR HO_7.out⟩, ⟨rdR HO_8.out⟩, ⟨bel⟩⟩
         ·rw [if_neg c18] at H
          exact absurd H (by simp)
        ·rw [if_neg c17] at H
         exact absurd H (by simp)
       ·rw [if_neg c16] at H
        exact absurd H (by simp)
      ·rw [if_neg c15] at H
       have c15b0 : decide (x9_1 < (t358.length : Int)) = false := decide_eq_false c15
       clear c15
       obtain rfl := Option.some.inj H
       go_wp2
       go_ret
       exact ⟨_, by first | rfl | (simp [errW_none, errW_some] <;> rfl) | (simp [*, errW_none, errW_some] <;> rfl), rdR HO_8.out, bel⟩
   ·rw [if_neg c10] at H
    exact absurd H (by simp)
  ·rw [if_neg c9] at H
   exact absurd H (by simp)
end Go.Proofs.Ytbfhinfblepidaa.PSeedTells
