/- Written by a program (this session's own): functions that the law reaches, as plain Lean functions, each with the proof that the code comes to it. No conditions but those that stand in the theorems. -/
import Derived.Test.YtbfhinfblepidaaPq
import Derived.Test.YtbfhinfblepidaaDz
import Derived.Test.YtbfhinfblepidaaPDecodeTellsx10
set_option maxHeartbeats 8000000
set_option maxRecDepth 100000
namespace Go.Proofs.Ytbfhinfblepidaa.PDecodeTwice
open Go.RowKit Go.Proofs.YtbfhinfblepidaaW.PrintWords Go.Proofs.YtbfhinfblepidaaW.PrintLast Go.Proofs.YtbfhinfblepidaaW.PrintMore Go.Proofs.Ytbfhinfblepidaa.PSolveTells Go.Proofs.Ytbfhinfblepidaa.PSeedTells Go.Proofs.Ytbfhinfblepidaa.PBlockTells Go.Proofs.Ytbfhinfblepidaa.PDecodeTells
attribute [local go_sem] max2_int min2_int max_two min_two max_three min_three max_four min_four
set_option linter.unusedVariables false
set_option linter.unusedSimpArgs false
mutual
noncomputable def fountainlaw11_DecodeTwice.j0 : Nat → List (List Int) → Int → List Int → Bool → Bool → Option (Bool)
 | 0, _, _, _, _, _ => none
 | k + 1, x0, x1, x2, x7, x58 => if x58 = true then (some x7) else (fountainlaw11_DecodeTwice.l0 k x0 x1 x2 ([] : List Int) 0)
noncomputable def fountainlaw11_DecodeTwice.l0 : Nat → List (List Int) → Int → List Int → List Int → Int → Option (Bool)
 | 0, _, _, _, _, _ => none
 | k + 1, x0, x1, x2, x8, x9 => if x9 < (x0.length : Int) then (if 0 ≤ x9 then (if ((rd_L1 x0 x9).length : Int) = (x2.length : Int) then (if x8.length < 17592186044416 then (fountainlaw11_DecodeTwice.l0 k x0 x1 x2 (x8 ++ [x9]) (wrap64 (x9 + 1))) else (none)) else (some true)) else (none)) else ((fountainref1_Seed.f k (x0.length : Int)).bind fun bt475 => (if bt475.2 = 0 then (if (x0.length : Int) = 0 then (none) else (if x8.length < 17592186044416 then (if ([] : List (List Int)).length + x0.length < 5864062014805 then ((some (([] : List (List Int)) ++ x0 : List (List Int))).bind fun y480 => (if y480.length < 5864062014805 then ((fountainlaw11_drops.f k (x8 ++ [Int.tmod x1 (x0.length : Int)]) (y480 ++ [x2])).bind fun t486 => ((Pd.dblock.f (x0.length : Int) (x2.length : Int) t486).bind fun bt489 => ((fountainlaw11_num.f bt489.2).bind fun t493 => (if t493 = 0 then ((fountainlaw2_From.f k bt489.1).bind fun t494 => ((fountainref1_SameRows.f k t494 x0).bind fun t497 => (some t497))) else (some false))))) else (none))) else (none)) else (none))) else (some true)))
end
noncomputable def fountainlaw11_DecodeTwice.f (k : Nat) (l0 : List (List Int)) (a1 : Int) (l2 : List Int) : Option (Bool) := (Pd.alive11.f).bind fun t466 => (if t466 = true then (if (l0.length : Int) < 1 then (fountainlaw11_DecodeTwice.j0 k l0 a1 l2 t466 true) else (if (l0.length : Int) > 8 then (fountainlaw11_DecodeTwice.j0 k l0 a1 l2 t466 true) else ((fountainlaw2_Few.f k l0).bind fun t467 => (if t467 = true then (if 0 < (l0.length : Int) then (if ((rd_L1 l0 0).length : Int) < 1 then (fountainlaw11_DecodeTwice.j0 k l0 a1 l2 t466 true) else (if ((rd_L1 l0 0).length : Int) > 64 then (fountainlaw11_DecodeTwice.j0 k l0 a1 l2 t466 true) else (if (l2.length : Int) = ((rd_L1 l0 0).length : Int) then (fountainlaw11_DecodeTwice.j0 k l0 a1 l2 t466 (decide (a1 < 0))) else (fountainlaw11_DecodeTwice.j0 k l0 a1 l2 t466 true)))) else (none)) else (fountainlaw11_DecodeTwice.j0 k l0 a1 l2 t466 true))))) else (fountainlaw11_DecodeTwice.j0 k l0 a1 l2 t466 true))
theorem fountainlaw11_DecodeTwice.calls (k : Nat) (P0_ : Nat → Prop) (A0 : Option Addr) (c0 : Nat) (l0 : List (List Int)) (a1 : Int) (P2_ : Nat → Prop) (A2 : Option Addr) (c2 : Nat) (l2 : List Int) (r : Bool) (w : World) (hs0 : Kd.V (Kd.slice 5 (Kd.int .u8)) 30 w w.heap.size (fun k_ => P0_ k_) (.slice A0 l0.length c0) l0) (hs2 : Kd.V (Kd.int .u8) 5 w w.heap.size (fun k_ => P2_ k_) (.slice A2 l2.length c2) l2) (h : fountainlaw11_DecodeTwice.f k l0 a1 l2 = some r) (hrt : r = true) :
 Calls Try.prog 17 #[.slice A0 l0.length c0, .int .i64 a1, .slice A2 l2.length c2] w fun e w' => e = .returned (.bool r) ∧ Below w.heap.size w w' := by
 have HRT := zA hrt
 clear hrt
 have HO0 := zA (show Kd.V (Kd.slice 5 (Kd.int .u8)) 30 w w.heap.size (fun k_ => ((P0_ k_ ∨ P2_ k_) ∨ w.heap.size ≤ k_)) (.slice A0 l0.length c0) l0 from Kd.V_mono hs0 (fun k_ hk => .inl (.inl hk)))
 have HO2 := zA (show Kd.V (Kd.int .u8) 5 w w.heap.size (fun k_ => ((P0_ k_ ∨ P2_ k_) ∨ w.heap.size ≤ k_)) (.slice A2 l2.length c2) l2 from Kd.V_mono hs2 (fun k_ hk => .inl (.inr hk)))
 have HB := zA (Below.refl w.heap.size w)
 have H : ((Pd.alive11.f).bind fun t466 => (if t466 = true then (if (l0.length : Int) < 1 then (fountainlaw11_DecodeTwice.j0 k l0 a1 l2 t466 true) else (if (l0.length : Int) > 8 then (fountainlaw11_DecodeTwice.j0 k l0 a1 l2 t466 true) else ((fountainlaw2_Few.f k l0).bind fun t467 => (if t467 = true then (if 0 < (l0.length : Int) then (if ((rd_L1 l0 0).length : Int) < 1 then (fountainlaw11_DecodeTwice.j0 k l0 a1 l2 t466 true) else (if ((rd_L1 l0 0).length : Int) > 64 then (fountainlaw11_DecodeTwice.j0 k l0 a1 l2 t466 true) else (if (l2.length : Int) = ((rd_L1 l0 0).length : Int) then (fountainlaw11_DecodeTwice.j0 k l0 a1 l2 t466 (decide (a1 < 0))) else (fountainlaw11_DecodeTwice.j0 k l0 a1 l2 t466 true)))) else (none)) else (fountainlaw11_DecodeTwice.j0 k l0 a1 l2 t466 true))))) else (fountainlaw11_DecodeTwice.j0 k l0 a1 l2 t466 true))) = some r := h
 clear h
 replace H := Option.bind_eq_some_iff.mp H
 obtain ⟨t466, A40, H⟩ := H
 try dsimp only at H
 have A4 := zA A40
 clear A40
 have HC5 := zA H
 clear H
 go_enter Try.func17, Try.ntmps17
 go_upto_region 2 with (first | ((with_reducible refine gate_callee (f := 54) rfl ?_); refine goesL_ (some 14) rfl rfl Try.func54 (by kernel_rfl) rfl #[] rfl agl ?_; (with_reducible refine (Pd.alive11.calls  t466 _ A4.out).mono ?_); rintro e w6 ⟨rfl, hb⟩; refine ⟨_, rfl, ?_⟩; replace HO0 := zA (Kd.V_below (V_g HO0.out) hb); replace HO2 := zA (Kd.V_below (V_g HO2.out) hb); replace HB := zA (belt hb)))
 (try simp only [Act.put, List.setIfInBounds_toArray, List.set_cons_zero, List.set_cons_succ])
 go_cut [58] (fun v58 wc => ∃ (kq : Nat) (x58_4 : Bool), v58 = .bool x58_4 ∧ Aside0 (fountainlaw11_DecodeTwice.j0 kq l0 a1 l2 t466 x58_4 = some r) ∧ Aside0 (kq ≤ k) ∧ Aside0 (Kd.V (Kd.slice 5 (Kd.int .u8)) 30 wc w.heap.size (fun k_ => ((P0_ k_ ∨ P2_ k_) ∨ w.heap.size ≤ k_)) (.slice A0 l0.length c0) l0) ∧ Aside0 (Kd.V (Kd.int .u8) 5 wc w.heap.size (fun k_ => ((P0_ k_ ∨ P2_ k_) ∨ w.heap.size ≤ k_)) (.slice A2 l2.length c2) l2) ∧ Aside0 (Below w.heap.size w wc))
 case first =>
  have H := HC5.out
  clear HC5
  by_cases c7 : t466 = true
  ·subst c7
   have H1 : (if (l0.length : Int) < 1 then (fountainlaw11_DecodeTwice.j0 k l0 a1 l2 true true) else (if (l0.length : Int) > 8 then (fountainlaw11_DecodeTwice.j0 k l0 a1 l2 true true) else ((fountainlaw2_Few.f k l0).bind fun t467 => (if t467 = true then (if 0 < (l0.length : Int) then (if ((rd_L1 l0 0).length : Int) < 1 then (fountainlaw11_DecodeTwice.j0 k l0 a1 l2 true true) else (if ((rd_L1 l0 0).length : Int) > 64 then (fountainlaw11_DecodeTwice.j0 k l0 a1 l2 true true) else (if (l2.length : Int) = ((rd_L1 l0 0).length : Int) then (fountainlaw11_DecodeTwice.j0 k l0 a1 l2 true (decide (a1 < 0))) else (fountainlaw11_DecodeTwice.j0 k l0 a1 l2 true true)))) else (none)) else (fountainlaw11_DecodeTwice.j0 k l0 a1 l2 true true))))) = some r := by rw [if_pos rfl] at H; exact H
   clear H
   have H := H1
   clear H1
   by_cases c8 : (l0.length : Int) < 1
   ·rw [if_pos c8] at H
    have c8b0 : decide ((l0.length : Int) < 1) = true := decide_eq_true c8
    have c8b1 : decide (l0.length < 1) = true := decide_eq_true (by omega)
    clear c8
    (first | rw [c8b0] | (simp only [i64_w, i32_w]; rw [c8b0]) | skip)
    have H' := zA H
    clear H
    go_wp2
    go_meet
    case rel => exact ⟨_, (true), frs, H', ⟨by first | omega | exact Nat.le_refl _⟩, ⟨rdV HO0.out⟩, ⟨rdV HO2.out⟩, ⟨bel⟩⟩
   ·rw [if_neg c8] at H
    have c8b0 : decide ((l0.length : Int) < 1) = false := decide_eq_false c8
    have c8b1 : decide (l0.length < 1) = false := decide_eq_false (by omega)
    clear c8
    (first | rw [c8b0] | (simp only [i64_w, i32_w]; rw [c8b0]) | skip)
    by_cases c9 : (l0.length : Int) > 8
    ·rw [if_pos c9] at H
     have c9b0 : decide (8 < (l0.length : Int)) = true := decide_eq_true c9
     have c9b1 : decide (8 < l0.length) = true := decide_eq_true (by omega)
     clear c9
     have H' := zA H
     clear H
     go_wp2
     go_meet
     case rel => exact ⟨_, (true), frs, H', ⟨by first | omega | exact Nat.le_refl _⟩, ⟨rdV HO0.out⟩, ⟨rdV HO2.out⟩, ⟨bel⟩⟩
    ·rw [if_neg c9] at H
     have c9b0 : decide (8 < (l0.length : Int)) = false := decide_eq_false c9
     have c9b1 : decide (8 < l0.length) = false := decide_eq_false (by omega)
     clear c9
     replace H := Option.bind_eq_some_iff.mp H
     obtain ⟨t467, A100, H⟩ := H
     try dsimp only at H
     have A10 := zA A100
     clear A100
     by_cases c11 : t467 = true
     ·subst c11
      have H1 : (if 0 < (l0.length : Int) then (if ((rd_L1 l0 0).length : Int) < 1 then (fountainlaw11_DecodeTwice.j0 k l0 a1 l2 true true) else (if ((rd_L1 l0 0).length : Int) > 64 then (fountainlaw11_DecodeTwice.j0 k l0 a1 l2 true true) else (if (l2.length : Int) = ((rd_L1 l0 0).length : Int) then (fountainlaw11_DecodeTwice.j0 k l0 a1 l2 true (decide (a1 < 0))) else (fountainlaw11_DecodeTwice.j0 k l0 a1 l2 true true)))) else (none)) = some r := by rw [if_pos rfl] at H; exact H
      clear H
      have H := H1
      clear H1
      by_cases c12 : 0 < (l0.length : Int)
      ·rw [if_pos c12] at H
       have c12b0 : decide (0 < (l0.length : Int)) = true := decide_eq_true c12
       have c12b1 : decide (0 < l0.length) = true := decide_eq_true (by omega)
       clear c12
       by_cases c13 : ((rd_L1 l0 0).length : Int) < 1
       ·rw [if_pos c13] at H
        have c13b0 : decide (((rd_L1 l0 0).length : Int) < 1) = true := decide_eq_true c13
        have c13b1 : decide ((rd_L1 l0 0).length < 1) = true := decide_eq_true (by omega)
        clear c13
        have H' := zA H
        clear H
        go_wp2_with (first | (go_at_call 25; (with_reducible refine (fountainlaw2_Few.calls k _ _ l0 true _ ?side1 ?side2 A10.out).mono ?_); (case side1 => repeat (first | exact (Kd.V_reads' HO0.out).2.2 | (with_reducible refine Kd.C_alloc ?_ _) | (with_reducible refine Kd.C_drewN ?_ _) | (with_reducible refine Kd.C_drew ?_))); (case side2 => exact (Kd.V_reads' HO0.out).2.1); rintro e w' ⟨rfl, ⟨nd, rfl⟩⟩; have p468 : 0 ≤ (0 : Int) := (by omega); have q468 : 0 < (l0.length : Int) := of_decide_eq_true asu; obtain ⟨ad468, A468_0, c468_0, e468, hx468_0, hl468_0, hi468_0⟩ := at_L1 (Kd.V_reads' HO0.out).2.2 0 p468 q468; cases e468; obtain ⟨ce468, hce468, hMe468, hcc468⟩ := Kd.V_get HO0.out [] 0 p468 (by first | exact q468 | exact of_decide_eq_true asu | (have e_ := (Kd.V_reads' HO0.out).1; omega)); obtain ⟨ua468_0, uc468_0, rfl, ul468_0, ge468_0⟩ := Kd.FK_slice_open hMe468; have hv468_0 := hcc468 0 _ rfl; rw [Nat.add_zero, show ((Kd.slice 5 (Kd.int .u8))).sz = 1 from rfl, Nat.mul_one] at hv468_0; replace hv468_0 := Option.some.inj (hv468_0.symm.trans hx468_0); injection hv468_0 with hva_ hvn_ hvc_; rw [hva_] at ge468_0; rw [hvc_] at ul468_0; have HL468_0 := zA (show Kd.V (Kd.int .u8) 5 _ w.heap.size _ _ (rd_L1 l0 0) from Kd.V_mk ul468_0 ge468_0); clear hva_ hvn_ hvc_ ge468_0 ul468_0; clear hcc468 hce468; have qi468 : (0 < l0.length) = True := eq_true (by omega); (try rw [show ((0 : Int)).toNat = 0 from rfl] at hx468_0); (try rw [Addr.add_zero'] at hx468_0); have HR468_0 := zA hi468_0; have HC468_0 := zA hl468_0; clear hi468_0 hl468_0; replace p468 := eq_true p468; replace q468 := eq_true q468))
        go_meet
        case rel => exact ⟨_, (true), frs, H', ⟨by first | omega | exact Nat.le_refl _⟩, ⟨rdV HO0.out⟩, ⟨rdV HO2.out⟩, ⟨bel⟩⟩
       ·rw [if_neg c13] at H
        have c13b0 : decide (((rd_L1 l0 0).length : Int) < 1) = false := decide_eq_false c13
        have c13b1 : decide ((rd_L1 l0 0).length < 1) = false := decide_eq_false (by omega)
        clear c13
        by_cases c14 : ((rd_L1 l0 0).length : Int) > 64
        ·rw [if_pos c14] at H
         have c14b0 : decide (64 < ((rd_L1 l0 0).length : Int)) = true := decide_eq_true c14
         have c14b1 : decide (64 < (rd_L1 l0 0).length) = true := decide_eq_true (by omega)
         clear c14
         have H' := zA H
         clear H
         go_wp2_with (first | (go_at_call 25; (with_reducible refine (fountainlaw2_Few.calls k _ _ l0 true _ ?side1 ?side2 A10.out).mono ?_); (case side1 => repeat (first | exact (Kd.V_reads' HO0.out).2.2 | (with_reducible refine Kd.C_alloc ?_ _) | (with_reducible refine Kd.C_drewN ?_ _) | (with_reducible refine Kd.C_drew ?_))); (case side2 => exact (Kd.V_reads' HO0.out).2.1); rintro e w' ⟨rfl, ⟨nd, rfl⟩⟩; have p468 : 0 ≤ (0 : Int) := (by omega); have q468 : 0 < (l0.length : Int) := of_decide_eq_true asu; obtain ⟨ad468, A468_0, c468_0, e468, hx468_0, hl468_0, hi468_0⟩ := at_L1 (Kd.V_reads' HO0.out).2.2 0 p468 q468; cases e468; obtain ⟨ce468, hce468, hMe468, hcc468⟩ := Kd.V_get HO0.out [] 0 p468 (by first | exact q468 | exact of_decide_eq_true asu | (have e_ := (Kd.V_reads' HO0.out).1; omega)); obtain ⟨ua468_0, uc468_0, rfl, ul468_0, ge468_0⟩ := Kd.FK_slice_open hMe468; have hv468_0 := hcc468 0 _ rfl; rw [Nat.add_zero, show ((Kd.slice 5 (Kd.int .u8))).sz = 1 from rfl, Nat.mul_one] at hv468_0; replace hv468_0 := Option.some.inj (hv468_0.symm.trans hx468_0); injection hv468_0 with hva_ hvn_ hvc_; rw [hva_] at ge468_0; rw [hvc_] at ul468_0; have HL468_0 := zA (show Kd.V (Kd.int .u8) 5 _ w.heap.size _ _ (rd_L1 l0 0) from Kd.V_mk ul468_0 ge468_0); clear hva_ hvn_ hvc_ ge468_0 ul468_0; clear hcc468 hce468; have qi468 : (0 < l0.length) = True := eq_true (by omega); (try rw [show ((0 : Int)).toNat = 0 from rfl] at hx468_0); (try rw [Addr.add_zero'] at hx468_0); have HR468_0 := zA hi468_0; have HC468_0 := zA hl468_0; clear hi468_0 hl468_0; replace p468 := eq_true p468; replace q468 := eq_true q468; have p469 : 0 ≤ (0 : Int) := (by omega); have q469 : 0 < (l0.length : Int) := of_decide_eq_true asu; obtain ⟨ad469, A469_0, c469_0, e469, hx469_0, hl469_0, hi469_0⟩ := at_L1 (Kd.V_reads' HO0.out).2.2 0 p469 q469; obtain rfl : ad468 = ad469 := (by injection e469); obtain ⟨ce469, hce469, hMe469, hcc469⟩ := Kd.V_get HO0.out [] 0 p469 (by first | exact q469 | exact of_decide_eq_true asu | (have e_ := (Kd.V_reads' HO0.out).1; omega)); obtain ⟨ua469_0, uc469_0, rfl, ul469_0, ge469_0⟩ := Kd.FK_slice_open hMe469; have hv469_0 := hcc469 0 _ rfl; rw [Nat.add_zero, show ((Kd.slice 5 (Kd.int .u8))).sz = 1 from rfl, Nat.mul_one] at hv469_0; replace hv469_0 := Option.some.inj (hv469_0.symm.trans hx469_0); injection hv469_0 with hva_ hvn_ hvc_; rw [hva_] at ge469_0; rw [hvc_] at ul469_0; have HL469_0 := zA (show Kd.V (Kd.int .u8) 5 _ w.heap.size _ _ (rd_L1 l0 0) from Kd.V_mk ul469_0 ge469_0); clear hva_ hvn_ hvc_ ge469_0 ul469_0; clear hcc469 hce469; have qi469 : (0 < l0.length) = True := eq_true (by omega); (try rw [show ((0 : Int)).toNat = 0 from rfl] at hx469_0); (try rw [Addr.add_zero'] at hx469_0); have HR469_0 := zA hi469_0; have HC469_0 := zA hl469_0; clear hi469_0 hl469_0; replace p469 := eq_true p469; replace q469 := eq_true q469; have ea_ := Option.some.inj (hx468_0.symm.trans hx469_0); injection ea_ with ea_ en_ ec_; subst ea_; subst ec_; clear en_))
         go_meet
         case rel => exact ⟨_, (true), frs, H', ⟨by first | omega | exact Nat.le_refl _⟩, ⟨rdV HO0.out⟩, ⟨rdV HO2.out⟩, ⟨bel⟩⟩
        ·rw [if_neg c14] at H
         have c14b0 : decide (64 < ((rd_L1 l0 0).length : Int)) = false := decide_eq_false c14
         have c14b1 : decide (64 < (rd_L1 l0 0).length) = false := decide_eq_false (by omega)
         clear c14
         by_cases c15 : (l2.length : Int) = ((rd_L1 l0 0).length : Int)
         ·rw [if_pos c15] at H
          have c15b0 : ((l2.length : Int) == ((rd_L1 l0 0).length : Int)) = true := beq_iff_eq.mpr c15
          have c15b1 : ((l2.length : Int) != ((rd_L1 l0 0).length : Int)) = false := bne_eq_false_iff_eq.mpr c15
          have c15b2 : (l2.length == (rd_L1 l0 0).length) = true := by first | simpa using c15 | (simp at c15 ⊢; omega)
          clear c15
          have H' := zA H
          clear H
          go_wp2_with (first | (go_at_call 25; (with_reducible refine (fountainlaw2_Few.calls k _ _ l0 true _ ?side1 ?side2 A10.out).mono ?_); (case side1 => repeat (first | exact (Kd.V_reads' HO0.out).2.2 | (with_reducible refine Kd.C_alloc ?_ _) | (with_reducible refine Kd.C_drewN ?_ _) | (with_reducible refine Kd.C_drew ?_))); (case side2 => exact (Kd.V_reads' HO0.out).2.1); rintro e w' ⟨rfl, ⟨nd, rfl⟩⟩; have p468 : 0 ≤ (0 : Int) := (by omega); have q468 : 0 < (l0.length : Int) := of_decide_eq_true asu; obtain ⟨ad468, A468_0, c468_0, e468, hx468_0, hl468_0, hi468_0⟩ := at_L1 (Kd.V_reads' HO0.out).2.2 0 p468 q468; cases e468; obtain ⟨ce468, hce468, hMe468, hcc468⟩ := Kd.V_get HO0.out [] 0 p468 (by first | exact q468 | exact of_decide_eq_true asu | (have e_ := (Kd.V_reads' HO0.out).1; omega)); obtain ⟨ua468_0, uc468_0, rfl, ul468_0, ge468_0⟩ := Kd.FK_slice_open hMe468; have hv468_0 := hcc468 0 _ rfl; rw [Nat.add_zero, show ((Kd.slice 5 (Kd.int .u8))).sz = 1 from rfl, Nat.mul_one] at hv468_0; replace hv468_0 := Option.some.inj (hv468_0.symm.trans hx468_0); injection hv468_0 with hva_ hvn_ hvc_; rw [hva_] at ge468_0; rw [hvc_] at ul468_0; have HL468_0 := zA (show Kd.V (Kd.int .u8) 5 _ w.heap.size _ _ (rd_L1 l0 0) from Kd.V_mk ul468_0 ge468_0); clear hva_ hvn_ hvc_ ge468_0 ul468_0; clear hcc468 hce468; have qi468 : (0 < l0.length) = True := eq_true (by omega); (try rw [show ((0 : Int)).toNat = 0 from rfl] at hx468_0); (try rw [Addr.add_zero'] at hx468_0); have HR468_0 := zA hi468_0; have HC468_0 := zA hl468_0; clear hi468_0 hl468_0; replace p468 := eq_true p468; replace q468 := eq_true q468; have p469 : 0 ≤ (0 : Int) := (by omega); have q469 : 0 < (l0.length : Int) := of_decide_eq_true asu; obtain ⟨ad469, A469_0, c469_0, e469, hx469_0, hl469_0, hi469_0⟩ := at_L1 (Kd.V_reads' HO0.out).2.2 0 p469 q469; obtain rfl : ad468 = ad469 := (by injection e469); obtain ⟨ce469, hce469, hMe469, hcc469⟩ := Kd.V_get HO0.out [] 0 p469 (by first | exact q469 | exact of_decide_eq_true asu | (have e_ := (Kd.V_reads' HO0.out).1; omega)); obtain ⟨ua469_0, uc469_0, rfl, ul469_0, ge469_0⟩ := Kd.FK_slice_open hMe469; have hv469_0 := hcc469 0 _ rfl; rw [Nat.add_zero, show ((Kd.slice 5 (Kd.int .u8))).sz = 1 from rfl, Nat.mul_one] at hv469_0; replace hv469_0 := Option.some.inj (hv469_0.symm.trans hx469_0); injection hv469_0 with hva_ hvn_ hvc_; rw [hva_] at ge469_0; rw [hvc_] at ul469_0; have HL469_0 := zA (show Kd.V (Kd.int .u8) 5 _ w.heap.size _ _ (rd_L1 l0 0) from Kd.V_mk ul469_0 ge469_0); clear hva_ hvn_ hvc_ ge469_0 ul469_0; clear hcc469 hce469; have qi469 : (0 < l0.length) = True := eq_true (by omega); (try rw [show ((0 : Int)).toNat = 0 from rfl] at hx469_0); (try rw [Addr.add_zero'] at hx469_0); have HR469_0 := zA hi469_0; have HC469_0 := zA hl469_0; clear hi469_0 hl469_0; replace p469 := eq_true p469; replace q469 := eq_true q469; have ea_ := Option.some.inj (hx468_0.symm.trans hx469_0); injection ea_ with ea_ en_ ec_; subst ea_; subst ec_; clear en_; have p470 : 0 ≤ (0 : Int) := (by omega); have q470 : 0 < (l0.length : Int) := of_decide_eq_true asu; obtain ⟨ad470, A470_0, c470_0, e470, hx470_0, hl470_0, hi470_0⟩ := at_L1 (Kd.V_reads' HO0.out).2.2 0 p470 q470; obtain rfl : ad468 = ad470 := (by injection e470); obtain ⟨ce470, hce470, hMe470, hcc470⟩ := Kd.V_get HO0.out [] 0 p470 (by first | exact q470 | exact of_decide_eq_true asu | (have e_ := (Kd.V_reads' HO0.out).1; omega)); obtain ⟨ua470_0, uc470_0, rfl, ul470_0, ge470_0⟩ := Kd.FK_slice_open hMe470; have hv470_0 := hcc470 0 _ rfl; rw [Nat.add_zero, show ((Kd.slice 5 (Kd.int .u8))).sz = 1 from rfl, Nat.mul_one] at hv470_0; replace hv470_0 := Option.some.inj (hv470_0.symm.trans hx470_0); injection hv470_0 with hva_ hvn_ hvc_; rw [hva_] at ge470_0; rw [hvc_] at ul470_0; have HL470_0 := zA (show Kd.V (Kd.int .u8) 5 _ w.heap.size _ _ (rd_L1 l0 0) from Kd.V_mk ul470_0 ge470_0); clear hva_ hvn_ hvc_ ge470_0 ul470_0; clear hcc470 hce470; have qi470 : (0 < l0.length) = True := eq_true (by omega); (try rw [show ((0 : Int)).toNat = 0 from rfl] at hx470_0); (try rw [Addr.add_zero'] at hx470_0); have HR470_0 := zA hi470_0; have HC470_0 := zA hl470_0; clear hi470_0 hl470_0; replace p470 := eq_true p470; replace q470 := eq_true q470; have ea_ := Option.some.inj (hx468_0.symm.trans hx470_0); injection ea_ with ea_ en_ ec_; subst ea_; subst ec_; clear en_))
          go_meet
          case rel => exact ⟨_, (decide (a1 < 0)), frs, H', ⟨by first | omega | exact Nat.le_refl _⟩, ⟨rdV HO0.out⟩, ⟨rdV HO2.out⟩, ⟨bel⟩⟩
         ·rw [if_neg c15] at H
          have c15b0 : ((l2.length : Int) == ((rd_L1 l0 0).length : Int)) = false := beq_eq_false_iff_ne.mpr c15
          have c15b1 : ((l2.length : Int) != ((rd_L1 l0 0).length : Int)) = true := bne_iff_ne.mpr c15
          have c15b2 : (l2.length == (rd_L1 l0 0).length) = false := by first | simpa using c15 | (simp at c15 ⊢; omega)
          have H' := zA H
          clear H
          go_wp2_with (first | (go_at_call 25; (with_reducible refine (fountainlaw2_Few.calls k _ _ l0 true _ ?side1 ?side2 A10.out).mono ?_); (case side1 => repeat (first | exact (Kd.V_reads' HO0.out).2.2 | (with_reducible refine Kd.C_alloc ?_ _) | (with_reducible refine Kd.C_drewN ?_ _) | (with_reducible refine Kd.C_drew ?_))); (case side2 => exact (Kd.V_reads' HO0.out).2.1); rintro e w' ⟨rfl, ⟨nd, rfl⟩⟩; have p468 : 0 ≤ (0 : Int) := (by omega); have q468 : 0 < (l0.length : Int) := of_decide_eq_true asu; obtain ⟨ad468, A468_0, c468_0, e468, hx468_0, hl468_0, hi468_0⟩ := at_L1 (Kd.V_reads' HO0.out).2.2 0 p468 q468; cases e468; obtain ⟨ce468, hce468, hMe468, hcc468⟩ := Kd.V_get HO0.out [] 0 p468 (by first | exact q468 | exact of_decide_eq_true asu | (have e_ := (Kd.V_reads' HO0.out).1; omega)); obtain ⟨ua468_0, uc468_0, rfl, ul468_0, ge468_0⟩ := Kd.FK_slice_open hMe468; have hv468_0 := hcc468 0 _ rfl; rw [Nat.add_zero, show ((Kd.slice 5 (Kd.int .u8))).sz = 1 from rfl, Nat.mul_one] at hv468_0; replace hv468_0 := Option.some.inj (hv468_0.symm.trans hx468_0); injection hv468_0 with hva_ hvn_ hvc_; rw [hva_] at ge468_0; rw [hvc_] at ul468_0; have HL468_0 := zA (show Kd.V (Kd.int .u8) 5 _ w.heap.size _ _ (rd_L1 l0 0) from Kd.V_mk ul468_0 ge468_0); clear hva_ hvn_ hvc_ ge468_0 ul468_0; clear hcc468 hce468; have qi468 : (0 < l0.length) = True := eq_true (by omega); (try rw [show ((0 : Int)).toNat = 0 from rfl] at hx468_0); (try rw [Addr.add_zero'] at hx468_0); have HR468_0 := zA hi468_0; have HC468_0 := zA hl468_0; clear hi468_0 hl468_0; replace p468 := eq_true p468; replace q468 := eq_true q468; have p469 : 0 ≤ (0 : Int) := (by omega); have q469 : 0 < (l0.length : Int) := of_decide_eq_true asu; obtain ⟨ad469, A469_0, c469_0, e469, hx469_0, hl469_0, hi469_0⟩ := at_L1 (Kd.V_reads' HO0.out).2.2 0 p469 q469; obtain rfl : ad468 = ad469 := (by injection e469); obtain ⟨ce469, hce469, hMe469, hcc469⟩ := Kd.V_get HO0.out [] 0 p469 (by first | exact q469 | exact of_decide_eq_true asu | (have e_ := (Kd.V_reads' HO0.out).1; omega)); obtain ⟨ua469_0, uc469_0, rfl, ul469_0, ge469_0⟩ := Kd.FK_slice_open hMe469; have hv469_0 := hcc469 0 _ rfl; rw [Nat.add_zero, show ((Kd.slice 5 (Kd.int .u8))).sz = 1 from rfl, Nat.mul_one] at hv469_0; replace hv469_0 := Option.some.inj (hv469_0.symm.trans hx469_0); injection hv469_0 with hva_ hvn_ hvc_; rw [hva_] at ge469_0; rw [hvc_] at ul469_0; have HL469_0 := zA (show Kd.V (Kd.int .u8) 5 _ w.heap.size _ _ (rd_L1 l0 0) from Kd.V_mk ul469_0 ge469_0); clear hva_ hvn_ hvc_ ge469_0 ul469_0; clear hcc469 hce469; have qi469 : (0 < l0.length) = True := eq_true (by omega); (try rw [show ((0 : Int)).toNat = 0 from rfl] at hx469_0); (try rw [Addr.add_zero'] at hx469_0); have HR469_0 := zA hi469_0; have HC469_0 := zA hl469_0; clear hi469_0 hl469_0; replace p469 := eq_true p469; replace q469 := eq_true q469; have ea_ := Option.some.inj (hx468_0.symm.trans hx469_0); injection ea_ with ea_ en_ ec_; subst ea_; subst ec_; clear en_; have p470 : 0 ≤ (0 : Int) := (by omega); have q470 : 0 < (l0.length : Int) := of_decide_eq_true asu; obtain ⟨ad470, A470_0, c470_0, e470, hx470_0, hl470_0, hi470_0⟩ := at_L1 (Kd.V_reads' HO0.out).2.2 0 p470 q470; obtain rfl : ad468 = ad470 := (by injection e470); obtain ⟨ce470, hce470, hMe470, hcc470⟩ := Kd.V_get HO0.out [] 0 p470 (by first | exact q470 | exact of_decide_eq_true asu | (have e_ := (Kd.V_reads' HO0.out).1; omega)); obtain ⟨ua470_0, uc470_0, rfl, ul470_0, ge470_0⟩ := Kd.FK_slice_open hMe470; have hv470_0 := hcc470 0 _ rfl; rw [Nat.add_zero, show ((Kd.slice 5 (Kd.int .u8))).sz = 1 from rfl, Nat.mul_one] at hv470_0; replace hv470_0 := Option.some.inj (hv470_0.symm.trans hx470_0); injection hv470_0 with hva_ hvn_ hvc_; rw [hva_] at ge470_0; rw [hvc_] at ul470_0; have HL470_0 := zA (show Kd.V (Kd.int .u8) 5 _ w.heap.size _ _ (rd_L1 l0 0) from Kd.V_mk ul470_0 ge470_0); clear hva_ hvn_ hvc_ ge470_0 ul470_0; clear hcc470 hce470; have qi470 : (0 < l0.length) = True := eq_true (by omega); (try rw [show ((0 : Int)).toNat = 0 from rfl] at hx470_0); (try rw [Addr.add_zero'] at hx470_0); have HR470_0 := zA hi470_0; have HC470_0 := zA hl470_0; clear hi470_0 hl470_0; replace p470 := eq_true p470; replace q470 := eq_true q470; have ea_ := Option.some.inj (hx468_0.symm.trans hx470_0); injection ea_ with ea_ en_ ec_; subst ea_; subst ec_; clear en_))
          go_meet
          case rel => exact ⟨_, (true), frs, H', ⟨by first | omega | exact Nat.le_refl _⟩, ⟨rdV HO0.out⟩, ⟨rdV HO2.out⟩, ⟨bel⟩⟩
      ·rw [if_neg c12] at H
       exact absurd H (by simp)
     ·replace c11 := Bool.eq_false_iff.mpr c11
      subst c11
      have H1 : (fountainlaw11_DecodeTwice.j0 k l0 a1 l2 true true) = some r := by rw [if_neg (show ¬ (false = true) by decide)] at H; exact H
      clear H
      have H := H1
      clear H1
      have H' := zA H
      clear H
      go_wp2_with (first | (go_at_call 25; (with_reducible refine (fountainlaw2_Few.calls k _ _ l0 false _ ?side1 ?side2 A10.out).mono ?_); (case side1 => repeat (first | exact (Kd.V_reads' HO0.out).2.2 | (with_reducible refine Kd.C_alloc ?_ _) | (with_reducible refine Kd.C_drewN ?_ _) | (with_reducible refine Kd.C_drew ?_))); (case side2 => exact (Kd.V_reads' HO0.out).2.1); rintro e w' ⟨rfl, ⟨nd, rfl⟩⟩))
      go_meet
      case rel => exact ⟨_, (true), frs, H', ⟨by first | omega | exact Nat.le_refl _⟩, ⟨rdV HO0.out⟩, ⟨rdV HO2.out⟩, ⟨bel⟩⟩
  ·replace c7 := Bool.eq_false_iff.mpr c7
   subst c7
   have H1 : (fountainlaw11_DecodeTwice.j0 k l0 a1 l2 false true) = some r := by rw [if_neg (show ¬ (false = true) by decide)] at H; exact H
   clear H
   have H := H1
   clear H1
   have H' := zA H
   clear H
   go_wp2
   go_meet
   case rel => exact ⟨_, (true), frs, H', ⟨by first | omega | exact Nat.le_refl _⟩, ⟨rdV HO0.out⟩, ⟨rdV HO2.out⟩, ⟨bel⟩⟩
 case rest =>
  clear HC5
  obtain ⟨kq, x58_4, rfl, HA, HJ4, HO_0, HO_2, HB⟩ := hcut
  cases kq with
  | zero => exact absurd HA.out (by simp [fountainlaw11_DecodeTwice.j0])
  | succ kj4 =>
   have H := HA.out
   clear HA
   simp only [fountainlaw11_DecodeTwice.j0] at H
   by_cases c16 : x58_4 = true
   ·subst c16
    have H1 : (some t466) = some r := by rw [if_pos rfl] at H; exact H
    clear H
    have H := H1
    clear H1
    obtain rfl := Option.some.inj H
    go_wp2
    go_ret
    exact ⟨by first | rfl | (simp [errW_none, errW_some] <;> rfl) | (simp [*, errW_none, errW_some] <;> rfl), bel⟩
   ·replace c16 := Bool.eq_false_iff.mpr c16
    subst c16
    have H1 : (fountainlaw11_DecodeTwice.l0 kj4 l0 a1 l2 ([] : List Int) 0) = some r := by rw [if_neg (show ¬ (false = true) by decide)] at H; exact H
    clear H
    have H := H1
    clear H1
    have H' := zA H
    clear H
    go_wp2
    go_loopg [8, 9] kj4 (fun kq v8 v9 w' => ∃ (x8_2 : List Int) (x9_2 : Int), v9 = .int .i64 x9_2 ∧ Aside0 (fountainlaw11_DecodeTwice.l0 kq l0 a1 l2 x8_2 x9_2 = some r) ∧ Aside0 (kq ≤ kj4) ∧ Aside0 (Kd.V (Kd.slice 5 (Kd.int .u8)) 30 w' w.heap.size (fun k_ => ((P0_ k_ ∨ P2_ k_) ∨ w.heap.size ≤ k_) ∧ some k_ ≠ (v8 : Value).ownBlock) (.slice A0 l0.length c0) l0) ∧ Aside0 (Kd.V (Kd.int .u8) 5 w' w.heap.size (fun k_ => ((P0_ k_ ∨ P2_ k_) ∨ w.heap.size ≤ k_) ∧ some k_ ≠ (v8 : Value).ownBlock) (.slice A2 l2.length c2) l2) ∧ Aside0 (Kd.R (Kd.int .i64) 3 w' w.heap.size (fun k_ => (w.heap.size ≤ k_)) v8 x8_2) ∧ Aside0 (Below w.heap.size w w'))
    case atStart => exact ⟨(([] : List Int)), (0), frs, H', ⟨Nat.le_refl _⟩, ⟨by (with_reducible repeat (first | apply Kd.V_alloc | apply Kd.V_drewN | apply Kd.V_drew)); exact Kd.V_mono HO_0.out (fun _ hk => ⟨hk, (by simp [Value.ownBlock])⟩)⟩, ⟨by (with_reducible repeat (first | apply Kd.V_alloc | apply Kd.V_drewN | apply Kd.V_drew)); exact Kd.V_mono HO_2.out (fun _ hk => ⟨hk, (by simp [Value.ownBlock])⟩)⟩, ⟨by first | exact Kd.R_nil _ _ _ _ _ | exact Kd.N_nil _ _ _ _ _ | exact Kd.V_nil _ _ _ _ _ | exact Kd.Q_nil _ _ _ _ _ | exact Kd.S_nil _ _ _ _ _⟩, ⟨bel⟩⟩
    case round =>
     clear H'
     obtain ⟨x8_2, x9_2, rfl, HA, HK2, HO_0, HO_2, HO_8, HB⟩ := hrel
     cases gk with
     | zero => exact absurd HA.out (by simp [fountainlaw11_DecodeTwice.l0])
     | succ k2 =>
      have H := HA.out
      clear HA
      simp only [fountainlaw11_DecodeTwice.l0] at H
      by_cases c17 : x9_2 < (l0.length : Int)
      ·rw [if_pos c17] at H
       have c17b0 : decide (x9_2 < (l0.length : Int)) = true := decide_eq_true c17
       clear c17
       by_cases c18 : 0 ≤ x9_2
       ·rw [if_pos c18] at H
        have c18b0 : decide (0 ≤ x9_2) = true := decide_eq_true c18
        clear c18
        by_cases c19 : ((rd_L1 l0 x9_2).length : Int) = (l2.length : Int)
        ·rw [if_pos c19] at H
         have c19b0 : (((rd_L1 l0 x9_2).length : Int) == (l2.length : Int)) = true := beq_iff_eq.mpr c19
         have c19b1 : (((rd_L1 l0 x9_2).length : Int) != (l2.length : Int)) = false := bne_eq_false_iff_eq.mpr c19
         have c19b2 : ((rd_L1 l0 x9_2).length == l2.length) = true := by first | simpa using c19 | (simp at c19 ⊢; omega)
         clear c19
         by_cases c20 : x8_2.length < 17592186044416
         ·rw [if_pos c20] at H
          have LMc20 := zA c20
          clear c20
          obtain ⟨y472, hy472⟩ : ∃ y_ : List Int, y_ = (x8_2 ++ [x9_2]) := ⟨_, rfl⟩
          replace H : (fountainlaw11_DecodeTwice.l0 k2 l0 a1 l2 y472 (wrap64 (x9_2 + 1))) = some r := zC H hy472
          have Ny472 := zA hy472
          clear hy472
          have H' := zA H
          clear H
          have p471 : 0 ≤ (x9_2 : Int) := of_decide_eq_true asu
          have q471 : x9_2 < (l0.length : Int) := of_decide_eq_true asu
          obtain ⟨ad471, A471_0, c471_0, e471, hx471_0, hl471_0, hi471_0⟩ := at_L1 (Kd.V_reads' HO_0.out).2.2 x9_2 p471 q471
          cases e471
          obtain ⟨ce471, hce471, hMe471, hcc471⟩ := Kd.V_get HO_0.out [] x9_2 p471 (by first | exact q471 | exact of_decide_eq_true asu | (have e_ := (Kd.V_reads' HO_0.out).1; omega))
          obtain ⟨ua471_0, uc471_0, rfl, ul471_0, ge471_0⟩ := Kd.FK_slice_open hMe471
          have hv471_0 := hcc471 0 _ rfl
          rw [Nat.add_zero, show ((Kd.slice 5 (Kd.int .u8))).sz = 1 from rfl, Nat.mul_one] at hv471_0
          replace hv471_0 := Option.some.inj (hv471_0.symm.trans hx471_0)
          injection hv471_0 with hva_ hvn_ hvc_
          rw [hva_] at ge471_0
          rw [hvc_] at ul471_0
          have HL471_0 := zA (show Kd.V (Kd.int .u8) 5 _ w.heap.size _ _ (rd_L1 l0 x9_2) from Kd.V_mk ul471_0 ge471_0)
          clear hva_ hvn_ hvc_ ge471_0 ul471_0
          clear hcc471 hce471
          have HR471_0 := zA hi471_0
          have HC471_0 := zA hl471_0
          clear hi471_0 hl471_0
          replace p471 := eq_true p471
          replace q471 := eq_true q471
          go_wp2_with (first | ((with_reducible refine gate_builtin (b := .append) (xs := #[.tmp 74, .tmp 76]) rfl ?_); (try (refine gate_guard (by rfl) ?_; dsimp only)); at_builtin; refine Kd.R_append (Kd.int .i64) (w0 := w) w.heap.size rfl (.tmp 74) (.tmp 76) 51 3 (.int .i64 0) 8 rfl Try.underlying51 info3 rfl (by decide) (by omega) u8 x8_2 x9_2 [.int .i64 x9_2] (fun k_ => (w.heap.size ≤ k_)) (fun _ => False) rfl rfl ?aP (fun _ hk => hk.elim) ?aF ?aO ?aB ?aS ?aL ?_; (case aP => exact rfl); (case aB => exact bel); (case aF => exact (fun k_ hk => (Nat.le_trans bels hk))); (case aO => exact (R_g HO_8.out)); (case aS => exact bels); (case aL => have := LMc20.out; omega); intro v473 w21 ho hb hg hat; rw [← Ny472.out] at ho; replace HO_0 := zA (Kd.V_afterv (ok := (fun k_ => ((P0_ k_ ∨ P2_ k_) ∨ w.heap.size ≤ k_))) (by (with_reducible repeat (first | apply Kd.V_alloc | apply Kd.V_drewN | apply Kd.V_drew)); first | exact HO_0.out | exact Kd.S_mono HO_0.out (fun _ hk => ⟨trivial, hk⟩)) hg hat); replace HO_2 := zA (Kd.V_afterv (ok := (fun k_ => ((P0_ k_ ∨ P2_ k_) ∨ w.heap.size ≤ k_))) (by (with_reducible repeat (first | apply Kd.V_alloc | apply Kd.V_drewN | apply Kd.V_drew)); first | exact HO_2.out | exact Kd.S_mono HO_2.out (fun _ hk => ⟨trivial, hk⟩)) hg hat); replace HL471_0 := zA (Kd.V_afterv (ok := (fun k_ => ((P0_ k_ ∨ P2_ k_) ∨ w.heap.size ≤ k_))) (V_g HL471_0.out) hg hat); replace HB := zA (hb); have HO474 := zA (ho); clear HO_8; clear ho hb hg hat))
          go_roundg k2
          case measure => have := HJ4.out; have := HK2.out; omega
          case rel => exact ⟨(y472), (wrap64 (x9_2 + 1)), frs, H', ⟨by have := HJ4.out; have := HK2.out; omega⟩, ⟨rdV HO_0.out⟩, ⟨rdV HO_2.out⟩, ⟨rdR HO474.out⟩, ⟨bel⟩⟩
         ·rw [if_neg c20] at H
          exact absurd H (by simp)
        ·rw [if_neg c19] at H
         have c19b0 : (((rd_L1 l0 x9_2).length : Int) == (l2.length : Int)) = false := beq_eq_false_iff_ne.mpr c19
         have c19b1 : (((rd_L1 l0 x9_2).length : Int) != (l2.length : Int)) = true := bne_iff_ne.mpr c19
         have c19b2 : ((rd_L1 l0 x9_2).length == l2.length) = false := by first | simpa using c19 | (simp at c19 ⊢; omega)
         obtain rfl := Option.some.inj H
         have p471 : 0 ≤ (x9_2 : Int) := of_decide_eq_true asu
         have q471 : x9_2 < (l0.length : Int) := of_decide_eq_true asu
         obtain ⟨ad471, A471_0, c471_0, e471, hx471_0, hl471_0, hi471_0⟩ := at_L1 (Kd.V_reads' HO_0.out).2.2 x9_2 p471 q471
         cases e471
         obtain ⟨ce471, hce471, hMe471, hcc471⟩ := Kd.V_get HO_0.out [] x9_2 p471 (by first | exact q471 | exact of_decide_eq_true asu | (have e_ := (Kd.V_reads' HO_0.out).1; omega))
         obtain ⟨ua471_0, uc471_0, rfl, ul471_0, ge471_0⟩ := Kd.FK_slice_open hMe471
         have hv471_0 := hcc471 0 _ rfl
         rw [Nat.add_zero, show ((Kd.slice 5 (Kd.int .u8))).sz = 1 from rfl, Nat.mul_one] at hv471_0
         replace hv471_0 := Option.some.inj (hv471_0.symm.trans hx471_0)
         injection hv471_0 with hva_ hvn_ hvc_
         rw [hva_] at ge471_0
         rw [hvc_] at ul471_0
         have HL471_0 := zA (show Kd.V (Kd.int .u8) 5 _ w.heap.size _ _ (rd_L1 l0 x9_2) from Kd.V_mk ul471_0 ge471_0)
         clear hva_ hvn_ hvc_ ge471_0 ul471_0
         clear hcc471 hce471
         have HR471_0 := zA hi471_0
         have HC471_0 := zA hl471_0
         clear hi471_0 hl471_0
         replace p471 := eq_true p471
         replace q471 := eq_true q471
         go_wp2
         go_ret
         exact ⟨by first | rfl | (simp [errW_none, errW_some] <;> rfl) | (simp [*, errW_none, errW_some] <;> rfl), bel⟩
       ·rw [if_neg c18] at H
        exact absurd H (by simp)
      ·rw [if_neg c17] at H
       have c17b0 : decide (x9_2 < (l0.length : Int)) = false := decide_eq_false c17
       clear c17
       replace H := Option.bind_eq_some_iff.mp H
       obtain ⟨⟨t475, t476⟩, A220, H⟩ := H
       try dsimp only at H
       have A22 := zA A220
       clear A220
       by_cases c23 : t476 = 0
       ·rw [if_pos c23] at H
        have c23b0 : (t476 == 0) = true := beq_iff_eq.mpr c23
        have c23b1 : (t476 != 0) = false := bne_eq_false_iff_eq.mpr c23
        clear c23
        by_cases c24 : (l0.length : Int) = 0
        ·rw [if_pos c24] at H
         exact absurd H (by simp)
        ·rw [if_neg c24] at H
         have c24b0 : ((l0.length : Int) == 0) = false := beq_eq_false_iff_ne.mpr c24
         have c24b1 : ((l0.length : Int) != 0) = true := bne_iff_ne.mpr c24
         have c24b2 : ¬ (l0 = []) := fun h_ => c24 (by rw [h_]; rfl)
         by_cases c25 : x8_2.length < 17592186044416
         ·rw [if_pos c25] at H
          have LMc25 := zA c25
          clear c25
          obtain ⟨y477, hy477⟩ : ∃ y_ : List Int, y_ = (x8_2 ++ [Int.tmod a1 (l0.length : Int)]) := ⟨_, rfl⟩
          replace H : (if ([] : List (List Int)).length + l0.length < 5864062014805 then ((some (([] : List (List Int)) ++ l0 : List (List Int))).bind fun y480 => (if y480.length < 5864062014805 then ((fountainlaw11_drops.f k2 y477 (y480 ++ [l2])).bind fun t486 => ((Pd.dblock.f (l0.length : Int) (l2.length : Int) t486).bind fun bt489 => ((fountainlaw11_num.f bt489.2).bind fun t493 => (if t493 = 0 then ((fountainlaw2_From.f k2 bt489.1).bind fun t494 => ((fountainref1_SameRows.f k2 t494 l0).bind fun t497 => (some t497))) else (some false))))) else (none))) else (none)) = some r := zC H hy477
          have Ny477 := zA hy477
          clear hy477
          by_cases c26 : ([] : List (List Int)).length + l0.length < 5864062014805
          ·rw [if_pos c26] at H
           have LMc26 := zA c26
           clear c26
           obtain ⟨y480, hy480⟩ : ∃ y_ : List (List Int), y_ = (([] : List (List Int)) ++ l0) := ⟨_, rfl⟩
           replace H : (if y480.length < 5864062014805 then ((fountainlaw11_drops.f k2 y477 (y480 ++ [l2])).bind fun t486 => ((Pd.dblock.f (l0.length : Int) (l2.length : Int) t486).bind fun bt489 => ((fountainlaw11_num.f bt489.2).bind fun t493 => (if t493 = 0 then ((fountainlaw2_From.f k2 bt489.1).bind fun t494 => ((fountainref1_SameRows.f k2 t494 l0).bind fun t497 => (some t497))) else (some false))))) else (none)) = some r := zC H hy480
           have Ny480 := zA hy480
           clear hy480
           by_cases c27 : y480.length < 5864062014805
           ·rw [if_pos c27] at H
            have LMc27 := zA c27
            clear c27
            obtain ⟨y483, hy483⟩ : ∃ y_ : List (List Int), y_ = (y480 ++ [l2]) := ⟨_, rfl⟩
            replace H : ((fountainlaw11_drops.f k2 y477 y483).bind fun t486 => ((Pd.dblock.f (l0.length : Int) (l2.length : Int) t486).bind fun bt489 => ((fountainlaw11_num.f bt489.2).bind fun t493 => (if t493 = 0 then ((fountainlaw2_From.f k2 bt489.1).bind fun t494 => ((fountainref1_SameRows.f k2 t494 l0).bind fun t497 => (some t497))) else (some false))))) = some r := zC H hy483
            have Ny483 := zA hy483
            clear hy483
            replace H := Option.bind_eq_some_iff.mp H
            obtain ⟨t486, A280, H⟩ := H
            try dsimp only at H
            have A28 := zA A280
            clear A280
            replace H := Option.bind_eq_some_iff.mp H
            obtain ⟨⟨t489, t490⟩, A290, H⟩ := H
            try dsimp only at H
            have A29 := zA A290
            clear A290
            replace H := Option.bind_eq_some_iff.mp H
            obtain ⟨t493, A300, H⟩ := H
            try dsimp only at H
            have A30 := zA A300
            clear A300
            by_cases c31 : t493 = 0
            ·rw [if_pos c31] at H
             have c31b0 : (t493 == 0) = true := beq_iff_eq.mpr c31
             have c31b1 : (t493 != 0) = false := bne_eq_false_iff_eq.mpr c31
             clear c31
             replace H := Option.bind_eq_some_iff.mp H
             obtain ⟨t494, A320, H⟩ := H
             try dsimp only at H
             have A32 := zA A320
             clear A320
             replace H := Option.bind_eq_some_iff.mp H
             obtain ⟨t497, A330, H⟩ := H
             try dsimp only at H
             have A33 := zA A330
             clear A330
             obtain rfl := Option.some.inj H
             go_wp2_with (first | ((with_reducible refine gate_callee (f := 43) rfl ?_); refine goesL_ (some 81) rfl rfl Try.func43 (by kernel_rfl) rfl #[.int .i64 (l0.length : Int)] rfl agl ?_; (with_reducible refine (fountainref1_Seed.calls k2 (l0.length : Int) t475 t476 _ A22.out).mono ?_); rintro e w34 ⟨rfl, hb⟩; refine ⟨_, rfl, ?_⟩; replace HO_0 := zA (Kd.V_below (V_g HO_0.out) hb); replace HO_2 := zA (Kd.V_below (V_g HO_2.out) hb); replace HO_8 := zA (Kd.R_below (R_g HO_8.out) hb); replace HB := zA (belt hb)) | ((with_reducible refine gate_builtin (b := .append) (xs := #[.tmp 91, .tmp 96]) rfl ?_); (try (refine gate_guard (by rfl) ?_; dsimp only)); at_builtin; refine Kd.R_append (Kd.int .i64) (w0 := w) w.heap.size rfl (.tmp 91) (.tmp 96) 51 3 (.int .i64 0) 8 rfl Try.underlying51 info3 rfl (by decide) (by omega) u8 x8_2 (Int.tmod a1 (l0.length : Int)) [.int .i64 (Int.tmod a1 (l0.length : Int))] (fun k_ => (w.heap.size ≤ k_)) (fun _ => False) rfl rfl ?aP (fun _ hk => hk.elim) ?aF ?aO ?aB ?aS ?aL ?_; (case aP => exact rfl); (case aB => exact bel); (case aF => exact (fun k_ hk => (Nat.le_trans bels hk))); (case aO => exact (R_g HO_8.out)); (case aS => exact bels); (case aL => have := LMc25.out; omega); intro v478 w35 ho hb hg hat; rw [← Ny477.out] at ho; replace HO_0 := zA (Kd.V_afterv (ok := (fun k_ => ((P0_ k_ ∨ P2_ k_) ∨ w.heap.size ≤ k_))) (by (with_reducible repeat (first | apply Kd.V_alloc | apply Kd.V_drewN | apply Kd.V_drew)); first | exact HO_0.out | exact Kd.S_mono HO_0.out (fun _ hk => ⟨trivial, hk⟩)) hg hat); replace HO_2 := zA (Kd.V_afterv (ok := (fun k_ => ((P0_ k_ ∨ P2_ k_) ∨ w.heap.size ≤ k_))) (by (with_reducible repeat (first | apply Kd.V_alloc | apply Kd.V_drewN | apply Kd.V_drew)); first | exact HO_2.out | exact Kd.S_mono HO_2.out (fun _ hk => ⟨trivial, hk⟩)) hg hat); replace HB := zA (hb); have HO479 := zA (ho); clear HO_8; clear ho hb hg hat) | ((with_reducible refine gate_builtin (b := .append) (xs := #[.const (.slice none 0 0), .tmp 98]) rfl ?_); (try (refine gate_guard (by rfl) ?_; dsimp only)); at_builtin; refine Kd.N_append_rows (Kd.slice 5 (Kd.int .u8)) (w0 := w) w.heap.size rfl (.const (.slice none 0 0)) (.tmp 98) 34 30 (.slice none 0 0) 24 rfl Try.underlying34 info30 rfl (by decide) (by omega) (.slice none 0 0) ([] : List (List Int)) l0 _ _ _ (fun k_ => ((P0_ k_ ∨ P2_ k_) ∨ w.heap.size ≤ k_) ∧ some k_ ≠ (v478 : Value).ownBlock) (fun k_ => ((fun k_ => ((P0_ k_ ∨ P2_ k_) ∨ w.heap.size ≤ k_) ∧ some k_ ≠ (v478 : Value).ownBlock)) k_ ∧ some k_ ≠ (.slice none 0 0 : Value).ownBlock) rfl rfl ?aO ?aR (fun _ hk => hk) ?aF ?aB ?aS ?aL ?_; (case aR => exact (by skip; exact Kd.V_F (Kd.V_mono (ok' := (fun k_ => ((fun k_ => ((P0_ k_ ∨ P2_ k_) ∨ w.heap.size ≤ k_) ∧ some k_ ≠ (v478 : Value).ownBlock)) k_ ∧ some k_ ≠ (.slice none 0 0 : Value).ownBlock)) (HO_0.out) (fun k_ hk => ⟨⟨hk.1, hk.2⟩, (by simp [Value.ownBlock])⟩)))); (case aB => exact bel); (case aF => exact (fun k_ hk => ⟨(.inr (Nat.le_trans bels hk)), Kd.fresh' (Kd.R_lt (R_g HO479.out)) k_ hk⟩)); (case aO => exact ((Kd.N_nil _ _ _ _ (fun k_ => ((P0_ k_ ∨ P2_ k_) ∨ w.heap.size ≤ k_) ∧ some k_ ≠ (v478 : Value).ownBlock)))); (case aS => exact bels); (case aL => have := LMc26.out; omega); intro v481 w36 ho hb hg hat; rw [← Ny480.out] at ho; replace HO_0 := zA (Kd.V_afterv (Kd.V_apart_nil (V_g HO_0.out)) hg hat); replace HO_2 := zA (Kd.V_afterv (Kd.V_apart_nil (V_g HO_2.out)) hg hat); replace HO479 := zA (Kd.R_grown (R_g HO479.out) hg (fun _ _ => by simp [Value.ownBlock])); replace HB := zA (hb); have HO482 := zA (ho); clear ho hb hg hat) | ((with_reducible refine gate_builtin (b := .append) (xs := #[.tmp 99, .tmp 101]) rfl ?_); (try (refine gate_guard (by rfl) ?_; dsimp only)); at_builtin; refine Kd.N_append (Kd.slice 5 (Kd.int .u8)) (w0 := w) w.heap.size rfl (.tmp 99) (.tmp 101) 34 30 (.slice none 0 0) 24 rfl Try.underlying34 info30 rfl (by decide) (by omega) v481 y480 l2 [.slice A2 l2.length c2] (fun k_ => ((P0_ k_ ∨ P2_ k_) ∨ w.heap.size ≤ k_) ∧ some k_ ≠ (v478 : Value).ownBlock) (fun k_ => ((fun k_ => ((P0_ k_ ∨ P2_ k_) ∨ w.heap.size ≤ k_) ∧ some k_ ≠ (v478 : Value).ownBlock)) k_ ∧ some k_ ≠ (v481 : Value).ownBlock) rfl rfl ?aP (fun _ hk => hk) ?aF ?aO ?aB ?aS ?aL ?_; (case aP => exact (Kd.FK_slice_mk (Kd.V_reads' (Kd.V_mono (ok' := (fun k_ => ((fun k_ => ((P0_ k_ ∨ P2_ k_) ∨ w.heap.size ≤ k_) ∧ some k_ ≠ (v478 : Value).ownBlock)) k_ ∧ some k_ ≠ (v481 : Value).ownBlock)) (HO_2.out) (fun k_ hk => ⟨⟨hk.1.1, hk.1.2⟩, hk.2⟩))).2.1 (Kd.V_F (Kd.V_mono (ok' := (fun k_ => ((fun k_ => ((P0_ k_ ∨ P2_ k_) ∨ w.heap.size ≤ k_) ∧ some k_ ≠ (v478 : Value).ownBlock)) k_ ∧ some k_ ≠ (v481 : Value).ownBlock)) (HO_2.out) (fun k_ hk => ⟨⟨hk.1.1, hk.1.2⟩, hk.2⟩))))); (case aB => exact bel); (case aF => exact (fun k_ hk => ⟨(.inr (Nat.le_trans bels hk)), Kd.fresh' (Kd.R_lt (R_g HO479.out)) k_ hk⟩)); (case aO => exact (N_g HO482.out)); (case aS => exact bels); (case aL => have := LMc27.out; omega); intro v484 w37 ho hb hg hat; rw [← Ny483.out] at ho; replace HO_0 := zA (Kd.V_afterv (ok := (fun k_ => ((P0_ k_ ∨ P2_ k_) ∨ w.heap.size ≤ k_) ∧ some k_ ≠ (v478 : Value).ownBlock)) (by (with_reducible repeat (first | apply Kd.V_alloc | apply Kd.V_drewN | apply Kd.V_drew)); first | exact HO_0.out | exact Kd.S_mono HO_0.out (fun _ hk => ⟨trivial, hk⟩)) hg hat); replace HO_2 := zA (Kd.V_afterv (ok := (fun k_ => ((P0_ k_ ∨ P2_ k_) ∨ w.heap.size ≤ k_) ∧ some k_ ≠ (v478 : Value).ownBlock)) (by (with_reducible repeat (first | apply Kd.V_alloc | apply Kd.V_drewN | apply Kd.V_drew)); first | exact HO_2.out | exact Kd.S_mono HO_2.out (fun _ hk => ⟨trivial, hk⟩)) hg hat); replace HO479 := zA (Kd.R_over' (R_g HO479.out) (Kd.N_typed (N_g HO482.out)) (by decide) hg); replace HB := zA (hb); have HO485 := zA (ho); clear HO482; clear ho hb hg hat; obtain ⟨Ao38, co38, eo38⟩ := Kd.R_slice HO479.out; subst eo38; obtain ⟨Ao39, co39, eo39⟩ := Kd.N_slice HO485.out; subst eo39) | ((with_reducible refine gate_callee (f := 56) rfl ?_); refine goesL_ (some 103) rfl rfl Try.func56 (by kernel_rfl) rfl #[.slice Ao38 y477.length co38, .slice Ao39 y483.length co39] rfl agl ?_; (with_reducible refine (fountainlaw11_drops.calls k2 _ _ y477 _ _ y483 t486 _ ?side1 ?side2 ?side3 ?side4 A28.out).mono ?_); (case side1 => repeat (first | exact (Kd.R_reads' HO479.out).2.2 | (with_reducible refine Kd.C_alloc ?_ _) | (with_reducible refine Kd.C_drewN ?_ _) | (with_reducible refine Kd.C_drew ?_))); (case side2 => exact (Kd.R_reads' HO479.out).2.1); (case side3 => repeat (first | exact (Kd.N_reads' HO485.out).2.2 | (with_reducible refine Kd.C_alloc ?_ _) | (with_reducible refine Kd.C_drewN ?_ _) | (with_reducible refine Kd.C_drew ?_))); (case side4 => exact (Kd.N_reads' HO485.out).2.1); rintro e w40 ⟨v487, rfl, ho0, hb⟩; refine ⟨_, rfl, ?_⟩; replace HO_0 := zA (Kd.V_elder' (V_g HO_0.out) (by first | exact Kd.N_base ho0 | exact Kd.N_base (Kd.S_N ho0)) hb); replace HO_2 := zA (Kd.V_elder' (V_g HO_2.out) (by first | exact Kd.N_base ho0 | exact Kd.N_base (Kd.S_N ho0)) hb); have HO488 := zA (Kd.N_lower (Kd.N_mono (ok' := fun k_ => ((P0_ k_ ∨ P2_ k_) ∨ w.heap.size ≤ k_) ∧ some k_ ≠ (.slice Ao38 y477.length co38 : Value).ownBlock ∧ some k_ ≠ (.slice Ao39 y483.length co39 : Value).ownBlock) (Kd.S_N (Kd.S_bound ho0)) (fun k_ hk_ => ⟨(.inr (Nat.le_trans bels hk_.2.1)), (Kd.fresh' (Kd.R_lt (R_g HO479.out)) k_ hk_.2.1), (Kd.fresh' (Kd.N_lt (N_g HO485.out)) k_ hk_.2.1)⟩)) bels); replace HO479 := zA (Kd.R_below (R_g HO479.out) hb); replace HO485 := zA (Kd.N_elder' (N_g HO485.out) (by first | exact Kd.N_base ho0 | exact Kd.N_base (Kd.S_N ho0)) hb); replace HB := zA (belt hb); obtain ⟨Ao41, co41, eo41⟩ := Kd.N_slice HO488.out; subst eo41) | ((with_reducible refine gate_callee (f := 55) rfl ?_); refine goesL_ (some 104) rfl rfl Try.func55 (by kernel_rfl) rfl #[.int .i64 (l0.length : Int), .int .i64 (l2.length : Int), .slice Ao41 t486.length co41] rfl agl ?_; (with_reducible refine (Pd.dblock.calls (l0.length : Int) (l2.length : Int) _ _ t486 t489 t490 _ ?side1 ?side2 A29.out).mono ?_); (case side1 => repeat (first | exact (Kd.N_reads' HO488.out).2.2 | (with_reducible refine Kd.C_alloc ?_ _) | (with_reducible refine Kd.C_drewN ?_ _) | (with_reducible refine Kd.C_drew ?_))); (case side2 => exact (Kd.N_reads' HO488.out).2.1); rintro e w42 ⟨v491, rfl, ho0, hb⟩; refine ⟨_, rfl, ?_⟩; replace HO_0 := zA (Kd.V_elder' (V_g HO_0.out) (by first | exact Kd.N_base ho0 | exact Kd.N_base (Kd.S_N ho0)) hb); replace HO_2 := zA (Kd.V_elder' (V_g HO_2.out) (by first | exact Kd.N_base ho0 | exact Kd.N_base (Kd.S_N ho0)) hb); have HO492 := zA (Kd.N_lower (Kd.N_mono (ok' := fun k_ => ((P0_ k_ ∨ P2_ k_) ∨ w.heap.size ≤ k_) ∧ some k_ ≠ (.slice Ao38 y477.length co38 : Value).ownBlock ∧ some k_ ≠ (.slice Ao39 y483.length co39 : Value).ownBlock ∧ some k_ ≠ (.slice Ao41 t486.length co41 : Value).ownBlock) (Kd.S_N (Kd.S_bound ho0)) (fun k_ hk_ => ⟨(.inr (Nat.le_trans bels hk_.2.1)), (Kd.fresh' (Kd.R_lt (R_g HO479.out)) k_ hk_.2.1), (Kd.fresh' (Kd.N_lt (N_g HO485.out)) k_ hk_.2.1), (Kd.fresh' (Kd.N_lt (N_g HO488.out)) k_ hk_.2.1)⟩)) bels); replace HO479 := zA (Kd.R_below (R_g HO479.out) hb); replace HO485 := zA (Kd.N_elder' (N_g HO485.out) (by first | exact Kd.N_base ho0 | exact Kd.N_base (Kd.S_N ho0)) hb); replace HO488 := zA (Kd.N_elder' (N_g HO488.out) (by first | exact Kd.N_base ho0 | exact Kd.N_base (Kd.S_N ho0)) hb); replace HB := zA (belt hb)) | ((with_reducible refine gate_callee (f := 58) rfl ?_); refine goesL_ (some 108) rfl rfl Try.func58 (by kernel_rfl) rfl #[.int .i64 t490] rfl agl ?_; (with_reducible refine (fountainlaw11_num.calls t490 t493 _ A30.out).mono ?_); rintro e w' ⟨rfl, ⟨nd, rfl⟩⟩; refine ⟨_, rfl, ?_⟩; obtain ⟨Ao43, co43, eo43⟩ := Kd.N_slice HO492.out; subst eo43) | (go_at_call 32; (with_reducible refine (fountainlaw2_From.calls k2 (fun k_ => (((P0_ k_ ∨ P2_ k_) ∨ w.heap.size ≤ k_) ∧ (some k_ ≠ (.slice Ao38 y477.length co38 : Value).ownBlock ∧ (some k_ ≠ (.slice Ao39 y483.length co39 : Value).ownBlock ∧ some k_ ≠ (.slice Ao41 t486.length co41 : Value).ownBlock)))) _ _ t489 t494 _ ?side1 A32.out).mono ?_); (case side1 => exact Kd.N_V (HO492.out)); rintro e w44 ⟨v495, rfl, ho0, hb⟩; replace HO_0 := zA (Kd.V_elder' (V_g HO_0.out) (by first | exact Kd.N_base ho0 | exact Kd.N_base (Kd.S_N ho0)) hb); replace HO_2 := zA (Kd.V_elder' (V_g HO_2.out) (by first | exact Kd.N_base ho0 | exact Kd.N_base (Kd.S_N ho0)) hb); replace HO492 := zA (Kd.N_elder' (N_g HO492.out) (by first | exact Kd.N_base ho0 | exact Kd.N_base (Kd.S_N ho0)) hb); have HO496 := zA (Kd.N_lower (Kd.N_mono (ok' := fun k_ => ((P0_ k_ ∨ P2_ k_) ∨ w.heap.size ≤ k_) ∧ some k_ ≠ (.slice Ao38 y477.length co38 : Value).ownBlock ∧ some k_ ≠ (.slice Ao39 y483.length co39 : Value).ownBlock ∧ some k_ ≠ (.slice Ao41 t486.length co41 : Value).ownBlock) ho0 (fun k_ hk_ => ⟨Or.elim hk_ (fun hs_ => hs_.1) (fun hn_ => (.inr (Nat.le_trans bels hn_))), Or.elim hk_ (fun hs_ => hs_.2.1) (fun hn_ => (Kd.fresh' (Kd.R_lt (R_g HO479.out)) k_ hn_)), Or.elim hk_ (fun hs_ => hs_.2.2.1) (fun hn_ => (Kd.fresh' (Kd.N_lt (N_g HO485.out)) k_ hn_)), Or.elim hk_ (fun hs_ => hs_.2.2.2) (fun hn_ => (Kd.fresh' (Kd.N_lt (N_g HO488.out)) k_ hn_))⟩)) bels); replace HO479 := zA (Kd.R_below (R_g HO479.out) hb); replace HO485 := zA (Kd.N_elder' (N_g HO485.out) (by first | exact Kd.N_base ho0 | exact Kd.N_base (Kd.S_N ho0)) hb); replace HO488 := zA (Kd.N_elder' (N_g HO488.out) (by first | exact Kd.N_base ho0 | exact Kd.N_base (Kd.S_N ho0)) hb); replace HB := zA (belt hb); obtain ⟨Ao45, co45, eo45⟩ := Kd.N_slice HO496.out; subst eo45) | (go_at_call 31; (with_reducible refine (fountainref1_SameRows.calls k2 _ _ t494 _ _ l0 t497 _ ?side1 ?side2 ?side3 ?side4 A33.out).mono ?_); (case side1 => repeat (first | exact (Kd.N_reads' HO496.out).2.2 | (with_reducible refine Kd.C_alloc ?_ _) | (with_reducible refine Kd.C_drewN ?_ _) | (with_reducible refine Kd.C_drew ?_))); (case side2 => exact (Kd.N_reads' HO496.out).2.1); (case side3 => repeat (first | exact (Kd.V_reads' HO_0.out).2.2 | (with_reducible refine Kd.C_alloc ?_ _) | (with_reducible refine Kd.C_drewN ?_ _) | (with_reducible refine Kd.C_drew ?_))); (case side4 => exact (Kd.V_reads' HO_0.out).2.1); rintro e w' ⟨rfl, ⟨nd, rfl⟩⟩))
             go_ret
             exact ⟨by first | rfl | (simp [errW_none, errW_some] <;> rfl) | (simp [*, errW_none, errW_some] <;> rfl), bel⟩
            ·rw [if_neg c31] at H
             have c31b0 : (t493 == 0) = false := beq_eq_false_iff_ne.mpr c31
             have c31b1 : (t493 != 0) = true := bne_iff_ne.mpr c31
             exact absurd ((Option.some.inj H).trans HRT.out) (by decide)
           ·rw [if_neg c27] at H
            exact absurd H (by simp)
          ·rw [if_neg c26] at H
           exact absurd H (by simp)
         ·rw [if_neg c25] at H
          exact absurd H (by simp)
       ·rw [if_neg c23] at H
        have c23b0 : (t476 == 0) = false := beq_eq_false_iff_ne.mpr c23
        have c23b1 : (t476 != 0) = true := bne_iff_ne.mpr c23
        obtain rfl := Option.some.inj H
        go_wp2_with (first | ((with_reducible refine gate_callee (f := 43) rfl ?_); refine goesL_ (some 81) rfl rfl Try.func43 (by kernel_rfl) rfl #[.int .i64 (l0.length : Int)] rfl agl ?_; (with_reducible refine (fountainref1_Seed.calls k2 (l0.length : Int) t475 t476 _ A22.out).mono ?_); rintro e w46 ⟨rfl, hb⟩; refine ⟨_, rfl, ?_⟩; replace HO_0 := zA (Kd.V_below (V_g HO_0.out) hb); replace HO_2 := zA (Kd.V_below (V_g HO_2.out) hb); replace HO_8 := zA (Kd.R_below (R_g HO_8.out) hb); replace HB := zA (belt hb)))
        go_ret
        exact ⟨by first | rfl | (simp [errW_none, errW_some] <;> rfl) | (simp [*, errW_none, errW_some] <;> rfl), bel⟩
end Go.Proofs.Ytbfhinfblepidaa.PDecodeTwice
