/- Written by a program (this session's own): functions that the law reaches, as plain Lean functions, each with the proof that the code comes to it. No conditions but those that stand in the theorems. -/
import Derived.Test.YtbfhinfblepidaaPq
import Derived.Test.YtbfhinfblepidaaDz
import Derived.Test.YtbfhinfblepidaaPDecodeTellsx10
import Derived.Test.YtbfhinfblepidaaPDecodeTellsx18
namespace Go.Proofs.Ytbfhinfblepidaa.PDecodeTells
open Go.RowKit Go.Proofs.YtbfhinfblepidaaW.PrintWords Go.Proofs.YtbfhinfblepidaaW.PrintLast Go.Proofs.YtbfhinfblepidaaW.PrintMore Go.Proofs.Ytbfhinfblepidaa.PSolveTells Go.Proofs.Ytbfhinfblepidaa.PSeedTells Go.Proofs.Ytbfhinfblepidaa.PBlockTells
attribute [local go_sem] max2_int min2_int max_two min_two max_three min_three max_four min_four
set_option linter.unusedVariables false
set_option linter.unusedSimpArgs false
noncomputable def fountainlaw11_DecodeTells.j0 : Nat → Int → Int → List Int → List (List Int) → Bool → Bool → Option (Bool)
 | 0, _, _, _, _, _, _ => none
 | k + 1, x0, x1, x2, x3, x9, x41 => if x41 = true then (some x9) else ((fountainlaw11_drops.f k x2 x3).bind fun t551 => ((Pd.dblock.f x0 x1 t551).bind fun bt554 => ((Pd.rdec.f x0 x1 x2 x3).bind fun bt558 => ((fountainlaw2_From.f k bt554.1).bind fun t562 => ((fountainref1_SameRows.f k t562 bt558.1).bind fun t565 => (if t565 = true then ((fountainlaw11_num.f bt554.2).bind fun t566 => (if t566 = bt558.2 then ((Pd.denough.f x0 x2).bind fun t567 => ((fountainref1_Enough.f k x0 x2).bind fun t568 => (some (t567 == t568)))) else (some false))) else (some false)))))))
noncomputable def fountainlaw11_DecodeTells.f (k : Nat) (a0 : Int) (a1 : Int) (l2 : List Int) (l3 : List (List Int)) : Option (Bool) := (Pd.alive11.f).bind fun t548 => (if t548 = true then (if a0 > 14 then (if a0 ≤ 40 then (fountainlaw11_DecodeTells.j0 k a0 a1 l2 l3 t548 true) else (if (l2.length : Int) > 30 then (fountainlaw11_DecodeTells.j0 k a0 a1 l2 l3 t548 true) else (if (l3.length : Int) < (l2.length : Int) then (fountainlaw11_DecodeTells.j0 k a0 a1 l2 l3 t548 true) else ((fountainlaw2_Few.f k l3).bind fun t549 => (fountainlaw11_DecodeTells.j0 k a0 a1 l2 l3 t548 (!t549)))))) else (if (l2.length : Int) > 30 then (fountainlaw11_DecodeTells.j0 k a0 a1 l2 l3 t548 true) else (if (l3.length : Int) < (l2.length : Int) then (fountainlaw11_DecodeTells.j0 k a0 a1 l2 l3 t548 true) else ((fountainlaw2_Few.f k l3).bind fun t550 => (fountainlaw11_DecodeTells.j0 k a0 a1 l2 l3 t548 (!t550)))))) else (fountainlaw11_DecodeTells.j0 k a0 a1 l2 l3 t548 true))
set_option maxHeartbeats 8000000 in
set_option maxRecDepth 100000 in
theorem fountainlaw11_DecodeTells.calls (k : Nat) (a0 : Int) (a1 : Int) (A2 : Option Addr) (c2 : Nat) (l2 : List Int) (A3 : Option Addr) (c3 : Nat) (l3 : List (List Int)) (r : Bool) (w : World) (hr2 : Kd.C (Kd.int .i64) w A2 l2.length l2) (hc2 : l2.length ≤ c2) (hr3 : Kd.C (Kd.slice 5 (Kd.int .u8)) w A3 l3.length l3) (hc3 : l3.length ≤ c3) (h : fountainlaw11_DecodeTells.f k a0 a1 l2 l3 = some r) (hrt : r = true) :
 Calls Try.prog 14 #[.int .i64 a0, .int .i64 a1, .slice A2 l2.length c2, .slice A3 l3.length c3] w fun e w' => e = .returned (.bool r) ∧ Below w.heap.size w w' := by
 have HRT := Aside0.mk hrt
 clear hrt
 have HR2 := Aside0.mk hr2
 have HC2 := Aside0.mk hc2
 clear hr2 hc2
 have HR3 := Aside0.mk hr3
 have HC3 := Aside0.mk hc3
 clear hr3 hc3
 have HB := Aside0.mk (Below.refl w.heap.size w)
 have H : ((Pd.alive11.f).bind fun t548 => (if t548 = true then (if a0 > 14 then (if a0 ≤ 40 then (fountainlaw11_DecodeTells.j0 k a0 a1 l2 l3 t548 true) else (if (l2.length : Int) > 30 then (fountainlaw11_DecodeTells.j0 k a0 a1 l2 l3 t548 true) else (if (l3.length : Int) < (l2.length : Int) then (fountainlaw11_DecodeTells.j0 k a0 a1 l2 l3 t548 true) else ((fountainlaw2_Few.f k l3).bind fun t549 => (fountainlaw11_DecodeTells.j0 k a0 a1 l2 l3 t548 (!t549)))))) else (if (l2.length : Int) > 30 then (fountainlaw11_DecodeTells.j0 k a0 a1 l2 l3 t548 true) else (if (l3.length : Int) < (l2.length : Int) then (fountainlaw11_DecodeTells.j0 k a0 a1 l2 l3 t548 true) else ((fountainlaw2_Few.f k l3).bind fun t550 => (fountainlaw11_DecodeTells.j0 k a0 a1 l2 l3 t548 (!t550)))))) else (fountainlaw11_DecodeTells.j0 k a0 a1 l2 l3 t548 true))) = some r := h
 clear h
 replace H := Option.bind_eq_some_iff.mp H
 obtain ⟨t548, A50, H⟩ := H
 try dsimp only at H
 have A5 := Aside0.mk A50
 clear A50
 have HC6 := Aside0.mk H
 clear H
 go_enter Try.func14, Try.ntmps14
 go_upto_region 2 with (first | ((with_reducible refine gate_callee (f := 54) rfl ?_); refine goesL_ (some 14) rfl rfl Try.func54 (by kernel_rfl) rfl #[] rfl agl ?_; (with_reducible refine (Pd.alive11.calls  t548 _ A5.out).mono ?_); rintro e w7 ⟨rfl, hb⟩; refine ⟨_, rfl, ?_⟩; have n0_ := Aside0.mk (belt hb); clear HB; have HB := n0_; clear n0_; (try clear hb); (try clear hb2); (try clear hk); (try clear hi)))
 (try simp only [Act.put, List.setIfInBounds_toArray, List.set_cons_zero, List.set_cons_succ])
 go_cut [41] (fun v41 wc => ∃ (kq : Nat) (x41_5 : Bool), v41 = .bool x41_5 ∧ Aside0 (fountainlaw11_DecodeTells.j0 kq a0 a1 l2 l3 t548 x41_5 = some r) ∧ Aside0 (kq ≤ k) ∧ Aside0 (Below w.heap.size w wc))
 case first =>
  have H := HC6.out
  clear HC6
  by_cases c8 : t548 = true
  ·subst c8
   have H1 : (if a0 > 14 then (if a0 ≤ 40 then (fountainlaw11_DecodeTells.j0 k a0 a1 l2 l3 true true) else (if (l2.length : Int) > 30 then (fountainlaw11_DecodeTells.j0 k a0 a1 l2 l3 true true) else (if (l3.length : Int) < (l2.length : Int) then (fountainlaw11_DecodeTells.j0 k a0 a1 l2 l3 true true) else ((fountainlaw2_Few.f k l3).bind fun t549 => (fountainlaw11_DecodeTells.j0 k a0 a1 l2 l3 true (!t549)))))) else (if (l2.length : Int) > 30 then (fountainlaw11_DecodeTells.j0 k a0 a1 l2 l3 true true) else (if (l3.length : Int) < (l2.length : Int) then (fountainlaw11_DecodeTells.j0 k a0 a1 l2 l3 true true) else ((fountainlaw2_Few.f k l3).bind fun t550 => (fountainlaw11_DecodeTells.j0 k a0 a1 l2 l3 true (!t550)))))) = some r := by rw [if_pos rfl] at H; exact H
   clear H
   have H := H1
   clear H1
   by_cases c9 : a0 > 14
   ·rw [if_pos c9] at H
    have c9b0 : decide (14 < a0) = true := decide_eq_true c9
    clear c9
    (first | rw [c9b0] | (simp only [i64_w, i32_w]; rw [c9b0]) | skip)
    by_cases c10 : a0 ≤ 40
    ·rw [if_pos c10] at H
     have c10b0 : decide (a0 ≤ 40) = true := decide_eq_true c10
     clear c10
     have H' := Aside0.mk H
     clear H
     go_wp2
     go_meet
     case rel => exact ⟨_, (true), (by first | rfl | (simp; done) | (simp [*]; done)), H', ⟨by first | omega | exact Nat.le_refl _⟩, ⟨bel⟩⟩
    ·rw [if_neg c10] at H
     have c10b0 : decide (a0 ≤ 40) = false := decide_eq_false c10
     clear c10
     by_cases c11 : (l2.length : Int) > 30
     ·rw [if_pos c11] at H
      have c11b0 : decide (30 < (l2.length : Int)) = true := decide_eq_true c11
      have c11b1 : decide (30 < l2.length) = true := decide_eq_true (by omega)
      clear c11
      have H' := Aside0.mk H
      clear H
      go_wp2
      go_meet
      case rel => exact ⟨_, (true), (by first | rfl | (simp; done) | (simp [*]; done)), H', ⟨by first | omega | exact Nat.le_refl _⟩, ⟨bel⟩⟩
     ·rw [if_neg c11] at H
      have c11b0 : decide (30 < (l2.length : Int)) = false := decide_eq_false c11
      have c11b1 : decide (30 < l2.length) = false := decide_eq_false (by omega)
      clear c11
      by_cases c12 : (l3.length : Int) < (l2.length : Int)
      ·rw [if_pos c12] at H
       have c12b0 : decide ((l3.length : Int) < (l2.length : Int)) = true := decide_eq_true c12
       have c12b1 : decide (l3.length < l2.length) = true := decide_eq_true (Int.ofNat_lt.mp c12)
       clear c12
       have H' := Aside0.mk H
       clear H
       go_wp2
       go_meet
       case rel => exact ⟨_, (true), (by first | rfl | (simp; done) | (simp [*]; done)), H', ⟨by first | omega | exact Nat.le_refl _⟩, ⟨bel⟩⟩
      ·rw [if_neg c12] at H
       have c12b0 : decide ((l3.length : Int) < (l2.length : Int)) = false := decide_eq_false c12
       have c12b1 : decide (l3.length < l2.length) = false := decide_eq_false (fun h => c12 (Int.ofNat_lt.mpr h))
       clear c12
       replace H := Option.bind_eq_some_iff.mp H
       obtain ⟨t549, A130, H⟩ := H
       try dsimp only at H
       have A13 := Aside0.mk A130
       clear A130
       have H' := Aside0.mk H
       clear H
       go_wp2_with (first | (go_at_call 25; (with_reducible refine (fountainlaw2_Few.calls k _ _ l3 t549 _ ?side1 ?side2 A13.out).mono ?_); (case side1 => repeat (first | exact (Kd.C_below HR3.out HB.out) | (with_reducible refine Kd.C_alloc ?_ _) | (with_reducible refine Kd.C_drewN ?_ _) | (with_reducible refine Kd.C_drew ?_))); (case side2 => exact HC3.out); rintro e w' ⟨rfl, ⟨nd, rfl⟩⟩))
       go_meet
       case rel => exact ⟨_, (!t549), (by first | rfl | (simp; done) | (simp [*]; done)), H', ⟨by first | omega | exact Nat.le_refl _⟩, ⟨bel⟩⟩
   ·rw [if_neg c9] at H
    have c9b0 : decide (14 < a0) = false := decide_eq_false c9
    clear c9
    (first | rw [c9b0] | (simp only [i64_w, i32_w]; rw [c9b0]) | skip)
    by_cases c14 : (l2.length : Int) > 30
    ·rw [if_pos c14] at H
     have c14b0 : decide (30 < (l2.length : Int)) = true := decide_eq_true c14
     have c14b1 : decide (30 < l2.length) = true := decide_eq_true (by omega)
     clear c14
     have H' := Aside0.mk H
     clear H
     go_wp2
     go_meet
     case rel => exact ⟨_, (true), (by first | rfl | (simp; done) | (simp [*]; done)), H', ⟨by first | omega | exact Nat.le_refl _⟩, ⟨bel⟩⟩
    ·rw [if_neg c14] at H
     have c14b0 : decide (30 < (l2.length : Int)) = false := decide_eq_false c14
     have c14b1 : decide (30 < l2.length) = false := decide_eq_false (by omega)
     clear c14
     by_cases c15 : (l3.length : Int) < (l2.length : Int)
     ·rw [if_pos c15] at H
      have c15b0 : decide ((l3.length : Int) < (l2.length : Int)) = true := decide_eq_true c15
      have c15b1 : decide (l3.length < l2.length) = true := decide_eq_true (Int.ofNat_lt.mp c15)
      clear c15
      have H' := Aside0.mk H
      clear H
      go_wp2
      go_meet
      case rel => exact ⟨_, (true), (by first | rfl | (simp; done) | (simp [*]; done)), H', ⟨by first | omega | exact Nat.le_refl _⟩, ⟨bel⟩⟩
     ·rw [if_neg c15] at H
      have c15b0 : decide ((l3.length : Int) < (l2.length : Int)) = false := decide_eq_false c15
      have c15b1 : decide (l3.length < l2.length) = false := decide_eq_false (fun h => c15 (Int.ofNat_lt.mpr h))
      clear c15
      replace H := Option.bind_eq_some_iff.mp H
      obtain ⟨t550, A160, H⟩ := H
      try dsimp only at H
      have A16 := Aside0.mk A160
      clear A160
      have H' := Aside0.mk H
      clear H
      go_wp2_with (first | (go_at_call 25; (with_reducible refine (fountainlaw2_Few.calls k _ _ l3 t550 _ ?side1 ?side2 A16.out).mono ?_); (case side1 => repeat (first | exact (Kd.C_below HR3.out HB.out) | (with_reducible refine Kd.C_alloc ?_ _) | (with_reducible refine Kd.C_drewN ?_ _) | (with_reducible refine Kd.C_drew ?_))); (case side2 => exact HC3.out); rintro e w' ⟨rfl, ⟨nd, rfl⟩⟩))
      go_meet
      case rel => exact ⟨_, (!t550), (by first | rfl | (simp; done) | (simp [*]; done)), H', ⟨by first | omega | exact Nat.le_refl _⟩, ⟨bel⟩⟩
  ·replace c8 := Bool.eq_false_iff.mpr c8
   subst c8
   have H1 : (fountainlaw11_DecodeTells.j0 k a0 a1 l2 l3 false true) = some r := by rw [if_neg (show ¬ (false = true) by decide)] at H; exact H
   clear H
   have H := H1
   clear H1
   have H' := Aside0.mk H
   clear H
   go_wp2
   go_meet
   case rel => exact ⟨_, (true), (by first | rfl | (simp; done) | (simp [*]; done)), H', ⟨by first | omega | exact Nat.le_refl _⟩, ⟨bel⟩⟩
 case rest =>
  clear HC6
  try clear c1
  try clear c2
  try clear p2
  try clear c3
  try clear c5
  try clear c8
  try clear c9
  try clear c9b0
  try clear c10
  try clear c10b0
  try clear c11
  try clear c11b0
  try clear c11b1
  try clear c12
  try clear c12b0
  try clear c12b1
  try clear c14
  try clear c14b0
  try clear c14b1
  try clear c15
  try clear c15b0
  try clear c15b1
  obtain ⟨kq, x41_5, rfl, HA, HJ5, HB⟩ := hcut
  cases kq with
  | zero => exact absurd HA.out (by simp [fountainlaw11_DecodeTells.j0])
  | succ kj5 =>
   have H := HA.out
   clear HA
   simp only [fountainlaw11_DecodeTells.j0] at H
   by_cases c17 : x41_5 = true
   ·subst c17
    have H1 : (some t548) = some r := by rw [if_pos rfl] at H; exact H
    clear H
    have H := H1
    clear H1
    obtain rfl := Option.some.inj H
    go_wp2
    go_ret
    exact ⟨by first | rfl | (simp [errW_none, errW_some] <;> rfl) | (simp [*, errW_none, errW_some] <;> rfl), bel⟩
   ·replace c17 := Bool.eq_false_iff.mpr c17
    subst c17
    have H1 : ((fountainlaw11_drops.f kj5 l2 l3).bind fun t551 => ((Pd.dblock.f a0 a1 t551).bind fun bt554 => ((Pd.rdec.f a0 a1 l2 l3).bind fun bt558 => ((fountainlaw2_From.f kj5 bt554.1).bind fun t562 => ((fountainref1_SameRows.f kj5 t562 bt558.1).bind fun t565 => (if t565 = true then ((fountainlaw11_num.f bt554.2).bind fun t566 => (if t566 = bt558.2 then ((Pd.denough.f a0 l2).bind fun t567 => ((fountainref1_Enough.f kj5 a0 l2).bind fun t568 => (some (t567 == t568)))) else (some false))) else (some false))))))) = some r := by rw [if_neg (show ¬ (false = true) by decide)] at H; exact H
    clear H
    have H := H1
    clear H1
    replace H := Option.bind_eq_some_iff.mp H
    obtain ⟨t551, A180, H⟩ := H
    try dsimp only at H
    have A18 := Aside0.mk A180
    clear A180
    replace H := Option.bind_eq_some_iff.mp H
    obtain ⟨⟨t554, t555⟩, A190, H⟩ := H
    try dsimp only at H
    have A19 := Aside0.mk A190
    clear A190
    replace H := Option.bind_eq_some_iff.mp H
    obtain ⟨⟨t558, t559⟩, A200, H⟩ := H
    try dsimp only at H
    have A20 := Aside0.mk A200
    clear A200
    replace H := Option.bind_eq_some_iff.mp H
    obtain ⟨t562, A210, H⟩ := H
    try dsimp only at H
    have A21 := Aside0.mk A210
    clear A210
    replace H := Option.bind_eq_some_iff.mp H
    obtain ⟨t565, A220, H⟩ := H
    try dsimp only at H
    have A22 := Aside0.mk A220
    clear A220
    by_cases c23 : t565 = true
    ·subst c23
     have H1 : ((fountainlaw11_num.f t555).bind fun t566 => (if t566 = t559 then ((Pd.denough.f a0 l2).bind fun t567 => ((fountainref1_Enough.f kj5 a0 l2).bind fun t568 => (some (t567 == t568)))) else (some false))) = some r := by rw [if_pos rfl] at H; exact H
     clear H
     have H := H1
     clear H1
     replace H := Option.bind_eq_some_iff.mp H
     obtain ⟨t566, A240, H⟩ := H
     try dsimp only at H
     have A24 := Aside0.mk A240
     clear A240
     by_cases c25 : t566 = t559
     ·rw [if_pos c25] at H
      have c25b0 : (t566 == t559) = true := beq_iff_eq.mpr c25
      have c25b1 : (t566 != t559) = false := bne_eq_false_iff_eq.mpr c25
      clear c25
      replace H := Option.bind_eq_some_iff.mp H
      obtain ⟨t567, A260, H⟩ := H
      try dsimp only at H
      have A26 := Aside0.mk A260
      clear A260
      replace H := Option.bind_eq_some_iff.mp H
      obtain ⟨t568, A270, H⟩ := H
      try dsimp only at H
      have A27 := Aside0.mk A270
      clear A270
      obtain rfl := Option.some.inj H
      go_wp2_with (first | ((with_reducible refine gate_callee (f := 56) rfl ?_); refine goesL_ (some 48) rfl rfl Try.func56 (by kernel_rfl) rfl #[.slice A2 l2.length c2, .slice A3 l3.length c3] rfl agl ?_; (with_reducible refine (fountainlaw11_drops.calls kj5 _ _ l2 _ _ l3 t551 _ ?side1 ?side2 ?side3 ?side4 A18.out).mono ?_); (case side1 => repeat (first | exact (Kd.C_below HR2.out HB.out) | (with_reducible refine Kd.C_alloc ?_ _) | (with_reducible refine Kd.C_drewN ?_ _) | (with_reducible refine Kd.C_drew ?_))); (case side2 => exact HC2.out); (case side3 => repeat (first | exact (Kd.C_below HR3.out HB.out) | (with_reducible refine Kd.C_alloc ?_ _) | (with_reducible refine Kd.C_drewN ?_ _) | (with_reducible refine Kd.C_drew ?_))); (case side4 => exact HC3.out); rintro e w28 ⟨v552, rfl, ho0, hb⟩; refine ⟨_, rfl, ?_⟩; have n0_ := Aside0.mk (Kd.N_lower (Kd.N_mono (ok' := fun k_ => True) (Kd.S_N (Kd.S_bound ho0)) (fun k_ hk_ => trivial)) bels); have n1_ := Aside0.mk (belt hb); clear HB; have HO553 := n0_; have HB := n1_; clear n0_ n1_; (try clear hb); (try clear hb2); (try clear hk); (try clear hi); (try clear ho0); obtain ⟨Ao29, co29, eo29⟩ := Kd.N_slice HO553.out; subst eo29) | ((with_reducible refine gate_callee (f := 55) rfl ?_); refine goesL_ (some 49) rfl rfl Try.func55 (by kernel_rfl) rfl #[.int .i64 a0, .int .i64 a1, .slice Ao29 t551.length co29] rfl agl ?_; (with_reducible refine (Pd.dblock.calls a0 a1 _ _ t551 t554 t555 _ ?side1 ?side2 A19.out).mono ?_); (case side1 => repeat (first | exact (Kd.N_reads' HO553.out).2.2 | (with_reducible refine Kd.C_alloc ?_ _) | (with_reducible refine Kd.C_drewN ?_ _) | (with_reducible refine Kd.C_drew ?_))); (case side2 => exact (Kd.N_reads' HO553.out).2.1); rintro e w30 ⟨v556, rfl, ho0, hb⟩; refine ⟨_, rfl, ?_⟩; have n0_ := Aside0.mk (Kd.N_elder' (N_g HO553.out) (by first | exact Kd.N_base ho0 | exact Kd.N_base (Kd.S_N ho0)) hb); have n1_ := Aside0.mk (Kd.N_lower (Kd.N_mono (ok' := fun k_ => some k_ ≠ (.slice Ao29 t551.length co29 : Value).ownBlock) (Kd.S_N (Kd.S_bound ho0)) (fun k_ hk_ => (Kd.fresh' (Kd.N_lt (N_g HO553.out)) k_ hk_.2.1))) bels); have n2_ := Aside0.mk (belt hb); clear HO553; clear HB; have HO553 := n0_; have HO557 := n1_; have HB := n2_; clear n0_ n1_ n2_; (try clear hb); (try clear hb2); (try clear hk); (try clear hi); (try clear ho0)) | ((with_reducible refine gate_callee (f := 57) rfl ?_); refine goesL_ (some 57) rfl rfl Try.func57 (by kernel_rfl) rfl #[.int .i64 a0, .int .i64 a1, .slice A2 l2.length c2, .slice A3 l3.length c3] rfl agl ?_; (with_reducible refine (Pd.rdec.calls a0 a1 _ _ l2 _ _ l3 t558 t559 _ ?side1 ?side2 ?side3 ?side4 A20.out).mono ?_); (case side1 => repeat (first | exact (Kd.C_below HR2.out HB.out) | (with_reducible refine Kd.C_alloc ?_ _) | (with_reducible refine Kd.C_drewN ?_ _) | (with_reducible refine Kd.C_drew ?_))); (case side2 => exact HC2.out); (case side3 => repeat (first | exact (Kd.C_below HR3.out HB.out) | (with_reducible refine Kd.C_alloc ?_ _) | (with_reducible refine Kd.C_drewN ?_ _) | (with_reducible refine Kd.C_drew ?_))); (case side4 => exact HC3.out); rintro e w31 ⟨v560, rfl, ho0, hb⟩; refine ⟨_, rfl, ?_⟩; have n0_ := Aside0.mk (Kd.N_elder' (N_g HO553.out) (by first | exact Kd.N_base ho0 | exact Kd.N_base (Kd.S_N ho0)) hb); have n1_ := Aside0.mk (Kd.N_elder' (N_g HO557.out) (by first | exact Kd.N_base ho0 | exact Kd.N_base (Kd.S_N ho0)) hb); have n2_ := Aside0.mk (Kd.N_lower (Kd.N_mono (ok' := fun k_ => some k_ ≠ (.slice Ao29 t551.length co29 : Value).ownBlock ∧ some k_ ≠ (v556 : Value).ownBlock) (Kd.S_N (Kd.S_bound ho0)) (fun k_ hk_ => ⟨(Kd.fresh' (Kd.N_lt (N_g HO553.out)) k_ hk_.2.1), (Kd.fresh' (Kd.N_lt (N_g HO557.out)) k_ hk_.2.1)⟩)) bels); have n3_ := Aside0.mk (belt hb); clear HO553; clear HO557; clear HB; have HO553 := n0_; have HO557 := n1_; have HO561 := n2_; have HB := n3_; clear n0_ n1_ n2_ n3_; (try clear hb); (try clear hb2); (try clear hk); (try clear hi); (try clear ho0); obtain ⟨Ao32, co32, eo32⟩ := Kd.N_slice HO557.out; subst eo32) | ((with_reducible refine gate_callee (f := 32) rfl ?_); refine goesL_ (some 61) rfl rfl Try.func32 (by kernel_rfl) rfl #[.slice Ao32 t554.length co32] rfl agl ?_; (with_reducible refine (fountainlaw2_From.calls kj5 (fun k_ => (some k_ ≠ (.slice Ao29 t551.length co29 : Value).ownBlock ∧ some k_ ≠ (v560 : Value).ownBlock)) _ _ t554 t562 _ ?side1 A21.out).mono ?_); (case side1 => exact Kd.N_V (HO557.out)); rintro e w33 ⟨v563, rfl, ho0, hb⟩; refine ⟨_, rfl, ?_⟩; have n0_ := Aside0.mk (Kd.N_elder' (N_g HO553.out) (by first | exact Kd.N_base ho0 | exact Kd.N_base (Kd.S_N ho0)) hb); have n1_ := Aside0.mk (Kd.N_elder' (N_g HO557.out) (by first | exact Kd.N_base ho0 | exact Kd.N_base (Kd.S_N ho0)) hb); have n2_ := Aside0.mk (Kd.N_elder' (N_g HO561.out) (by first | exact Kd.N_base ho0 | exact Kd.N_base (Kd.S_N ho0)) hb); have n3_ := Aside0.mk (Kd.N_lower (Kd.N_mono (ok' := fun k_ => some k_ ≠ (.slice Ao29 t551.length co29 : Value).ownBlock ∧ some k_ ≠ (v560 : Value).ownBlock) ho0 (fun k_ hk_ => ⟨Or.elim hk_ (fun hs_ => hs_.1) (fun hn_ => (Kd.fresh' (Kd.N_lt (N_g HO553.out)) k_ hn_)), Or.elim hk_ (fun hs_ => hs_.2) (fun hn_ => (Kd.fresh' (Kd.N_lt (N_g HO561.out)) k_ hn_))⟩)) bels); have n4_ := Aside0.mk (belt hb); clear HO553; clear HO557; clear HO561; clear HB; have HO553 := n0_; have HO557 := n1_; have HO561 := n2_; have HO564 := n3_; have HB := n4_; clear n0_ n1_ n2_ n3_ n4_; (try clear hb); (try clear hb2); (try clear hk); (try clear hi); (try clear ho0); obtain ⟨Ao34, co34, eo34⟩ := Kd.N_slice HO564.out; subst eo34; obtain ⟨Ao35, co35, eo35⟩ := Kd.N_slice HO561.out; subst eo35) | ((with_reducible refine gate_callee (f := 31) rfl ?_); refine goesL_ (some 63) rfl rfl Try.func31 (by kernel_rfl) rfl #[.slice Ao34 t562.length co34, .slice Ao35 t558.length co35] rfl agl ?_; (with_reducible refine (fountainref1_SameRows.calls kj5 _ _ t562 _ _ t558 true _ ?side1 ?side2 ?side3 ?side4 A22.out).mono ?_); (case side1 => repeat (first | exact (Kd.N_reads' HO564.out).2.2 | (with_reducible refine Kd.C_alloc ?_ _) | (with_reducible refine Kd.C_drewN ?_ _) | (with_reducible refine Kd.C_drew ?_))); (case side2 => exact (Kd.N_reads' HO564.out).2.1); (case side3 => repeat (first | exact (Kd.N_reads' HO561.out).2.2 | (with_reducible refine Kd.C_alloc ?_ _) | (with_reducible refine Kd.C_drewN ?_ _) | (with_reducible refine Kd.C_drew ?_))); (case side4 => exact (Kd.N_reads' HO561.out).2.1); rintro e w' ⟨rfl, ⟨nd, rfl⟩⟩; refine ⟨_, rfl, ?_⟩) | (go_at_call 58; (with_reducible refine (fountainlaw11_num.calls t555 t566 _ A24.out).mono ?_); rintro e w' ⟨rfl, ⟨nd, rfl⟩⟩) | (go_at_call 59; (with_reducible refine (Pd.denough.calls a0 _ _ l2 t567 _ ?side1 ?side2 A26.out).mono ?_); (case side1 => repeat (first | exact (Kd.C_below HR2.out bel) | (with_reducible refine Kd.C_alloc ?_ _) | (with_reducible refine Kd.C_drewN ?_ _) | (with_reducible refine Kd.C_drew ?_))); (case side2 => exact HC2.out); rintro e w36 ⟨rfl, hb⟩; have n0_ := Aside0.mk (Kd.N_below (N_g HO553.out) hb); have n1_ := Aside0.mk (Kd.N_below (N_g HO557.out) hb); have n2_ := Aside0.mk (Kd.N_below (N_g HO561.out) hb); have n3_ := Aside0.mk (Kd.N_below (N_g HO564.out) hb); have n4_ := Aside0.mk (belt hb); clear HO553; clear HO557; clear HO561; clear HO564; clear HB; have HO553 := n0_; have HO557 := n1_; have HO561 := n2_; have HO564 := n3_; have HB := n4_; clear n0_ n1_ n2_ n3_ n4_; (try clear hb); (try clear hb2); (try clear hk); (try clear hi)) | (go_at_call 60; (with_reducible refine (fountainref1_Enough.calls kj5 a0 _ _ l2 t568 _ ?side1 ?side2 A27.out).mono ?_); (case side1 => repeat (first | exact (Kd.C_below HR2.out HB.out) | (with_reducible refine Kd.C_alloc ?_ _) | (with_reducible refine Kd.C_drewN ?_ _) | (with_reducible refine Kd.C_drew ?_))); (case side2 => exact HC2.out); rintro e w37 ⟨rfl, hb⟩; have n0_ := Aside0.mk (Kd.N_below (N_g HO553.out) hb); have n1_ := Aside0.mk (Kd.N_below (N_g HO557.out) hb); have n2_ := Aside0.mk (Kd.N_below (N_g HO561.out) hb); have n3_ := Aside0.mk (Kd.N_below (N_g HO564.out) hb); have n4_ := Aside0.mk (belt hb); clear HO553; clear HO557; clear HO561; clear HO564; clear HB; have HO553 := n0_; have HO557 := n1_; have HO561 := n2_; have HO564 := n3_; have HB := n4_; clear n0_ n1_ n2_ n3_ n4_; (try clear hb); (try clear hb2); (try clear hk); (try clear hi)))
      go_ret
      exact ⟨by first | rfl | (simp [errW_none, errW_some] <;> rfl) | (simp [*, errW_none, errW_some] <;> rfl), bel⟩
     ·rw [if_neg c25] at H
      have c25b0 : (t566 == t559) = false := beq_eq_false_iff_ne.mpr c25
      have c25b1 : (t566 != t559) = true := bne_iff_ne.mpr c25
      exact absurd ((Option.some.inj H).trans HRT.out) (by decide)
    ·replace c23 := Bool.eq_false_iff.mpr c23
     subst c23
     have H1 : (some false) = some r := by rw [if_neg (show ¬ (false = true) by decide)] at H; exact H
     clear H
     have H := H1
     clear H1
     exact absurd ((Option.some.inj H).trans HRT.out) (by decide)
end Go.Proofs.Ytbfhinfblepidaa.PDecodeTells
