/- Written by a program (this session's own): functions that the law reaches, as plain Lean functions, each with the proof that the code comes to it. No conditions but those that stand in the theorems. -/
import Derived.Test.YtbfhinfblepidaaPq
import Derived.Test.YtbfhinfblepidaaPSolveTellsx
import Derived.Test.YtbfhinfblepidaaPSeedTellsx3
import Derived.Test.YtbfhinfblepidaaPSeedTellsx5
set_option maxHeartbeats 8000000
set_option maxRecDepth 100000
namespace Go.Proofs.Ytbfhinfblepidaa.PSeedTells
open Go.RowKit Go.Proofs.YtbfhinfblepidaaW.PrintWords Go.Proofs.YtbfhinfblepidaaW.PrintLast Go.Proofs.YtbfhinfblepidaaW.PrintMore Go.Proofs.Ytbfhinfblepidaa.PSolveTells
attribute [local go_sem] max2_int min2_int max_two min_two max_three min_three max_four min_four
set_option linter.unusedVariables false
set_option linter.unusedSimpArgs false
mutual
noncomputable def tuple_Parts.j0 : Nat → Int → Int → Bool → Int → Int → Int → Option (List Int)
 | 0, _, _, _, _, _, _ => none
 | k + 1, x1, x2, x34, x206000, x206001, x206002 => if x34 = true then (some ([] : List Int)) else ((params_Params_W.f x206000 x206001 x206002).bind fun t207 => ((random_Rand.f ((wrap64 ((wrap64 (x1 * 65537)) + (wrap64 (x2 * 31)))) % 4294967296) 0 1048576).bind fun t208 => ((random_Degree.f k t208).bind fun t209 => ((random_Rand.f ((wrap64 ((wrap64 (x1 * 65537)) + (wrap64 (x2 * 31)))) % 4294967296) 2 t207).bind fun t210 => (if t207 > 1 then ((random_Rand.f ((wrap64 ((wrap64 (x1 * 65537)) + (wrap64 (x2 * 31)))) % 4294967296) 1 (wrap64 (t207 - 1))).bind fun t211 => (tuple_Parts.j1 k t207 ((wrap64 ((wrap64 (x1 * 65537)) + (wrap64 (x2 * 31)))) % 4294967296) (mn t207 t209) (wrap64 (1 + t211)) t210 x206000 x206001 x206002)) else (tuple_Parts.j1 k t207 ((wrap64 ((wrap64 (x1 * 65537)) + (wrap64 (x2 * 31)))) % 4294967296) (mn t207 t209) 1 t210 x206000 x206001 x206002))))))
noncomputable def tuple_Parts.j1 : Nat → Int → Int → Int → Int → Int → Int → Int → Int → Option (List Int)
 | 0, _, _, _, _, _, _, _, _ => none
 | k + 1, x7, x8, x9, x10, x11, x206000, x206001, x206002 => if 0 ≤ x7 then (if (x7 : Int).toNat ≤ 281474976710656 then (tuple_Parts.l0 k x7 x8 x10 x11 (List.replicate (x7 : Int).toNat false) ([] : List Int) x9 0 x206000 x206001 x206002) else (none)) else (none)
noncomputable def tuple_Parts.l0 : Nat → Int → Int → Int → Int → List Bool → List Int → Int → Int → Int → Int → Int → Option (List Int)
 | 0, _, _, _, _, _, _, _, _, _, _, _ => none
 | k + 1, x7, x8, x10, x11, x12, x13, x61, x62, x206000, x206001, x206002 => if x62 < x61 then (if x7 = 0 then (none) else (tuple_Parts.l1 k x7 x8 x10 x11 x12 x13 (Int.tmod (wrap64 (x11 + (wrap64 (x62 * x10)))) x7) x61 x62 x206000 x206001 x206002)) else ((random_Rand.f x8 3 x206002).bind fun t215 => (if x13.length < 17592186044416 then (some (x13 ++ [wrap64 (x7 + t215)])) else (none)))
noncomputable def tuple_Parts.l1 : Nat → Int → Int → Int → Int → List Bool → List Int → Int → Int → Int → Int → Int → Int → Option (List Int)
 | 0, _, _, _, _, _, _, _, _, _, _, _, _ => none
 | k + 1, x7, x8, x10, x11, x12, x13, x15, x61, x62, x206000, x206001, x206002 => if 0 ≤ x15 then (if x15 < (x12.length : Int) then (if rdOf false x12 x15 = true then (if x7 = 0 then (none) else (tuple_Parts.l1 k x7 x8 x10 x11 x12 x13 (Int.tmod (wrap64 (x15 + 1)) x7) x61 x62 x206000 x206001 x206002)) else (if x13.length < 17592186044416 then (tuple_Parts.l0 k x7 x8 x10 x11 (x12.set (x15 : Int).toNat true) (x13 ++ [x15]) x61 (wrap64 (x62 + 1)) x206000 x206001 x206002) else (none))) else (none)) else (none)
end
noncomputable def tuple_Parts.f (k : Nat) (a0_0 : Int) (a0_1 : Int) (a0_2 : Int) (a1 : Int) (a2 : Int) : Option (List Int) := (params_Params_Right.f a0_0 a0_1 a0_2).bind fun t206 => (if t206 = true then (if a1 < 0 then (tuple_Parts.j0 k a1 a2 true a0_0 a0_1 a0_2) else (if a1 > 255 then (tuple_Parts.j0 k a1 a2 true a0_0 a0_1 a0_2) else (if a2 < 0 then (tuple_Parts.j0 k a1 a2 true a0_0 a0_1 a0_2) else (tuple_Parts.j0 k a1 a2 (decide (a2 ≥ 16777216)) a0_0 a0_1 a0_2)))) else (tuple_Parts.j0 k a1 a2 true a0_0 a0_1 a0_2))
theorem tuple_Parts.calls (k : Nat) (a0_0 : Int) (a0_1 : Int) (a0_2 : Int) (a1 : Int) (a2 : Int) (r : List Int) (w : World) (h : tuple_Parts.f k a0_0 a0_1 a0_2 a1 a2 = some r) :
 Calls Try.prog 104 #[.agg #[.int .i64 a0_0, .int .i64 a0_1, .int .i64 a0_2], .int .i64 a1, .int .i64 a2] w fun e w' => ∃ v0_ : Value, e = .returned (v0_) ∧ Kd.R (Kd.int .i64) 3 w' w.heap.size (fun _ => True) v0_ r ∧ Below w.heap.size w w' := by
 have hu24 := Try.underlying24
 have HB := zA (Below.refl w.heap.size w)
 have H : ((params_Params_Right.f a0_0 a0_1 a0_2).bind fun t206 => (if t206 = true then (if a1 < 0 then (tuple_Parts.j0 k a1 a2 true a0_0 a0_1 a0_2) else (if a1 > 255 then (tuple_Parts.j0 k a1 a2 true a0_0 a0_1 a0_2) else (if a2 < 0 then (tuple_Parts.j0 k a1 a2 true a0_0 a0_1 a0_2) else (tuple_Parts.j0 k a1 a2 (decide (a2 ≥ 16777216)) a0_0 a0_1 a0_2)))) else (tuple_Parts.j0 k a1 a2 true a0_0 a0_1 a0_2))) = some r := h
 clear h
 have HC4 := zA H
 clear H
 go_enter Try.func104, Try.ntmps104
 go_upto_region 1 with (first | ((with_reducible refine gate_dst (N := 3) rfl ?_); refine box_event ?hg (N := 3) ?hd (cs := #[.int .i64 a0_0, .int .i64 a0_1, .int .i64 a0_2]) (t := 24) ?hr ?_; (case hd => rfl); (case hg => rfl); (case hr => first | (go_simp; done) | (go_simp; rfl)); intro gb205 hg w5 hbox hb; have BK205 := zA (hbox); have GW205 := zA ((by rw [hg]; exact bels : w.heap.size ≤ gb205)); have GE205 := zA ((by rw [hg]; exact bels : w.heap.size ≤ gb205)); replace HB := zA (belt hb); clear hb hbox hg))
 (try simp only [Act.put, List.setIfInBounds_toArray, List.set_cons_zero, List.set_cons_succ])
 go_cut [34] (fun v34 wc => ∃ (kq : Nat) (x34_3 : Bool), v34 = .bool x34_3 ∧ Aside0 (tuple_Parts.j0 kq a1 a2 x34_3 a0_0 a0_1 a0_2 = some r) ∧ Aside0 (kq ≤ k) ∧ Aside0 (wc.heap[gb205]? = some (.cells #[.int .i64 a0_0, .int .i64 a0_1, .int .i64 a0_2] 24 (0, 0))) ∧ Aside0 (Below w.heap.size w wc))
 case first =>
  have H := HC4.out
  clear HC4
  replace H := Option.bind_eq_some_iff.mp H
  obtain ⟨t206, A60, H⟩ := H
  try dsimp only at H
  have A6 := zA A60
  clear A60
  by_cases c7 : t206 = true
  ·subst c7
   have H1 : (if a1 < 0 then (tuple_Parts.j0 k a1 a2 true a0_0 a0_1 a0_2) else (if a1 > 255 then (tuple_Parts.j0 k a1 a2 true a0_0 a0_1 a0_2) else (if a2 < 0 then (tuple_Parts.j0 k a1 a2 true a0_0 a0_1 a0_2) else (tuple_Parts.j0 k a1 a2 (decide (a2 ≥ 16777216)) a0_0 a0_1 a0_2)))) = some r := by rw [if_pos rfl] at H; exact H
   clear H
   have H := H1
   clear H1
   by_cases c8 : a1 < 0
   ·rw [if_pos c8] at H
    have c8b0 : decide (a1 < 0) = true := decide_eq_true c8
    clear c8
    (first | rw [c8b0] | (simp only [i64_w, i32_w]; rw [c8b0]) | skip)
    have H' := zA H
    clear H
    obtain ⟨hcz9_0, hcz9_1, hcz9_2, hfz9_0, hfz9_1, hfz9_2⟩ := box3 BK205.out
    go_wp2_with (first | ((with_reducible refine gate_callee (f := 61) rfl ?_); refine goesL_ (some 17) rfl rfl Try.func61 (by kernel_rfl) rfl #[.agg #[.int .i64 a0_0, .int .i64 a0_1, .int .i64 a0_2]] rfl agl ?_; (with_reducible refine (params_Params_Right.calls a0_0 a0_1 a0_2 true _ A6.out).mono ?_); rintro e w10 ⟨rfl, hb⟩; refine ⟨_, rfl, ?_⟩; replace BK205 := zA (blk_below (g := gb205) (o := .cells #[.int .i64 a0_0, .int .i64 a0_1, .int .i64 a0_2] 24 (0, 0)) (blk_g BK205.out) hb); replace HB := zA (belt hb)))
    go_meet
    case rel => exact ⟨_, (true), frs, H', ⟨by first | omega | exact Nat.le_refl _⟩, ⟨rdB BK205.out⟩, ⟨bel⟩⟩
   ·rw [if_neg c8] at H
    have c8b0 : decide (a1 < 0) = false := decide_eq_false c8
    clear c8
    (first | rw [c8b0] | (simp only [i64_w, i32_w]; rw [c8b0]) | skip)
    by_cases c11 : a1 > 255
    ·rw [if_pos c11] at H
     have c11b0 : decide (255 < a1) = true := decide_eq_true c11
     clear c11
     have H' := zA H
     clear H
     obtain ⟨hcz12_0, hcz12_1, hcz12_2, hfz12_0, hfz12_1, hfz12_2⟩ := box3 BK205.out
     go_wp2_with (first | ((with_reducible refine gate_callee (f := 61) rfl ?_); refine goesL_ (some 17) rfl rfl Try.func61 (by kernel_rfl) rfl #[.agg #[.int .i64 a0_0, .int .i64 a0_1, .int .i64 a0_2]] rfl agl ?_; (with_reducible refine (params_Params_Right.calls a0_0 a0_1 a0_2 true _ A6.out).mono ?_); rintro e w13 ⟨rfl, hb⟩; refine ⟨_, rfl, ?_⟩; replace BK205 := zA (blk_below (g := gb205) (o := .cells #[.int .i64 a0_0, .int .i64 a0_1, .int .i64 a0_2] 24 (0, 0)) (blk_g BK205.out) hb); replace HB := zA (belt hb)))
     go_meet
     case rel => exact ⟨_, (true), frs, H', ⟨by first | omega | exact Nat.le_refl _⟩, ⟨rdB BK205.out⟩, ⟨bel⟩⟩
    ·rw [if_neg c11] at H
     have c11b0 : decide (255 < a1) = false := decide_eq_false c11
     clear c11
     by_cases c14 : a2 < 0
     ·rw [if_pos c14] at H
      have c14b0 : decide (a2 < 0) = true := decide_eq_true c14
      clear c14
      have H' := zA H
      clear H
      obtain ⟨hcz15_0, hcz15_1, hcz15_2, hfz15_0, hfz15_1, hfz15_2⟩ := box3 BK205.out
      go_wp2_with (first | ((with_reducible refine gate_callee (f := 61) rfl ?_); refine goesL_ (some 17) rfl rfl Try.func61 (by kernel_rfl) rfl #[.agg #[.int .i64 a0_0, .int .i64 a0_1, .int .i64 a0_2]] rfl agl ?_; (with_reducible refine (params_Params_Right.calls a0_0 a0_1 a0_2 true _ A6.out).mono ?_); rintro e w16 ⟨rfl, hb⟩; refine ⟨_, rfl, ?_⟩; replace BK205 := zA (blk_below (g := gb205) (o := .cells #[.int .i64 a0_0, .int .i64 a0_1, .int .i64 a0_2] 24 (0, 0)) (blk_g BK205.out) hb); replace HB := zA (belt hb)))
      go_meet
      case rel => exact ⟨_, (true), frs, H', ⟨by first | omega | exact Nat.le_refl _⟩, ⟨rdB BK205.out⟩, ⟨bel⟩⟩
     ·rw [if_neg c14] at H
      have c14b0 : decide (a2 < 0) = false := decide_eq_false c14
      clear c14
      have H' := zA H
      clear H
      obtain ⟨hcz17_0, hcz17_1, hcz17_2, hfz17_0, hfz17_1, hfz17_2⟩ := box3 BK205.out
      go_wp2_with (first | ((with_reducible refine gate_callee (f := 61) rfl ?_); refine goesL_ (some 17) rfl rfl Try.func61 (by kernel_rfl) rfl #[.agg #[.int .i64 a0_0, .int .i64 a0_1, .int .i64 a0_2]] rfl agl ?_; (with_reducible refine (params_Params_Right.calls a0_0 a0_1 a0_2 true _ A6.out).mono ?_); rintro e w18 ⟨rfl, hb⟩; refine ⟨_, rfl, ?_⟩; replace BK205 := zA (blk_below (g := gb205) (o := .cells #[.int .i64 a0_0, .int .i64 a0_1, .int .i64 a0_2] 24 (0, 0)) (blk_g BK205.out) hb); replace HB := zA (belt hb)))
      go_meet
      case rel => exact ⟨_, (decide (a2 ≥ 16777216)), frs, H', ⟨by first | omega | exact Nat.le_refl _⟩, ⟨rdB BK205.out⟩, ⟨bel⟩⟩
  ·replace c7 := Bool.eq_false_iff.mpr c7
   subst c7
   have H1 : (tuple_Parts.j0 k a1 a2 true a0_0 a0_1 a0_2) = some r := by rw [if_neg (show ¬ (false = true) by decide)] at H; exact H
   clear H
   have H := H1
   clear H1
   have H' := zA H
   clear H
   obtain ⟨hcz19_0, hcz19_1, hcz19_2, hfz19_0, hfz19_1, hfz19_2⟩ := box3 BK205.out
   go_wp2_with (first | ((with_reducible refine gate_callee (f := 61) rfl ?_); refine goesL_ (some 17) rfl rfl Try.func61 (by kernel_rfl) rfl #[.agg #[.int .i64 a0_0, .int .i64 a0_1, .int .i64 a0_2]] rfl agl ?_; (with_reducible refine (params_Params_Right.calls a0_0 a0_1 a0_2 false _ A6.out).mono ?_); rintro e w20 ⟨rfl, hb⟩; refine ⟨_, rfl, ?_⟩; replace BK205 := zA (blk_below (g := gb205) (o := .cells #[.int .i64 a0_0, .int .i64 a0_1, .int .i64 a0_2] 24 (0, 0)) (blk_g BK205.out) hb); replace HB := zA (belt hb)))
   go_meet
   case rel => exact ⟨_, (true), frs, H', ⟨by first | omega | exact Nat.le_refl _⟩, ⟨rdB BK205.out⟩, ⟨bel⟩⟩
 case rest =>
  clear HC4
  obtain ⟨kq, x34_3, rfl, HA, HJ3, BK205, HB⟩ := hcut
  cases kq with
  | zero => exact absurd HA.out (by simp [tuple_Parts.j0])
  | succ kj3 =>
   have H := HA.out
   clear HA
   simp only [tuple_Parts.j0] at H
   by_cases c21 : x34_3 = true
   ·subst c21
    have H1 : (some ([] : List Int)) = some r := by rw [if_pos rfl] at H; exact H
    clear H
    have H := H1
    clear H1
    obtain rfl := Option.some.inj H
    go_wp2
    go_ret
    exact ⟨_, by first | rfl | (simp [errW_none, errW_some] <;> rfl) | (simp [*, errW_none, errW_some] <;> rfl), by first | exact Kd.R_nil _ _ _ _ _ | exact Kd.N_nil _ _ _ _ _ | exact Kd.V_nil _ _ _ _ _ | exact Kd.Q_nil _ _ _ _ _ | exact Kd.S_nil _ _ _ _ _, bel⟩
   ·replace c21 := Bool.eq_false_iff.mpr c21
    subst c21
    have H1 : ((params_Params_W.f a0_0 a0_1 a0_2).bind fun t207 => ((random_Rand.f ((wrap64 ((wrap64 (a1 * 65537)) + (wrap64 (a2 * 31)))) % 4294967296) 0 1048576).bind fun t208 => ((random_Degree.f kj3 t208).bind fun t209 => ((random_Rand.f ((wrap64 ((wrap64 (a1 * 65537)) + (wrap64 (a2 * 31)))) % 4294967296) 2 t207).bind fun t210 => (if t207 > 1 then ((random_Rand.f ((wrap64 ((wrap64 (a1 * 65537)) + (wrap64 (a2 * 31)))) % 4294967296) 1 (wrap64 (t207 - 1))).bind fun t211 => (tuple_Parts.j1 kj3 t207 ((wrap64 ((wrap64 (a1 * 65537)) + (wrap64 (a2 * 31)))) % 4294967296) (mn t207 t209) (wrap64 (1 + t211)) t210 a0_0 a0_1 a0_2)) else (tuple_Parts.j1 kj3 t207 ((wrap64 ((wrap64 (a1 * 65537)) + (wrap64 (a2 * 31)))) % 4294967296) (mn t207 t209) 1 t210 a0_0 a0_1 a0_2)))))) = some r := by rw [if_neg (show ¬ (false = true) by decide)] at H; exact H
    clear H
    have H := H1
    clear H1
    replace H := Option.bind_eq_some_iff.mp H
    obtain ⟨t207, A220, H⟩ := H
    try dsimp only at H
    have A22 := zA A220
    clear A220
    replace H := Option.bind_eq_some_iff.mp H
    obtain ⟨t208, A230, H⟩ := H
    try dsimp only at H
    have A23 := zA A230
    clear A230
    replace H := Option.bind_eq_some_iff.mp H
    obtain ⟨t209, A240, H⟩ := H
    try dsimp only at H
    have A24 := zA A240
    clear A240
    obtain ⟨ji25, hji25⟩ : ∃ j_ : Int, (mn t207 t209) = j_ := ⟨_, rfl⟩
    replace H : ((random_Rand.f ((wrap64 ((wrap64 (a1 * 65537)) + (wrap64 (a2 * 31)))) % 4294967296) 2 t207).bind fun t210 => (if t207 > 1 then ((random_Rand.f ((wrap64 ((wrap64 (a1 * 65537)) + (wrap64 (a2 * 31)))) % 4294967296) 1 (wrap64 (t207 - 1))).bind fun t211 => (tuple_Parts.j1 kj3 t207 ((wrap64 ((wrap64 (a1 * 65537)) + (wrap64 (a2 * 31)))) % 4294967296) ji25 (wrap64 (1 + t211)) t210 a0_0 a0_1 a0_2)) else (tuple_Parts.j1 kj3 t207 ((wrap64 ((wrap64 (a1 * 65537)) + (wrap64 (a2 * 31)))) % 4294967296) ji25 1 t210 a0_0 a0_1 a0_2))) = some r := by first | (rw [hji25] at H; exact H) | (simp only [hji25] at H ⊢; exact H)
    (try rw [hji25] at A22)
    (try rw [hji25] at A23)
    (try rw [hji25] at A24)
    have hji25_ : (if t209 < t207 then t209 else t207) = ji25 := hji25
    replace H := Option.bind_eq_some_iff.mp H
    obtain ⟨t210, A260, H⟩ := H
    try dsimp only at H
    have A26 := zA A260
    clear A260
    have HC27 := zA H
    clear H
    obtain ⟨hcz28_0, hcz28_1, hcz28_2, hfz28_0, hfz28_1, hfz28_2⟩ := box3 BK205.out
    go_upto_if 52 with (first | ((with_reducible refine gate_callee (f := 23) rfl ?_); refine goesL_ (some 36) rfl rfl Try.func23 (by kernel_rfl) rfl #[.agg #[.int .i64 a0_0, .int .i64 a0_1, .int .i64 a0_2]] rfl agl ?_; (with_reducible refine (params_Params_W.calls a0_0 a0_1 a0_2 t207 _ A22.out).mono ?_); rintro e w29 ⟨rfl, hb⟩; refine ⟨_, rfl, ?_⟩; replace BK205 := zA (blk_below (g := gb205) (o := .cells #[.int .i64 a0_0, .int .i64 a0_1, .int .i64 a0_2] 24 (0, 0)) (blk_g BK205.out) hb); replace HB := zA (belt hb)) | ((with_reducible refine gate_callee (f := 63) rfl ?_); refine goesL_ (some 45) rfl rfl Try.func63 (by kernel_rfl) rfl #[.int .u32 ((wrap64 ((wrap64 (a1 * 65537)) + (wrap64 (a2 * 31)))) % 4294967296), .int .u32 0, .int .i64 1048576] rfl agl ?_; (with_reducible refine (random_Rand.calls ((wrap64 ((wrap64 (a1 * 65537)) + (wrap64 (a2 * 31)))) % 4294967296) 0 1048576 t208 _ A23.out).mono ?_); rintro e w' ⟨rfl, ⟨nd, rfl⟩⟩; refine ⟨_, rfl, ?_⟩) | ((with_reducible refine gate_callee (f := 111) rfl ?_); refine goesL_ (some 46) rfl rfl Try.func111 (by kernel_rfl) rfl #[.int .i64 t208] rfl agl ?_; (with_reducible refine (random_Degree.calls kj3 t208 t209 _ A24.out).mono ?_); rintro e w30 ⟨rfl, hb⟩; refine ⟨_, rfl, ?_⟩; replace BK205 := zA (blk_below (g := gb205) (o := .cells #[.int .i64 a0_0, .int .i64 a0_1, .int .i64 a0_2] 24 (0, 0)) (blk_g BK205.out) hb); replace HB := zA (belt hb)) | ((with_reducible refine gate_callee (f := 63) rfl ?_); refine goesL_ (some 50) rfl rfl Try.func63 (by kernel_rfl) rfl #[.int .u32 ((wrap64 ((wrap64 (a1 * 65537)) + (wrap64 (a2 * 31)))) % 4294967296), .int .u32 2, .int .i64 t207] rfl agl ?_; (with_reducible refine (random_Rand.calls ((wrap64 ((wrap64 (a1 * 65537)) + (wrap64 (a2 * 31)))) % 4294967296) 2 t207 t210 _ A26.out).mono ?_); rintro e w' ⟨rfl, ⟨nd, rfl⟩⟩; refine ⟨_, rfl, ?_⟩))
    (try simp only [Act.put, List.setIfInBounds_toArray, List.set_cons_zero, List.set_cons_succ])
    go_cut [10] (fun v10 wc => ∃ (kq : Nat) (x10_26 : Int), v10 = .int .i64 x10_26 ∧ Aside0 (tuple_Parts.j1 kq t207 ((wrap64 ((wrap64 (a1 * 65537)) + (wrap64 (a2 * 31)))) % 4294967296) ji25 x10_26 t210 a0_0 a0_1 a0_2 = some r) ∧ Aside0 (kq ≤ kj3) ∧ Aside0 (wc.heap[gb205]? = some (.cells #[.int .i64 a0_0, .int .i64 a0_1, .int .i64 a0_2] 24 (0, 0))) ∧ Aside0 (Below w.heap.size w wc))
    case first =>
     have H := HC27.out
     clear HC27
     by_cases c31 : t207 > 1
     ·rw [if_pos c31] at H
      have c31b0 : decide (1 < t207) = true := decide_eq_true c31
      clear c31
      (first | rw [c31b0] | (simp only [i64_w, i32_w]; rw [c31b0]) | skip)
      replace H := Option.bind_eq_some_iff.mp H
      obtain ⟨t211, A320, H⟩ := H
      try dsimp only at H
      have A32 := zA A320
      clear A320
      have H' := zA H
      clear H
      go_wp2_with (first | ((with_reducible refine gate_callee (f := 63) rfl ?_); refine goesL_ (some 57) rfl rfl Try.func63 (by kernel_rfl) rfl #[.int .u32 ((wrap64 ((wrap64 (a1 * 65537)) + (wrap64 (a2 * 31)))) % 4294967296), .int .u32 1, .int .i64 (wrap64 (t207 - 1))] rfl agl ?_; (with_reducible refine (random_Rand.calls ((wrap64 ((wrap64 (a1 * 65537)) + (wrap64 (a2 * 31)))) % 4294967296) 1 (wrap64 (t207 - 1)) t211 _ A32.out).mono ?_); rintro e w' ⟨rfl, ⟨nd, rfl⟩⟩; refine ⟨_, rfl, ?_⟩))
      go_meet
      case rel => exact ⟨_, (wrap64 (1 + t211)), frs, H', ⟨by have := HJ3.out; first | omega | exact Nat.le_refl _⟩, ⟨rdB BK205.out⟩, ⟨bel⟩⟩
     ·rw [if_neg c31] at H
      have c31b0 : decide (1 < t207) = false := decide_eq_false c31
      clear c31
      (first | rw [c31b0] | (simp only [i64_w, i32_w]; rw [c31b0]) | skip)
      have H' := zA H
      clear H
      go_wp2
      go_meet
      case rel => exact ⟨_, (1), frs, H', ⟨by have := HJ3.out; first | omega | exact Nat.le_refl _⟩, ⟨rdB BK205.out⟩, ⟨bel⟩⟩
    case rest =>
     clear HC27
     obtain ⟨kq, x10_26, rfl, HA, HJ26, BK205, HB⟩ := hcut
     cases kq with
     | zero => exact absurd HA.out (by simp [tuple_Parts.j1])
     | succ kj26 =>
      have H := HA.out
      clear HA
      simp only [tuple_Parts.j1] at H
      by_cases c33 : 0 ≤ t207
      ·rw [if_pos c33] at H
       have c33b0 := eq_true c33
       have c33b1 : decide (0 ≤ t207) = true := decide_eq_true c33
       clear c33
       by_cases c34 : (t207 : Int).toNat ≤ 281474976710656
       ·rw [if_pos c34] at H
        have c34b0 := eq_true c34
        have c34b1 : decide ((t207 : Int).toNat ≤ 281474976710656) = true := decide_eq_true c34
        clear c34
        obtain ⟨y212, hy212⟩ : ∃ y_ : List Bool, y_ = (List.replicate (t207 : Int).toNat false) := ⟨_, rfl⟩
        replace H : (tuple_Parts.l0 kj26 t207 ((wrap64 ((wrap64 (a1 * 65537)) + (wrap64 (a2 * 31)))) % 4294967296) x10_26 t210 y212 ([] : List Int) ji25 0 a0_0 a0_1 a0_2) = some r := zC H hy212
        have Ny212 := zA hy212
        clear hy212
        have H' := zA H
        clear H
        go_wp2_with (first | ((with_reducible refine gate_dst (N := 60) rfl ?_); refine Kd.R_make Kd.bool _ 4 rfl (N := 60) rfl 128 _ _ rfl t207 rfl rfl Try.underlying128 (.bool false) 1 info4 rfl (by decide) (by omega) false (ok := fun _ => True) (okp := fun _ => True) rfl (fun _ hk => hk) trivial (of_decide_eq_true asu) (Nat.le_trans (Nat.mul_le_mul_right _ (of_decide_eq_true asu : t207.toNat ≤ 281474976710656)) (by omega)) (Below.refl _ _) (Nat.le_refl _) ?_; intro v213 w35 ho36 hb hg_ hnew_; clear hg_ hnew_; (first | rw [← Ny212.out] at ho36 | (simp only [Int.reduceToNat] at ho36; rw [← Ny212.out] at ho36)); have HO214 := zA (Kd.R_lower ho36 bels); replace BK205 := zA (blk_below (g := gb205) (o := .cells #[.int .i64 a0_0, .int .i64 a0_1, .int .i64 a0_2] 24 (0, 0)) (blk_g BK205.out) hb); replace HB := zA (belt hb); clear hb ho36))
        go_loopg [13, 62] kj26 (fun kq v13 v62 w' => ∃ (x12_3 : List Bool) (x13_3 : List Int) (x62_3 : Int), v62 = .int .i64 x62_3 ∧ Aside0 (tuple_Parts.l0 kq t207 ((wrap64 ((wrap64 (a1 * 65537)) + (wrap64 (a2 * 31)))) % 4294967296) x10_26 t210 x12_3 x13_3 ji25 x62_3 a0_0 a0_1 a0_2 = some r) ∧ Aside0 (kq ≤ kj26) ∧ Aside0 (Kd.R Kd.bool 4 w' w.heap.size (fun _ => True) v213 x12_3) ∧ Aside0 (Kd.R (Kd.int .i64) 3 w' w.heap.size (fun _ => True) v13 x13_3) ∧ Aside0 (w'.heap[gb205]? = some (.cells #[.int .i64 a0_0, .int .i64 a0_1, .int .i64 a0_2] 24 (0, 0))) ∧ Aside0 (Below w.heap.size w w'))
        case atStart => exact ⟨(y212), (([] : List Int)), (0), frs, H', ⟨Nat.le_refl _⟩, ⟨rdR HO214.out⟩, ⟨by first | exact Kd.R_nil _ _ _ _ _ | exact Kd.N_nil _ _ _ _ _ | exact Kd.V_nil _ _ _ _ _ | exact Kd.Q_nil _ _ _ _ _ | exact Kd.S_nil _ _ _ _ _⟩, ⟨rdB BK205.out⟩, ⟨bel⟩⟩
        case round =>
         clear H'
         obtain ⟨x12_3, x13_3, x62_3, rfl, HA, HK3, HO_12, HO_13, BK205, HB⟩ := hrel
         cases gk with
         | zero => exact absurd HA.out (by simp [tuple_Parts.l0])
         | succ k3 =>
          have H := HA.out
          clear HA
          simp only [tuple_Parts.l0] at H
          by_cases c37 : x62_3 < ji25
          ·rw [if_pos c37] at H
           have c37b0 : decide (x62_3 < ji25) = true := decide_eq_true c37
           clear c37
           by_cases c38 : t207 = 0
           ·rw [if_pos c38] at H
            exact absurd H (by simp)
           ·rw [if_neg c38] at H
            have c38b0 : (t207 == 0) = false := beq_eq_false_iff_ne.mpr c38
            have c38b1 : (t207 != 0) = true := bne_iff_ne.mpr c38
            have H' := zA H
            clear H
            go_wp2
            go_loopg [15] k3 (fun kq v15 w' => ∃ (x15_4 : Int), v15 = .int .i64 x15_4 ∧ Aside0 (tuple_Parts.l1 kq t207 ((wrap64 ((wrap64 (a1 * 65537)) + (wrap64 (a2 * 31)))) % 4294967296) x10_26 t210 x12_3 x13_3 x15_4 ji25 x62_3 a0_0 a0_1 a0_2 = some r) ∧ Aside0 (kq ≤ k3) ∧ Aside0 (Kd.R Kd.bool 4 w' w.heap.size (fun _ => True) v213 x12_3) ∧ Aside0 (Kd.R (Kd.int .i64) 3 w' w.heap.size (fun _ => True) u13 x13_3) ∧ Aside0 (w'.heap[gb205]? = some (.cells #[.int .i64 a0_0, .int .i64 a0_1, .int .i64 a0_2] 24 (0, 0))) ∧ Aside0 (Below w.heap.size w w'))
            case atStart => exact ⟨(Int.tmod (wrap64 (t210 + (wrap64 (x62_3 * x10_26)))) t207), frs, H', ⟨Nat.le_refl _⟩, ⟨rdR HO_12.out⟩, ⟨rdR HO_13.out⟩, ⟨rdB BK205.out⟩, ⟨bel⟩⟩
            case round =>
             clear H'
             obtain ⟨x15_4, rfl, HA, HK4, HO_12, HO_13, BK205, HB⟩ := hrel
             cases gk with
             | zero => exact absurd HA.out (by simp [tuple_Parts.l1])
             | succ k4 =>
              have H := HA.out
              clear HA
              simp only [tuple_Parts.l1] at H
              by_cases c39 : 0 ≤ x15_4
              ·rw [if_pos c39] at H
               have c39b0 : decide (0 ≤ x15_4) = true := decide_eq_true c39
               clear c39
               by_cases c40 : x15_4 < (x12_3.length : Int)
               ·rw [if_pos c40] at H
                have c40b0 : decide (x15_4 < (x12_3.length : Int)) = true := decide_eq_true c40
                clear c40
                obtain ⟨bq41, hbq41⟩ : ∃ b_ : Bool, b_ = (rdOf false x12_3 x15_4) := ⟨_, rfl⟩
                replace H : (if bq41 = true then (if t207 = 0 then (none) else (tuple_Parts.l1 k4 t207 ((wrap64 ((wrap64 (a1 * 65537)) + (wrap64 (a2 * 31)))) % 4294967296) x10_26 t210 x12_3 x13_3 (Int.tmod (wrap64 (x15_4 + 1)) t207) ji25 x62_3 a0_0 a0_1 a0_2)) else (if x13_3.length < 17592186044416 then (tuple_Parts.l0 k4 t207 ((wrap64 ((wrap64 (a1 * 65537)) + (wrap64 (a2 * 31)))) % 4294967296) x10_26 t210 (x12_3.set (x15_4 : Int).toNat true) (x13_3 ++ [x15_4]) ji25 (wrap64 (x62_3 + 1)) a0_0 a0_1 a0_2) else (none))) = some r := by rw [← hbq41] at H; exact H
                have Nbq41 := zA hbq41
                clear hbq41
                by_cases c42 : bq41 = true
                ·subst c42
                 have H1 : (if t207 = 0 then (none) else (tuple_Parts.l1 k4 t207 ((wrap64 ((wrap64 (a1 * 65537)) + (wrap64 (a2 * 31)))) % 4294967296) x10_26 t210 x12_3 x13_3 (Int.tmod (wrap64 (x15_4 + 1)) t207) ji25 x62_3 a0_0 a0_1 a0_2)) = some r := by rw [if_pos rfl] at H; exact H
                 clear H
                 have H := H1
                 clear H1
                 by_cases c43 : t207 = 0
                 ·rw [if_pos c43] at H
                  exact absurd H (by simp)
                 ·rw [if_neg c43] at H
                  have c43b0 : (t207 == 0) = false := beq_eq_false_iff_ne.mpr c43
                  have c43b1 : (t207 != 0) = true := bne_iff_ne.mpr c43
                  have H' := zA H
                  clear H
                  obtain ⟨Ao44, co44, eo44⟩ := Kd.R_slice HO_12.out
                  subst eo44
                  have p219 : 0 ≤ (x15_4 : Int) := of_decide_eq_true asu
                  have q219 : x15_4 < (x12_3.length : Int) := of_decide_eq_true asu
                  obtain ⟨ad219, e219, hx219_0⟩ := Kd.at_bool (Kd.R_reads' HO_12.out).2.2 x15_4 p219 q219
                  (try rw [← Nbq41.out] at hx219_0)
                  cases e219
                  replace p219 := eq_true p219
                  replace q219 := eq_true q219
                  go_wp2
                  go_roundg k4
                  case measure => have := HJ3.out; have := HJ26.out; have := HK3.out; have := HK4.out; omega
                  case rel => exact ⟨(Int.tmod (wrap64 (x15_4 + 1)) t207), frs, H', ⟨by have := HJ3.out; have := HJ26.out; have := HK3.out; have := HK4.out; omega⟩, ⟨rdR HO_12.out⟩, ⟨rdR HO_13.out⟩, ⟨rdB BK205.out⟩, ⟨bel⟩⟩
                ·replace c42 := Bool.eq_false_iff.mpr c42
                 subst c42
                 have H1 : (if x13_3.length < 17592186044416 then (tuple_Parts.l0 k4 t207 ((wrap64 ((wrap64 (a1 * 65537)) + (wrap64 (a2 * 31)))) % 4294967296) x10_26 t210 (x12_3.set (x15_4 : Int).toNat true) (x13_3 ++ [x15_4]) ji25 (wrap64 (x62_3 + 1)) a0_0 a0_1 a0_2) else (none)) = some r := by rw [if_neg (show ¬ (false = true) by decide)] at H; exact H
                 clear H
                 have H := H1
                 clear H1
                 obtain ⟨y220, hy220⟩ : ∃ y_ : List Bool, y_ = (x12_3.set (x15_4 : Int).toNat true) := ⟨_, rfl⟩
                 replace H : (if x13_3.length < 17592186044416 then (tuple_Parts.l0 k4 t207 ((wrap64 ((wrap64 (a1 * 65537)) + (wrap64 (a2 * 31)))) % 4294967296) x10_26 t210 y220 (x13_3 ++ [x15_4]) ji25 (wrap64 (x62_3 + 1)) a0_0 a0_1 a0_2) else (none)) = some r := zC H hy220
                 have Ny220 := zA hy220
                 clear hy220
                 by_cases c46 : x13_3.length < 17592186044416
                 ·rw [if_pos c46] at H
                  have LMc46 := zA c46
                  clear c46
                  obtain ⟨y221, hy221⟩ : ∃ y_ : List Int, y_ = (x13_3 ++ [x15_4]) := ⟨_, rfl⟩
                  replace H : (tuple_Parts.l0 k4 t207 ((wrap64 ((wrap64 (a1 * 65537)) + (wrap64 (a2 * 31)))) % 4294967296) x10_26 t210 y220 y221 ji25 (wrap64 (x62_3 + 1)) a0_0 a0_1 a0_2) = some r := zC H hy221
                  have Ny221 := zA hy221
                  clear hy221
                  have H' := zA H
                  clear H
                  obtain ⟨Ao47, co47, eo47⟩ := Kd.R_slice HO_12.out
                  subst eo47
                  have p219 : 0 ≤ (x15_4 : Int) := of_decide_eq_true asu
                  have q219 : x15_4 < (x12_3.length : Int) := of_decide_eq_true asu
                  obtain ⟨ad219, e219, hx219_0⟩ := Kd.at_bool (Kd.R_reads' HO_12.out).2.2 x15_4 p219 q219
                  (try rw [← Nbq41.out] at hx219_0)
                  cases e219
                  replace p219 := eq_true p219
                  replace q219 := eq_true q219
                  have p45 : 0 ≤ (x15_4 : Int) := of_decide_eq_true asu
                  have q45 : (x15_4 : Int) < ((x12_3.length : Int) : Int) := of_decide_eq_true asu
                  obtain ⟨go45, co45, eo45, gb45, gl45, cl45, HG45⟩ := Kd.R_form HO_12.out (by omega)
                  (first | cases eo45 | (injection eo45 with ea_ en_ ec_; (first | subst ea_ | (injection ea_ with ea_; subst ea_)); subst ec_; clear en_))
                  have GB45 := zA gb45
                  have GG45 := zA HG45
                  clear gb45 gl45 HG45
                  (first | simp only [add_plain] at hx219_0 | skip)
                  obtain ⟨hx45_0, hf45_0⟩ := Kd.R_celln false HO_12.out (x15_4 : Int) p45 q45
                  replace p45 := eq_true p45
                  replace q45 := eq_true q45
                  have HP48 := Kd.R_putg HO_12.out (x15_4 : Int) true
                  go_wp2_with (first | ((with_reducible refine gate_store (t := 4) (p := 82) rfl ?_); refine store_event (t := 4) (p := 82) (v := ?vo_w49) (w1 := (wr.setCell ⟨go45, (x15_4 : Int).toNat, none⟩ (.bool true))) ?hg ?ho ?hn ?hr ?_; (case ho => rfl); (case hg => rfl); (case hn => rfl); (case hr => first | (go_simp; done) | (go_simp; rfl)); intro w49 hw; have hg : wr.grownBy w49 (some go45) := (by rw [hw]; exact HP48.2); have hp_ : Kd.R Kd.bool 4 w49 w.heap.size (fun _ => True) (.slice (some ⟨go45, 0, none⟩) x12_3.length co47) y220 := (by rw [hw, Ny220.out]; exact HP48.1); clear HP48; replace HO_13 := zA (Kd.R_over' (v := (.slice (some ⟨go45, 0, none⟩) x12_3.length co47)) (R_g HO_13.out) (Kd.R_typed HO_12.out) (by decide) hg); replace BK205 := zA (blk_grown (g := gb205) (o := .cells #[.int .i64 a0_0, .int .i64 a0_1, .int .i64 a0_2] 24 (0, 0)) (blk_g BK205.out) hg (Kd.R_ne HO_12.out BK205.out (by decide))); replace HO_12 := zA (hp_); replace HB := zA ((by rw [hw]; exact below_set (HB.out) GB45.out : Below w.heap.size w w49)); clear hg hw hp_) | ((with_reducible refine gate_builtin (b := .append) (xs := #[.tmp 83, .tmp 85]) rfl ?_); at_builtin; refine Kd.R_append (Kd.int .i64) (w0 := w) w.heap.size rfl (.tmp 83) (.tmp 85) 51 3 (.int .i64 0) 8 rfl Try.underlying51 info3 rfl (by decide) (by omega) u13 x13_3 x15_4 [.int .i64 x15_4] (fun _ => True) (fun _ => False) rfl rfl ?aP (fun _ hk => hk.elim) ?aF ?aO ?aB ?aS ?aL ?_; (case aP => exact rfl); (case aB => exact bel); (case aF => exact (fun _ _ => trivial)); (case aO => exact (R_g HO_13.out)); (case aS => exact bels); (case aL => have := LMc46.out; omega); intro v222 w50 ho hb hg hat; rw [← Ny221.out] at ho; replace HO_12 := zA (Kd.R_over' (R_g HO_12.out) (Kd.R_typed (R_g HO_13.out)) (by decide) hg); replace BK205 := zA (blk_grown (g := gb205) (o := .cells #[.int .i64 a0_0, .int .i64 a0_1, .int .i64 a0_2] 24 (0, 0)) (blk_g BK205.out) hg (Kd.R_ne HO_13.out BK205.out (by decide))); replace HB := zA (hb); have HO223 := zA (ho); clear HO_13; clear ho hb hg hat))
                  go_roundg k4
                  case measure => have := HJ3.out; have := HJ26.out; have := HK3.out; have := HK4.out; omega
                  case rel => exact ⟨(y220), (y221), (wrap64 (x62_3 + 1)), frs, H', ⟨by have := HJ3.out; have := HJ26.out; have := HK3.out; have := HK4.out; omega⟩, ⟨rdR HO_12.out⟩, ⟨rdR HO223.out⟩, ⟨rdB BK205.out⟩, ⟨bel⟩⟩
                 ·rw [if_neg c46] at H
                  exact absurd H (by simp)
               ·rw [if_neg c40] at H
                exact absurd H (by simp)
              ·rw [if_neg c39] at H
               exact absurd H (by simp)
          ·rw [if_neg c37] at H
           have c37b0 : decide (x62_3 < ji25) = false := decide_eq_false c37
           clear c37
           replace H := Option.bind_eq_some_iff.mp H
           obtain ⟨t215, A510, H⟩ := H
           try dsimp only at H
           have A51 := zA A510
           clear A510
           by_cases c52 : x13_3.length < 17592186044416
           ·rw [if_pos c52] at H
            have LMc52 := zA c52
            clear c52
            obtain ⟨y216, hy216⟩ : ∃ y_ : List Int, y_ = (x13_3 ++ [wrap64 (t207 + t215)]) := ⟨_, rfl⟩
            replace H : (some y216) = some r := zC H hy216
            have Ny216 := zA hy216
            clear hy216
            obtain rfl := Option.some.inj H
            obtain ⟨hcz53_0, hcz53_1, hcz53_2, hfz53_0, hfz53_1, hfz53_2⟩ := box3 BK205.out
            go_wp2_with (first | ((with_reducible refine gate_callee (f := 63) rfl ?_); refine goesL_ (some 93) rfl rfl Try.func63 (by kernel_rfl) rfl #[.int .u32 ((wrap64 ((wrap64 (a1 * 65537)) + (wrap64 (a2 * 31)))) % 4294967296), .int .u32 3, .int .i64 a0_2] rfl agl ?_; (with_reducible refine (random_Rand.calls ((wrap64 ((wrap64 (a1 * 65537)) + (wrap64 (a2 * 31)))) % 4294967296) 3 a0_2 t215 _ A51.out).mono ?_); rintro e w' ⟨rfl, ⟨nd, rfl⟩⟩; refine ⟨_, rfl, ?_⟩) | ((with_reducible refine gate_builtin (b := .append) (xs := #[.tmp 88, .tmp 95]) rfl ?_); at_builtin; refine Kd.R_append (Kd.int .i64) (w0 := w) w.heap.size rfl (.tmp 88) (.tmp 95) 51 3 (.int .i64 0) 8 rfl Try.underlying51 info3 rfl (by decide) (by omega) u13 x13_3 (wrap64 (t207 + t215)) [.int .i64 (wrap64 (t207 + t215))] (fun _ => True) (fun _ => False) rfl rfl ?aP (fun _ hk => hk.elim) ?aF ?aO ?aB ?aS ?aL ?_; (case aP => exact rfl); (case aB => exact bel); (case aF => exact (fun _ _ => trivial)); (case aO => exact (R_g HO_13.out)); (case aS => exact bels); (case aL => have := LMc52.out; omega); intro v217 w54 ho hb hg hat; rw [← Ny216.out] at ho; replace HO_12 := zA (Kd.R_over' (R_g HO_12.out) (Kd.R_typed (R_g HO_13.out)) (by decide) hg); replace BK205 := zA (blk_grown (g := gb205) (o := .cells #[.int .i64 a0_0, .int .i64 a0_1, .int .i64 a0_2] 24 (0, 0)) (blk_g BK205.out) hg (Kd.R_ne HO_13.out BK205.out (by decide))); replace HB := zA (hb); have HO218 := zA (ho); clear HO_13; clear ho hb hg hat))
            go_ret
            exact ⟨_, by first | rfl | (simp [errW_none, errW_some] <;> rfl) | (simp only [← hji25]; first | rfl | (simp [errW_none, errW_some] <;> rfl)) | (simp [*, errW_none, errW_some] <;> rfl), rdR HO218.out, bel⟩
           ·rw [if_neg c52] at H
            exact absurd H (by simp)
       ·rw [if_neg c34] at H
        exact absurd H (by simp)
      ·rw [if_neg c33] at H
       exact absurd H (by simp)
end Go.Proofs.Ytbfhinfblepidaa.PSeedTells
namespace Go.Proofs.Ytbfhinfblepidaa.PSeedTells
open Go.RowKit Go.Proofs.YtbfhinfblepidaaW.PrintWords Go.Proofs.YtbfhinfblepidaaW.PrintLast Go.Proofs.YtbfhinfblepidaaW.PrintMore Go.Proofs.Ytbfhinfblepidaa.PSolveTells
attribute [local go_sem] max2_int min2_int max_two min_two max_three min_three max_four min_four
set_option linter.unusedVariables false
set_option linter.unusedSimpArgs false
noncomputable def tuple_Row.l0 : Nat → List Int → List Int → Int → Int → Option (List Int)
 | 0, _, _, _, _ => none
 | k + 1, x8, x21, x22, x23 => if x23 < x22 then (if 0 ≤ x23 then (if x23 < (x21.length : Int) then (if 0 ≤ (rd x21 x23) then (if (rd x21 x23) < (x8.length : Int) then (tuple_Row.l0 k (x8.set ((rd x21 x23) : Int).toNat 1) x21 x22 (wrap64 (x23 + 1))) else (none)) else (none)) else (none)) else (none)) else (some x8)
noncomputable def tuple_Row.f (k : Nat) (a0_0 : Int) (a0_1 : Int) (a0_2 : Int) (a1 : Int) (a2 : Int) : Option (List Int) := (tuple_Parts.f k a0_0 a0_1 a0_2 a1 a2).bind fun t225 => (if (t225.length : Int) = 0 then (some ([] : List Int)) else ((params_Params_L.f a0_0 a0_1 a0_2).bind fun t228 => (if 0 ≤ t228 then (if (t228 : Int).toNat ≤ 281474976710656 then (tuple_Row.l0 k (List.replicate (t228 : Int).toNat 0) t225 (t225.length : Int) 0) else (none)) else (none))))
theorem tuple_Row.calls (k : Nat) (a0_0 : Int) (a0_1 : Int) (a0_2 : Int) (a1 : Int) (a2 : Int) (r : List Int) (w : World) (h : tuple_Row.f k a0_0 a0_1 a0_2 a1 a2 = some r) :
 Calls Try.prog 76 #[.agg #[.int .i64 a0_0, .int .i64 a0_1, .int .i64 a0_2], .int .i64 a1, .int .i64 a2] w fun e w' => ∃ v0_ : Value, e = .returned (v0_) ∧ Kd.R (Kd.int .u8) 5 w' w.heap.size (fun _ => True) v0_ r ∧ Below w.heap.size w w' := by
 have hu24 := Try.underlying24
 have HB := zA (Below.refl w.heap.size w)
 have H : ((tuple_Parts.f k a0_0 a0_1 a0_2 a1 a2).bind fun t225 => (if (t225.length : Int) = 0 then (some ([] : List Int)) else ((params_Params_L.f a0_0 a0_1 a0_2).bind fun t228 => (if 0 ≤ t228 then (if (t228 : Int).toNat ≤ 281474976710656 then (tuple_Row.l0 k (List.replicate (t228 : Int).toNat 0) t225 (t225.length : Int) 0) else (none)) else (none))))) = some r := h
 clear h
 replace H := Option.bind_eq_some_iff.mp H
 obtain ⟨t225, A40, H⟩ := H
 try dsimp only at H
 have A4 := zA A40
 clear A40
 by_cases c5 : (t225.length : Int) = 0
 ·rw [if_pos c5] at H
  have c5b0 : ((t225.length : Int) == 0) = true := beq_iff_eq.mpr c5
  have c5b1 : ((t225.length : Int) != 0) = false := bne_eq_false_iff_eq.mpr c5
  clear c5
  obtain rfl := Option.some.inj H
  go_enter Try.func76, Try.ntmps76
  go_wp2_with (first | ((with_reducible refine gate_dst (N := 3) rfl ?_); refine box_event ?hg (N := 3) ?hd (cs := #[.int .i64 a0_0, .int .i64 a0_1, .int .i64 a0_2]) (t := 24) ?hr ?_; (case hd => rfl); (case hg => rfl); (case hr => first | (go_simp; done) | (go_simp; rfl)); intro gb224 hg w6 hbox hb; have BK224 := zA (hbox); have GW224 := zA ((by rw [hg]; exact bels : w.heap.size ≤ gb224)); have GE224 := zA ((by rw [hg]; exact bels : w.heap.size ≤ gb224)); replace HB := zA (belt hb); clear hb hbox hg; obtain ⟨hcz7_0, hcz7_1, hcz7_2, hfz7_0, hfz7_1, hfz7_2⟩ := box3 BK224.out) | ((with_reducible refine gate_callee (f := 104) rfl ?_); refine goesL_ (some 14) rfl rfl Try.func104 (by kernel_rfl) rfl #[.agg #[.int .i64 a0_0, .int .i64 a0_1, .int .i64 a0_2], .int .i64 a1, .int .i64 a2] rfl agl ?_; (with_reducible refine (tuple_Parts.calls k a0_0 a0_1 a0_2 a1 a2 t225 _ A4.out).mono ?_); rintro e w8 ⟨v226, rfl, ho0, hb⟩; refine ⟨_, rfl, ?_⟩; have HO227 := zA (Kd.R_lower ho0 bels); replace BK224 := zA (blk_below (g := gb224) (o := .cells #[.int .i64 a0_0, .int .i64 a0_1, .int .i64 a0_2] 24 (0, 0)) (blk_g BK224.out) hb); replace HB := zA (belt hb); obtain ⟨Ao9, co9, eo9⟩ := Kd.R_slice HO227.out; subst eo9))
  go_ret
  exact ⟨_, by first | rfl | (simp [errW_none, errW_some] <;> rfl) | (simp [*, errW_none, errW_some] <;> rfl), by first | exact Kd.R_nil _ _ _ _ _ | exact Kd.N_nil _ _ _ _ _ | exact Kd.V_nil _ _ _ _ _ | exact Kd.Q_nil _ _ _ _ _ | exact Kd.S_nil _ _ _ _ _, bel⟩
 ·rw [if_neg c5] at H
  have c5b0 : ((t225.length : Int) == 0) = false := beq_eq_false_iff_ne.mpr c5
  have c5b1 : ((t225.length : Int) != 0) = true := bne_iff_ne.mpr c5
  have c5b2 : ¬ (t225 = []) := fun h_ => c5 (by rw [h_]; rfl)
  replace H := Option.bind_eq_some_iff.mp H
  obtain ⟨t228, A100, H⟩ := H
  try dsimp only at H
  have A10 := zA A100
  clear A100
  by_cases c11 : 0 ≤ t228
  ·rw [if_pos c11] at H
   have c11b0 := eq_true c11
   have c11b1 : decide (0 ≤ t228) = true := decide_eq_true c11
   clear c11
   by_cases c12 : (t228 : Int).toNat ≤ 281474976710656
   ·rw [if_pos c12] at H
    have c12b0 := eq_true c12
    have c12b1 : decide ((t228 : Int).toNat ≤ 281474976710656) = true := decide_eq_true c12
    clear c12
    obtain ⟨y229, hy229⟩ : ∃ y_ : List Int, y_ = (List.replicate (t228 : Int).toNat 0) := ⟨_, rfl⟩
    replace H : (tuple_Row.l0 k y229 t225 (t225.length : Int) 0) = some r := zC H hy229
    have Ny229 := zA hy229
    clear hy229
    have H' := zA H
    clear H
    go_enter Try.func76, Try.ntmps76
    go_wp2_with (first | ((with_reducible refine gate_dst (N := 3) rfl ?_); refine box_event ?hg (N := 3) ?hd (cs := #[.int .i64 a0_0, .int .i64 a0_1, .int .i64 a0_2]) (t := 24) ?hr ?_; (case hd => rfl); (case hg => rfl); (case hr => first | (go_simp; done) | (go_simp; rfl)); intro gb224 hg w13 hbox hb; have BK224 := zA (hbox); have GW224 := zA ((by rw [hg]; exact bels : w.heap.size ≤ gb224)); have GE224 := zA ((by rw [hg]; exact bels : w.heap.size ≤ gb224)); replace HB := zA (belt hb); clear hb hbox hg; obtain ⟨hcz14_0, hcz14_1, hcz14_2, hfz14_0, hfz14_1, hfz14_2⟩ := box3 BK224.out) | ((with_reducible refine gate_callee (f := 104) rfl ?_); refine goesL_ (some 14) rfl rfl Try.func104 (by kernel_rfl) rfl #[.agg #[.int .i64 a0_0, .int .i64 a0_1, .int .i64 a0_2], .int .i64 a1, .int .i64 a2] rfl agl ?_; (with_reducible refine (tuple_Parts.calls k a0_0 a0_1 a0_2 a1 a2 t225 _ A4.out).mono ?_); rintro e w15 ⟨v226, rfl, ho0, hb⟩; refine ⟨_, rfl, ?_⟩; have HO227 := zA (Kd.R_lower ho0 bels); replace BK224 := zA (blk_below (g := gb224) (o := .cells #[.int .i64 a0_0, .int .i64 a0_1, .int .i64 a0_2] 24 (0, 0)) (blk_g BK224.out) hb); replace HB := zA (belt hb); obtain ⟨Ao16, co16, eo16⟩ := Kd.R_slice HO227.out; subst eo16; obtain ⟨hcz17_0, hcz17_1, hcz17_2, hfz17_0, hfz17_1, hfz17_2⟩ := box3 BK224.out) | ((with_reducible refine gate_callee (f := 22) rfl ?_); refine goesL_ (some 19) rfl rfl Try.func22 (by kernel_rfl) rfl #[.agg #[.int .i64 a0_0, .int .i64 a0_1, .int .i64 a0_2]] rfl agl ?_; (with_reducible refine (params_Params_L.calls a0_0 a0_1 a0_2 t228 _ A10.out).mono ?_); rintro e w18 ⟨rfl, hb⟩; refine ⟨_, rfl, ?_⟩; replace HO227 := zA (Kd.R_below (R_g HO227.out) hb); replace BK224 := zA (blk_below (g := gb224) (o := .cells #[.int .i64 a0_0, .int .i64 a0_1, .int .i64 a0_2] 24 (0, 0)) (blk_g BK224.out) hb); replace HB := zA (belt hb)) | ((with_reducible refine gate_dst (N := 20) rfl ?_); refine Kd.R_make (Kd.int .u8) _ 5 rfl (N := 20) rfl 31 _ _ rfl t228 rfl rfl Try.underlying31 (.int .u8 0) 1 info5 rfl (by decide) (by omega) 0 (ok := fun _ => True) (okp := fun _ => True) rfl (fun _ hk => hk) trivial (of_decide_eq_true asu) (Nat.le_trans (Nat.mul_le_mul_right _ (of_decide_eq_true asu : t228.toNat ≤ 281474976710656)) (by omega)) (Below.refl _ _) (Nat.le_refl _) ?_; intro v230 w19 ho20 hb hg_ hnew_; clear hg_ hnew_; (first | rw [← Ny229.out] at ho20 | (simp only [Int.reduceToNat] at ho20; rw [← Ny229.out] at ho20)); replace HO227 := zA (Kd.R_below (R_g HO227.out) hb); have HO231 := zA (Kd.R_lower ho20 bels); replace BK224 := zA (blk_below (g := gb224) (o := .cells #[.int .i64 a0_0, .int .i64 a0_1, .int .i64 a0_2] 24 (0, 0)) (blk_g BK224.out) hb); replace HB := zA (belt hb); clear hb ho20))
    go_loopg [23] k (fun kq v23 w' => ∃ (x8_1 : List Int) (x23_1 : Int), v23 = .int .i64 x23_1 ∧ Aside0 (tuple_Row.l0 kq x8_1 t225 (t225.length : Int) x23_1 = some r) ∧ Aside0 (kq ≤ k) ∧ Aside0 (Kd.R (Kd.int .u8) 5 w' w.heap.size (fun _ => True) v230 x8_1) ∧ Aside0 (Kd.R (Kd.int .i64) 3 w' w.heap.size (fun _ => True) (.slice Ao16 t225.length co16) t225) ∧ Aside0 (w'.heap[gb224]? = some (.cells #[.int .i64 a0_0, .int .i64 a0_1, .int .i64 a0_2] 24 (0, 0))) ∧ Aside0 (Below w.heap.size w w'))
    case atStart => exact ⟨(y229), (0), frs, H', ⟨Nat.le_refl _⟩, ⟨rdR HO231.out⟩, ⟨rdR HO227.out⟩, ⟨rdB BK224.out⟩, ⟨bel⟩⟩
    case round =>
     clear H'
     obtain ⟨x8_1, x23_1, rfl, HA, HK1, HO_8, HO_21, BK224, HB⟩ := hrel
     cases gk with
     | zero => exact absurd HA.out (by simp [tuple_Row.l0])
     | succ k1 =>
      have H := HA.out
      clear HA
      simp only [tuple_Row.l0] at H
      by_cases c21 : x23_1 < (t225.length : Int)
      ·rw [if_pos c21] at H
       have c21b0 : decide (x23_1 < (t225.length : Int)) = true := decide_eq_true c21
       clear c21
       by_cases c22 : 0 ≤ x23_1
       ·rw [if_pos c22] at H
        have c22b0 : decide (0 ≤ x23_1) = true := decide_eq_true c22
        clear c22
        by_cases c23 : x23_1 < (t225.length : Int)
        ·rw [if_pos c23] at H
         have c23b0 : decide (x23_1 < (t225.length : Int)) = true := decide_eq_true c23
         clear c23
         by_cases c24 : 0 ≤ (rd t225 x23_1)
         ·rw [if_pos c24] at H
          have c24b0 : decide (0 ≤ (rd t225 x23_1)) = true := decide_eq_true c24
          clear c24
          by_cases c25 : (rd t225 x23_1) < (x8_1.length : Int)
          ·rw [if_pos c25] at H
           have c25b0 : decide ((rd t225 x23_1) < (x8_1.length : Int)) = true := decide_eq_true c25
           clear c25
           obtain ⟨y233, hy233⟩ : ∃ y_ : List Int, y_ = (x8_1.set ((rd t225 x23_1) : Int).toNat 1) := ⟨_, rfl⟩
           replace H : (tuple_Row.l0 k1 y233 t225 (t225.length : Int) (wrap64 (x23_1 + 1))) = some r := zC H hy233
           have Ny233 := zA hy233
           clear hy233
           have H' := zA H
           clear H
           have p232 : 0 ≤ (x23_1 : Int) := of_decide_eq_true asu
           have q232 : x23_1 < (t225.length : Int) := of_decide_eq_true asu
           obtain ⟨ad232, e232, hx232_0⟩ := Kd.at_int (Kd.R_reads' HO_21.out).2.2 x23_1 p232 q232
           cases e232
           replace p232 := eq_true p232
           replace q232 := eq_true q232
           have p26 : 0 ≤ ((rd t225 x23_1) : Int) := of_decide_eq_true asu
           have q26 : ((rd t225 x23_1) : Int) < ((x8_1.length : Int) : Int) := of_decide_eq_true asu
           obtain ⟨go26, co26, eo26, gb26, gl26, cl26, HG26⟩ := Kd.R_form HO_8.out (by omega)
           (first | cases eo26 | (injection eo26 with ea_ en_ ec_; (first | subst ea_ | (injection ea_ with ea_; subst ea_)); subst ec_; clear en_))
           have GB26 := zA gb26
           have GG26 := zA HG26
           clear gb26 gl26 HG26
           obtain ⟨hx26_0, hf26_0⟩ := Kd.R_celln 0 HO_8.out ((rd t225 x23_1) : Int) p26 q26
           replace p26 := eq_true p26
           replace q26 := eq_true q26
           have HP27 := Kd.R_putg HO_8.out ((rd t225 x23_1) : Int) 1
           go_wp2_with (first | ((with_reducible refine gate_store (t := 5) (p := 29) rfl ?_); refine store_event (t := 5) (p := 29) (v := ?vo_w28) (w1 := (wr.setCell ⟨go26, ((rd t225 x23_1) : Int).toNat, none⟩ (.int .u8 1))) ?hg ?ho ?hn ?hr ?_; (case ho => rfl); (case hg => rfl); (case hn => rfl); (case hr => first | (go_simp; done) | (go_simp; rfl)); intro w28 hw; have hg : wr.grownBy w28 (some go26) := (by rw [hw]; exact HP27.2); have hp_ : Kd.R (Kd.int .u8) 5 w28 w.heap.size (fun _ => True) (.slice (some ⟨go26, 0, none⟩) x8_1.length co26) y233 := (by rw [hw, Ny233.out]; exact HP27.1); clear HP27; replace HO_21 := zA (Kd.R_over' (v := (.slice (some ⟨go26, 0, none⟩) x8_1.length co26)) (R_g HO_21.out) (Kd.R_typed HO_8.out) (by decide) hg); replace BK224 := zA (blk_grown (g := gb224) (o := .cells #[.int .i64 a0_0, .int .i64 a0_1, .int .i64 a0_2] 24 (0, 0)) (blk_g BK224.out) hg (Kd.R_ne HO_8.out BK224.out (by decide))); replace HO_8 := zA (hp_); replace HB := zA ((by rw [hw]; exact below_set (HB.out) GB26.out : Below w.heap.size w w28)); clear hg hw hp_))
           go_roundg k1
           case measure => have := HK1.out; omega
           case rel => exact ⟨(y233), (wrap64 (x23_1 + 1)), frs, H', ⟨by have := HK1.out; omega⟩, ⟨rdR HO_8.out⟩, ⟨rdR HO_21.out⟩, ⟨rdB BK224.out⟩, ⟨bel⟩⟩
          ·rw [if_neg c25] at H
           exact absurd H (by simp)
         ·rw [if_neg c24] at H
          exact absurd H (by simp)
        ·rw [if_neg c23] at H
         exact absurd H (by simp)
       ·rw [if_neg c22] at H
        exact absurd H (by simp)
      ·rw [if_neg c21] at H
       have c21b0 : decide (x23_1 < (t225.length : Int)) = false := decide_eq_false c21
       clear c21
       obtain rfl := Option.some.inj H
       go_wp2
       go_ret
       exact ⟨_, by first | rfl | (simp [errW_none, errW_some] <;> rfl) | (simp [*, errW_none, errW_some] <;> rfl), rdR HO_8.out, bel⟩
   ·rw [if_neg c12] at H
    exact absurd H (by simp)
  ·rw [if_neg c11] at H
   exact absurd H (by simp)
noncomputable def precode_Matrix.l0 : Nat → Int → List (List Int) → List Int → Int → Int → Int → Int → Int → Option ((List (List Int)))
 | 0, _, _, _, _, _, _, _, _ => none
 | k + 1, x1, x7, x16, x17, x18, x235000, x235001, x235002 => if x18 < x17 then (if 0 ≤ x18 then (if x18 < (x16.length : Int) then ((tuple_Row.f k x235000 x235001 x235002 x1 (rd x16 x18)).bind fun t245 => (if (t245.length : Int) = 0 then (some ([] : List (List Int))) else (if x7.length < 5864062014805 then (precode_Matrix.l0 k x1 (x7 ++ [t245]) x16 x17 (wrap64 (x18 + 1)) x235000 x235001 x235002) else (none)))) else (none)) else (none)) else (if x1 < 0 then (some ([] : List (List Int))) else (if x1 > 255 then (some ([] : List (List Int))) else (some x7)))
noncomputable def precode_Matrix.f (k : Nat) (a0_0 : Int) (a0_1 : Int) (a0_2 : Int) (a1 : Int) (l2 : List Int) : Option ((List (List Int))) := (precode_Low.f k a0_0 a0_1 a0_2).bind fun t235 => ((precode_High.f k a0_0 a0_1 a0_2).bind fun t238 => (if t235.length + t238.length < 5864062014805 then (precode_Matrix.l0 k a1 (t235 ++ t238) l2 (l2.length : Int) 0 a0_0 a0_1 a0_2) else (none)))
theorem precode_Matrix.calls (k : Nat) (a0_0 : Int) (a0_1 : Int) (a0_2 : Int) (a1 : Int) (A2 : Option Addr) (c2 : Nat) (l2 : List Int) (r : List (List Int)) (w : World) (hr2 : Kd.C (Kd.int .i64) w A2 l2.length l2) (hc2 : l2.length ≤ c2) (h : precode_Matrix.f k a0_0 a0_1 a0_2 a1 l2 = some r) :
 Calls Try.prog 38 #[.agg #[.int .i64 a0_0, .int .i64 a0_1, .int .i64 a0_2], .int .i64 a1, .slice A2 l2.length c2] w fun e w' => ∃ v0_ : Value, e = .returned (v0_) ∧ Kd.N (Kd.slice 5 (Kd.int .u8)) 31 w' w.heap.size (fun k_ => (w.heap.size ≤ k_)) v0_ r ∧ Below w.heap.size w w' := by
 have hu24 := Try.underlying24
 have HR2 := zA hr2
 have HC2 := zA hc2
 clear hr2 hc2
 have HB := zA (Below.refl w.heap.size w)
 have H : ((precode_Low.f k a0_0 a0_1 a0_2).bind fun t235 => ((precode_High.f k a0_0 a0_1 a0_2).bind fun t238 => (if t235.length + t238.length < 5864062014805 then (precode_Matrix.l0 k a1 (t235 ++ t238) l2 (l2.length : Int) 0 a0_0 a0_1 a0_2) else (none)))) = some r := h
 clear h
 replace H := Option.bind_eq_some_iff.mp H
 obtain ⟨t235, A40, H⟩ := H
 try dsimp only at H
 have A4 := zA A40
 clear A40
 replace H := Option.bind_eq_some_iff.mp H
 obtain ⟨t238, A50, H⟩ := H
 try dsimp only at H
 have A5 := zA A50
 clear A50
 by_cases c6 : t235.length + t238.length < 5864062014805
 ·rw [if_pos c6] at H
  have LMc6 := zA c6
  clear c6
  obtain ⟨y241, hy241⟩ : ∃ y_ : List (List Int), y_ = (t235 ++ t238) := ⟨_, rfl⟩
  replace H : (precode_Matrix.l0 k a1 y241 l2 (l2.length : Int) 0 a0_0 a0_1 a0_2) = some r := zC H hy241
  have Ny241 := zA hy241
  clear hy241
  have H' := zA H
  clear H
  go_enter Try.func38, Try.ntmps38
  try go_wp2_with (first | ((with_reducible refine gate_dst (N := 3) rfl ?_); refine box_event ?hg (N := 3) ?hd (cs := #[.int .i64 a0_0, .int .i64 a0_1, .int .i64 a0_2]) (t := 24) ?hr ?_; (case hd => rfl); (case hg => rfl); (case hr => first | (go_simp; done) | (go_simp; rfl)); intro gb234 hg w7 hbox hb; have BK234 := zA (hbox); have GW234 := zA ((by rw [hg]; exact bels : w.heap.size ≤ gb234)); have GE234 := zA ((by rw [hg]; exact bels : w.heap.size ≤ gb234)); replace HB := zA (belt hb); clear hb hbox hg))
  replace BK234 := zA (blk_drew BK234.out)
  replace HB := zA (below_drew1 HB.out)
  refine start_ (n := 6) (S := fun w' => w'.cell? ⟨gb234, 0, none⟩ = some (.int .i64 a0_0) ∧ w'.cell? ⟨gb234, 1, none⟩ = some (.int .i64 a0_1) ∧ w'.cell? ⟨gb234, 2, none⟩ = some (.int .i64 a0_2)) (ds := []) (ms 6 0) (by kernel_rfl) rfl rfl ⟨(blk_cell BK234.out 0).trans rfl, (blk_cell BK234.out 1).trans rfl, (blk_cell BK234.out 2).trans rfl⟩ (fun hHeld => ?_)
  generalize w7.drew = w8 at BK234 HB hHeld ⊢
  refine take_ (i := 0) (N := some 11) (v := ?_) (a' := ?_) (ms 6 1) rfl rfl (by kernel_rfl) (fun _ _ _ h => h) (Or.inl ⟨by rfl, ?_⟩) hHeld ?_ ?_
  rotate_left
  ·rintro w' ⟨s0, s1, s2⟩
   go_simp
   with_reducible rfl
  rotate_left
  ·simp only [Act.put, sx]
   rfl
  refine take_ (i := 2) (N := some 13) (v := ?_) (a' := ?_) (ms 6 5) rfl rfl (by kernel_rfl) (fun _ _ _ h => h) (Or.inl ⟨by rfl, ?_⟩) hHeld ?_ ?_
  rotate_left
  ·rintro w' ⟨s0, s1, s2⟩
   go_simp
   with_reducible rfl
  rotate_left
  ·simp only [Act.put, sx]
   rfl
  refine one_ (i := 1) (N := some 12) (ms 6 7) rfl rfl (by kernel_rfl) (by decide) (fun K hK => ?_)
  refine goes_ Try.func20 (by kernel_rfl) rfl #[.agg #[.int .i64 a0_0, .int .i64 a0_1, .int .i64 a0_2]] (by rfl) rfl rfl agl ?_
  with_reducible refine (precode_Low.calls k a0_0 a0_1 a0_2 t235 _ A4.out).mono ?_
  rintro e w9 ⟨v236, rfl, ho0, hb⟩
  refine ⟨_, rfl, ?_⟩
  have HO237 := zA (Kd.N_lower (Kd.N_mono (ok' := fun k_ => (w.heap.size ≤ k_) ∧ k_ ≠ gb234) (Kd.S_N (Kd.S_bound ho0)) (fun k_ hk_ => ⟨(Nat.le_trans bels hk_.2.1), (Kd.freshB (g := gb234) (o := .cells #[.int .i64 a0_0, .int .i64 a0_1, .int .i64 a0_2] 24 (0, 0)) (blk_g BK234.out) k_ hk_.2.1)⟩)) bels)
  replace BK234 := zA (blk_below (g := gb234) (o := .cells #[.int .i64 a0_0, .int .i64 a0_1, .int .i64 a0_2] 24 (0, 0)) (blk_g BK234.out) hb)
  replace HB := zA (belt hb)
  (try clear hb)
  (try clear hb2)
  (try clear hk)
  (try clear hi)
  (try clear ho0)
  refine hK.out _ _ ⟨(blk_cell BK234.out 0).trans rfl, (blk_cell BK234.out 1).trans rfl, (blk_cell BK234.out 2).trans rfl⟩ (fun hHeld => ?_)
  clear hK K
  refine norm_ (a' := ?_) ?_ ?_
  rotate_left
  ·show Act.put _ (some 12) _ = _
   simp only [Act.put, sx]
   rfl
  refine one_ (i := 3) (N := some 14) (ms 6 15) rfl rfl (by kernel_rfl) (by decide) (fun K hK => ?_)
  refine goes_ Try.func21 (by kernel_rfl) rfl #[.agg #[.int .i64 a0_0, .int .i64 a0_1, .int .i64 a0_2]] (by rfl) rfl rfl agl ?_
  with_reducible refine (precode_High.calls k a0_0 a0_1 a0_2 t238 _ A5.out).mono ?_
  rintro e w10 ⟨v239, rfl, ho0, hb⟩
  refine ⟨_, rfl, ?_⟩
  have HO240 := zA (Kd.N_lower (Kd.N_mono (ok' := fun k_ => (w.heap.size ≤ k_) ∧ some k_ ≠ (v236 : Value).ownBlock ∧ k_ ≠ gb234) (Kd.S_N (Kd.S_bound ho0)) (fun k_ hk_ => ⟨(Nat.le_trans bels hk_.2.1), (Kd.fresh' (Kd.N_lt (N_g HO237.out)) k_ hk_.2.1), (Kd.freshB (g := gb234) (o := .cells #[.int .i64 a0_0, .int .i64 a0_1, .int .i64 a0_2] 24 (0, 0)) (blk_g BK234.out) k_ hk_.2.1)⟩)) bels)
  replace HO237 := zA (Kd.N_elder' (N_g HO237.out) (by first | exact Kd.N_base ho0 | exact Kd.N_base (Kd.S_N ho0)) hb)
  replace BK234 := zA (blk_below (g := gb234) (o := .cells #[.int .i64 a0_0, .int .i64 a0_1, .int .i64 a0_2] 24 (0, 0)) (blk_g BK234.out) hb)
  replace HB := zA (belt hb)
  (try clear hb)
  (try clear hb2)
  (try clear hk)
  (try clear hi)
  (try clear ho0)
  obtain ⟨Ao12, co12, eo12⟩ := Kd.N_slice HO240.out
  (first | subst eo12 | (injection eo12 with f1_ f2_ f3_; have f4_ := f1_.symm; have f5_ := f3_.symm; clear f1_ f2_ f3_; subst f4_; subst f5_))
  refine hK.out _ _ ⟨(blk_cell BK234.out 0).trans rfl, (blk_cell BK234.out 1).trans rfl, (blk_cell BK234.out 2).trans rfl⟩ (fun hHeld => ?_)
  clear hK K
  refine norm_ (a' := ?_) ?_ ?_
  rotate_left
  ·show Act.put _ (some 14) _ = _
   simp only [Act.put, sx]
   rfl
  refine one_ (i := 4) (N := some 15) (ms 6 31) rfl rfl (by kernel_rfl) (by decide) (fun K hK => ?_)
  refine Kd.N_append_rows_step (Kd.slice 5 (Kd.int .u8)) (w0 := w) w.heap.size (by rfl) (.tmp 12) (.tmp 14) 28 31 (.slice none 0 0) 24 rfl Try.underlying28 info31 rfl (by decide) (by omega) v236 t235 t238 _ _ _ (fun k_ => (w.heap.size ≤ k_) ∧ k_ ≠ gb234) (fun k_ => ((fun k_ => (w.heap.size ≤ k_) ∧ k_ ≠ gb234)) k_ ∧ some k_ ≠ (v236 : Value).ownBlock) rfl rfl ?aO ?aR (fun _ hk => hk) ?aF ?aB ?aS ?aL ?_
  (case aR => exact (by skip; exact Kd.N_F (Kd.N_mono (ok' := (fun k_ => ((fun k_ => (w.heap.size ≤ k_) ∧ k_ ≠ gb234)) k_ ∧ some k_ ≠ (v236 : Value).ownBlock)) (HO240.out) (fun k_ hk => ⟨⟨hk.1, hk.2.2⟩, hk.2.1⟩))))
  (case aB => exact bel)
  (case aF => exact (fun k_ hk => ⟨(Nat.le_trans bels hk), Kd.freshB (g := gb234) (o := .cells #[.int .i64 a0_0, .int .i64 a0_1, .int .i64 a0_2] 24 (0, 0)) (blk_g BK234.out) k_ hk⟩))
  (case aO => exact (N_g (Kd.N_mono HO237.out (fun _ hk => ⟨hk.1.1, hk.1.2⟩))))
  (case aS => exact bels)
  (case aL => have := LMc6.out; omega)
  intro v242 w11 ho hb hg hat
  rw [← Ny241.out] at ho
  replace BK234 := zA (blk_grown (g := gb234) (o := .cells #[.int .i64 a0_0, .int .i64 a0_1, .int .i64 a0_2] 24 (0, 0)) (blk_g BK234.out) hg (Kd.N_ne HO237.out BK234.out (by decide)))
  replace HO240 := zA (Kd.N_afterv (ok := (fun k_ => (w.heap.size ≤ k_) ∧ k_ ≠ gb234)) (N_g (Kd.N_mono HO240.out (fun _ hk => ⟨⟨hk.1, hk.2.2⟩, hk.2.1⟩))) hg hat)
  replace HB := zA (hb)
  have HO243 := zA (ho)
  clear HO237
  clear ho hb hg hat
  refine hK.out _ _ ⟨(blk_cell BK234.out 0).trans rfl, (blk_cell BK234.out 1).trans rfl, (blk_cell BK234.out 2).trans rfl⟩ (fun hHeld => ?_)
  clear hK K
  refine norm_ (a' := ?_) ?_ ?_
  rotate_left
  ·show Act.put _ (some 15) _ = _
   simp only [Act.put, sx]
   rfl
  refine pure_ (i := 5) (N := some 7) (v := ?_) (a' := ?_) (ms 6 63) rfl rfl (by kernel_rfl) (fun _ _ _ h => h) (Or.inl ⟨by rfl, ?_⟩) ?_ ?_
  rotate_left
  ·intro w'
   go_simp
   with_reducible rfl
  rotate_left
  ·simp only [Act.put, sx]
   rfl
  refine done_ (by kernel_rfl) ?_
  try go_wp2
  go_loopg [7, 18] k (fun kq v7 v18 w' => ∃ (x7_1 : List (List Int)) (x18_1 : Int), v18 = .int .i64 x18_1 ∧ Aside0 (precode_Matrix.l0 kq a1 x7_1 l2 (l2.length : Int) x18_1 a0_0 a0_1 a0_2 = some r) ∧ Aside0 (kq ≤ k) ∧ Aside0 (Kd.N (Kd.slice 5 (Kd.int .u8)) 31 w' w.heap.size (fun k_ => (w.heap.size ≤ k_) ∧ k_ ≠ gb234) v7 x7_1) ∧ Aside0 (w'.heap[gb234]? = some (.cells #[.int .i64 a0_0, .int .i64 a0_1, .int .i64 a0_2] 24 (0, 0))) ∧ Aside0 (Below w.heap.size w w'))
  case atStart => exact ⟨(y241), (0), frs, H', ⟨Nat.le_refl _⟩, ⟨rdN HO243.out⟩, ⟨rdB BK234.out⟩, ⟨bel⟩⟩
  case round =>
   clear H'
   obtain ⟨x7_1, x18_1, rfl, HA, HK1, HO_7, BK234, HB⟩ := hrel
   cases gk with
   | zero => exact absurd HA.out (by simp [precode_Matrix.l0])
   | succ k1 =>
    have H := HA.out
    clear HA
    simp only [precode_Matrix.l0] at H
    by_cases c13 : x18_1 < (l2.length : Int)
    ·rw [if_pos c13] at H
     have c13b0 : decide (x18_1 < (l2.length : Int)) = true := decide_eq_true c13
     clear c13
     by_cases c14 : 0 ≤ x18_1
     ·rw [if_pos c14] at H
      have c14b0 : decide (0 ≤ x18_1) = true := decide_eq_true c14
      clear c14
      by_cases c15 : x18_1 < (l2.length : Int)
      ·rw [if_pos c15] at H
       have c15b0 : decide (x18_1 < (l2.length : Int)) = true := decide_eq_true c15
       clear c15
       replace H := Option.bind_eq_some_iff.mp H
       obtain ⟨t245, A160, H⟩ := H
       try dsimp only at H
       have A16 := zA A160
       clear A160
       by_cases c17 : (t245.length : Int) = 0
       ·rw [if_pos c17] at H
        have c17b0 : ((t245.length : Int) == 0) = true := beq_iff_eq.mpr c17
        have c17b1 : ((t245.length : Int) != 0) = false := bne_eq_false_iff_eq.mpr c17
        clear c17
        obtain rfl := Option.some.inj H
        have p244 : 0 ≤ (x18_1 : Int) := of_decide_eq_true asu
        have q244 : x18_1 < (l2.length : Int) := of_decide_eq_true asu
        obtain ⟨ad244, e244, hx244_0⟩ := Kd.at_int HR2.out x18_1 p244 q244
        cases e244
        replace hx244_0 := (HB.out.cell (World.block_lt_of_cell? w _ hx244_0)).trans hx244_0
        replace p244 := eq_true p244
        replace q244 := eq_true q244
        obtain ⟨hcz18_0, hcz18_1, hcz18_2, hfz18_0, hfz18_1, hfz18_2⟩ := box3 BK234.out
        go_wp2_with (first | ((with_reducible refine gate_callee (f := 76) rfl ?_); refine goesL_ (some 25) rfl rfl Try.func76 (by kernel_rfl) rfl #[.agg #[.int .i64 a0_0, .int .i64 a0_1, .int .i64 a0_2], .int .i64 a1, .int .i64 (rd l2 x18_1)] rfl agl ?_; (with_reducible refine (tuple_Row.calls k1 a0_0 a0_1 a0_2 a1 (rd l2 x18_1) t245 _ A16.out).mono ?_); rintro e w19 ⟨v246, rfl, ho0, hb⟩; refine ⟨_, rfl, ?_⟩; replace HO_7 := zA (Kd.N_elder' (N_g HO_7.out) (Kd.R_base ho0) hb); have HO247 := zA (Kd.R_lower (Kd.R_newM (M := fun k_ => (w.heap.size ≤ k_)) ho0 bels (fun k_ h_ => h_)) bels); replace BK234 := zA (blk_below (g := gb234) (o := .cells #[.int .i64 a0_0, .int .i64 a0_1, .int .i64 a0_2] 24 (0, 0)) (blk_g BK234.out) hb); replace HB := zA (belt hb); obtain ⟨Ao20, co20, eo20⟩ := Kd.R_slice HO247.out; subst eo20))
        go_ret
        exact ⟨_, by first | rfl | (simp [errW_none, errW_some] <;> rfl) | (simp [*, errW_none, errW_some] <;> rfl), by first | exact Kd.S_nil _ _ _ _ _ | exact Kd.N_nil _ _ _ _ _ | exact Kd.V_nil _ _ _ _ _ | exact Kd.Q_nil _ _ _ _ _ | exact Kd.R_nil _ _ _ _ _, bel⟩
       ·rw [if_neg c17] at H
        have c17b0 : ((t245.length : Int) == 0) = false := beq_eq_false_iff_ne.mpr c17
        have c17b1 : ((t245.length : Int) != 0) = true := bne_iff_ne.mpr c17
        have c17b2 : ¬ (t245 = []) := fun h_ => c17 (by rw [h_]; rfl)
        by_cases c21 : x7_1.length < 5864062014805
        ·rw [if_pos c21] at H
         have LMc21 := zA c21
         clear c21
         obtain ⟨y248, hy248⟩ : ∃ y_ : List (List Int), y_ = (x7_1 ++ [t245]) := ⟨_, rfl⟩
         replace H : (precode_Matrix.l0 k1 a1 y248 l2 (l2.length : Int) (wrap64 (x18_1 + 1)) a0_0 a0_1 a0_2) = some r := zC H hy248
         have Ny248 := zA hy248
         clear hy248
         have H' := zA H
         clear H
         have p244 : 0 ≤ (x18_1 : Int) := of_decide_eq_true asu
         have q244 : x18_1 < (l2.length : Int) := of_decide_eq_true asu
         obtain ⟨ad244, e244, hx244_0⟩ := Kd.at_int HR2.out x18_1 p244 q244
         cases e244
         replace hx244_0 := (HB.out.cell (World.block_lt_of_cell? w _ hx244_0)).trans hx244_0
         replace p244 := eq_true p244
         replace q244 := eq_true q244
         obtain ⟨hcz22_0, hcz22_1, hcz22_2, hfz22_0, hfz22_1, hfz22_2⟩ := box3 BK234.out
         go_wp2_with (first | ((with_reducible refine gate_callee (f := 76) rfl ?_); refine goesL_ (some 25) rfl rfl Try.func76 (by kernel_rfl) rfl #[.agg #[.int .i64 a0_0, .int .i64 a0_1, .int .i64 a0_2], .int .i64 a1, .int .i64 (rd l2 x18_1)] rfl agl ?_; (with_reducible refine (tuple_Row.calls k1 a0_0 a0_1 a0_2 a1 (rd l2 x18_1) t245 _ A16.out).mono ?_); rintro e w23 ⟨v246, rfl, ho0, hb⟩; refine ⟨_, rfl, ?_⟩; replace HO_7 := zA (Kd.N_elder' (N_g HO_7.out) (Kd.R_base ho0) hb); have HO247 := zA (Kd.R_lower (Kd.R_newM (M := fun k_ => (w.heap.size ≤ k_)) ho0 bels (fun k_ h_ => h_)) bels); replace BK234 := zA (blk_below (g := gb234) (o := .cells #[.int .i64 a0_0, .int .i64 a0_1, .int .i64 a0_2] 24 (0, 0)) (blk_g BK234.out) hb); replace HB := zA (belt hb); obtain ⟨Ao24, co24, eo24⟩ := Kd.R_slice HO247.out; subst eo24) | ((with_reducible refine gate_builtin (b := .append) (xs := #[.tmp 29, .tmp 31]) rfl ?_); at_builtin; refine Kd.N_append (Kd.slice 5 (Kd.int .u8)) (w0 := w) w.heap.size rfl (.tmp 29) (.tmp 31) 28 31 (.slice none 0 0) 24 rfl Try.underlying28 info31 rfl (by decide) (by omega) u7 x7_1 t245 [.slice Ao24 t245.length co24] (fun k_ => (w.heap.size ≤ k_) ∧ k_ ≠ gb234) (fun k_ => ((fun k_ => (w.heap.size ≤ k_) ∧ k_ ≠ gb234)) k_ ∧ some k_ ≠ (u7 : Value).ownBlock) rfl rfl ?aP (fun _ hk => hk) ?aF ?aO ?aB ?aS ?aL ?_; (case aP => exact (Kd.FK_slice_mk (Kd.R_reads' (Kd.R_mono (ok' := (fun k_ => ((fun k_ => (w.heap.size ≤ k_) ∧ k_ ≠ gb234)) k_ ∧ some k_ ≠ (u7 : Value).ownBlock)) (Kd.R_types (Kd.R_apart' (HO247.out) (Kd.N_typed HO_7.out) (by decide)) BK234.out (by decide)) (fun k_ hk => ⟨⟨hk.1.1.1, hk.2⟩, hk.1.2⟩))).2.1 (Kd.R_F (Kd.R_mono (ok' := (fun k_ => ((fun k_ => (w.heap.size ≤ k_) ∧ k_ ≠ gb234)) k_ ∧ some k_ ≠ (u7 : Value).ownBlock)) (Kd.R_types (Kd.R_apart' (HO247.out) (Kd.N_typed HO_7.out) (by decide)) BK234.out (by decide)) (fun k_ hk => ⟨⟨hk.1.1.1, hk.2⟩, hk.1.2⟩))))); (case aB => exact bel); (case aF => exact (fun k_ hk => ⟨(Nat.le_trans bels hk), Kd.freshB (g := gb234) (o := .cells #[.int .i64 a0_0, .int .i64 a0_1, .int .i64 a0_2] 24 (0, 0)) (blk_g BK234.out) k_ hk⟩)); (case aO => exact (N_g (Kd.N_mono HO_7.out (fun _ hk => ⟨hk.1.1, hk.1.2⟩)))); (case aS => exact bels); (case aL => have := LMc21.out; omega); intro v249 w25 ho hb hg hat; rw [← Ny248.out] at ho; replace BK234 := zA (blk_grown (g := gb234) (o := .cells #[.int .i64 a0_0, .int .i64 a0_1, .int .i64 a0_2] 24 (0, 0)) (blk_g BK234.out) hg (Kd.N_ne HO_7.out BK234.out (by decide))); replace HB := zA (hb); have HO250 := zA (ho); clear HO_7 HO247; clear ho hb hg hat))
         go_roundg k1
         case measure => have := HK1.out; omega
         case rel => exact ⟨(y248), (wrap64 (x18_1 + 1)), frs, H', ⟨by have := HK1.out; omega⟩, ⟨rdN HO250.out⟩, ⟨rdB BK234.out⟩, ⟨bel⟩⟩
        ·rw [if_neg c21] at H
         exact absurd H (by simp)
      ·rw [if_neg c15] at H
       exact absurd H (by simp)
     ·rw [if_neg c14] at H
      exact absurd H (by simp)
    ·rw [if_neg c13] at H
     have c13b0 : decide (x18_1 < (l2.length : Int)) = false := decide_eq_false c13
     clear c13
     by_cases c26 : a1 < 0
     ·rw [if_pos c26] at H
      have c26b0 : decide (a1 < 0) = true := decide_eq_true c26
      clear c26
      obtain rfl := Option.some.inj H
      go_wp2
      go_ret
      exact ⟨_, by first | rfl | (simp [errW_none, errW_some] <;> rfl) | (simp [*, errW_none, errW_some] <;> rfl), by first | exact Kd.S_nil _ _ _ _ _ | exact Kd.N_nil _ _ _ _ _ | exact Kd.V_nil _ _ _ _ _ | exact Kd.Q_nil _ _ _ _ _ | exact Kd.R_nil _ _ _ _ _, bel⟩
     ·rw [if_neg c26] at H
      have c26b0 : decide (a1 < 0) = false := decide_eq_false c26
      clear c26
      by_cases c27 : a1 > 255
      ·rw [if_pos c27] at H
       have c27b0 : decide (255 < a1) = true := decide_eq_true c27
       clear c27
       obtain rfl := Option.some.inj H
       go_wp2
       go_ret
       exact ⟨_, by first | rfl | (simp [errW_none, errW_some] <;> rfl) | (simp [*, errW_none, errW_some] <;> rfl), by first | exact Kd.S_nil _ _ _ _ _ | exact Kd.N_nil _ _ _ _ _ | exact Kd.V_nil _ _ _ _ _ | exact Kd.Q_nil _ _ _ _ _ | exact Kd.R_nil _ _ _ _ _, bel⟩
      ·rw [if_neg c27] at H
       have c27b0 : decide (255 < a1) = false := decide_eq_false c27
       clear c27
       obtain rfl := Option.some.inj H
       go_wp2
       go_ret
       exact ⟨_, by first | rfl | (simp [errW_none, errW_some] <;> rfl) | (simp [*, errW_none, errW_some] <;> rfl), by (with_reducible repeat (first | apply Kd.N_alloc | apply Kd.N_drewN | apply Kd.N_drew)); exact Kd.N_mono HO_7.out (fun _ hk => hk.1), bel⟩
 ·rw [if_neg c6] at H
  exact absurd H (by simp)
noncomputable def seed_Sources.l0 : Nat → List Int → Int → Int → Option (List Int)
 | 0, _, _, _ => none
 | k + 1, x3, x7, x8 => if x8 < x7 then (if x3.length < 17592186044416 then (seed_Sources.l0 k (x3 ++ [x8]) x7 (wrap64 (x8 + 1))) else (none)) else (some x3)
noncomputable def seed_Sources.f (k : Nat) (a0 : Int) : Option (List Int) := seed_Sources.l0 k ([] : List Int) (mx 0 (mn a0 40)) 0
theorem seed_Sources.calls (k : Nat) (a0 : Int) (r : List Int) (w : World) (h : seed_Sources.f k a0 = some r) :
 Calls Try.prog 78 #[.int .i64 a0] w fun e w' => ∃ v0_ : Value, e = .returned (v0_) ∧ Kd.R (Kd.int .i64) 3 w' w.heap.size (fun _ => True) v0_ r ∧ Below w.heap.size w w' := by
 have HB := zA (Below.refl w.heap.size w)
 have H : (seed_Sources.l0 k ([] : List Int) (mx 0 (mn a0 40)) 0) = some r := h
 clear h
 obtain ⟨ji2, hji2⟩ : ∃ j_ : Int, (mn a0 40) = j_ := ⟨_, rfl⟩
 replace H : (seed_Sources.l0 k ([] : List Int) (mx 0 (ji2)) 0) = some r := by first | (rw [hji2] at H; exact H) | (simp only [hji2] at H ⊢; exact H)
 (try (have hji2h : ji2 ≤ 40 := by (rw [← hji2]; unfold mn; (repeat' split) <;> omega)))
 (try (have hji2g : ji2 ≤ 64 := by omega))
 have hji2_ : (if 40 < a0 then 40 else a0) = ji2 := hji2
 obtain ⟨ji3, hji3⟩ : ∃ j_ : Int, (mx 0 (ji2)) = j_ := ⟨_, rfl⟩
 replace H : (seed_Sources.l0 k ([] : List Int) ji3 0) = some r := by first | (rw [hji3] at H; exact H) | (simp only [hji3] at H ⊢; exact H)
 have hji3_ : (if 0 < (ji2) then (ji2) else 0) = ji3 := hji3
 have H' := zA H
 clear H
 go_enter Try.func78, Try.ntmps78
 go_wp2
 go_loopg [3, 8] k (fun kq v3 v8 w' => ∃ (x3_1 : List Int) (x8_1 : Int), v8 = .int .i64 x8_1 ∧ Aside0 (seed_Sources.l0 kq x3_1 ji3 x8_1 = some r) ∧ Aside0 (kq ≤ k) ∧ Aside0 (Kd.R (Kd.int .i64) 3 w' w.heap.size (fun _ => True) v3 x3_1) ∧ Aside0 (Below w.heap.size w w'))
 case atStart => exact ⟨(([] : List Int)), (0), frs, H', ⟨Nat.le_refl _⟩, ⟨by first | exact Kd.R_nil _ _ _ _ _ | exact Kd.N_nil _ _ _ _ _ | exact Kd.V_nil _ _ _ _ _ | exact Kd.Q_nil _ _ _ _ _ | exact Kd.S_nil _ _ _ _ _⟩, ⟨bel⟩⟩
 case round =>
  clear H'
  obtain ⟨x3_1, x8_1, rfl, HA, HK1, HO_3, HB⟩ := hrel
  cases gk with
  | zero => exact absurd HA.out (by simp [seed_Sources.l0])
  | succ k1 =>
   have H := HA.out
   clear HA
   simp only [seed_Sources.l0] at H
   by_cases c4 : x8_1 < ji3
   ·rw [if_pos c4] at H
    have c4b0 : decide (x8_1 < ji3) = true := decide_eq_true c4
    clear c4
    by_cases c5 : x3_1.length < 17592186044416
    ·rw [if_pos c5] at H
     have LMc5 := zA c5
     clear c5
     obtain ⟨y251, hy251⟩ : ∃ y_ : List Int, y_ = (x3_1 ++ [x8_1]) := ⟨_, rfl⟩
     replace H : (seed_Sources.l0 k1 y251 ji3 (wrap64 (x8_1 + 1))) = some r := zC H hy251
     have Ny251 := zA hy251
     clear hy251
     have H' := zA H
     clear H
     go_wp2_with (first | ((with_reducible refine gate_builtin (b := .append) (xs := #[.tmp 11, .tmp 13]) rfl ?_); at_builtin; refine Kd.R_append (Kd.int .i64) (w0 := w) w.heap.size rfl (.tmp 11) (.tmp 13) 51 3 (.int .i64 0) 8 rfl Try.underlying51 info3 rfl (by decide) (by omega) u3 x3_1 x8_1 [.int .i64 x8_1] (fun _ => True) (fun _ => False) rfl rfl ?aP (fun _ hk => hk.elim) ?aF ?aO ?aB ?aS ?aL ?_; (case aP => exact rfl); (case aB => exact bel); (case aF => exact (fun _ _ => trivial)); (case aO => exact (R_g HO_3.out)); (case aS => exact bels); (case aL => have := LMc5.out; omega); intro v252 w6 ho hb hg hat; rw [← Ny251.out] at ho; replace HB := zA (hb); have HO253 := zA (ho); clear HO_3; clear ho hb hg hat))
     go_roundg k1
     case measure => have := HK1.out; omega
     case rel => exact ⟨(y251), (wrap64 (x8_1 + 1)), frs, H', ⟨by have := HK1.out; omega⟩, ⟨rdR HO253.out⟩, ⟨bel⟩⟩
    ·rw [if_neg c5] at H
     exact absurd H (by simp)
   ·rw [if_neg c4] at H
    have c4b0 : decide (x8_1 < ji3) = false := decide_eq_false c4
    clear c4
    obtain rfl := Option.some.inj H
    go_wp2
    go_ret
    exact ⟨_, by first | rfl | (simp [errW_none, errW_some] <;> rfl) | (simp only [← hji2, ← hji3]; first | rfl | (simp [errW_none, errW_some] <;> rfl)) | (simp [*, errW_none, errW_some] <;> rfl), rdR HO_3.out, bel⟩
end Go.Proofs.Ytbfhinfblepidaa.PSeedTells
