/- Written by a program (this session's own): functions that the law reaches, as plain Lean functions, each with the proof that the code comes to it. No conditions but those that stand in the theorems. -/
import Derived.Test.YtbfhinfblepidaaPq
import Derived.Test.YtbfhinfblepidaaPSolveTellsx
import Derived.Test.YtbfhinfblepidaaPSeedTellsx
import Derived.Test.YtbfhinfblepidaaPBlockTellsx
import Derived.Test.YtbfhinfblepidaaPDecodeTellsx0
set_option maxHeartbeats 8000000
set_option maxRecDepth 100000
namespace Go.Proofs.Ytbfhinfblepidaa.PDecodeTells
open Go.RowKit Go.Proofs.YtbfhinfblepidaaW.PrintWords Go.Proofs.YtbfhinfblepidaaW.PrintLast Go.Proofs.YtbfhinfblepidaaW.PrintMore Go.Proofs.Ytbfhinfblepidaa.PSolveTells Go.Proofs.Ytbfhinfblepidaa.PSeedTells Go.Proofs.Ytbfhinfblepidaa.PSolveTells Go.Proofs.Ytbfhinfblepidaa.PSeedTells Go.Proofs.Ytbfhinfblepidaa.PBlockTells
attribute [local go_sem] max2_int min2_int max_two min_two max_three min_three max_four min_four
set_option linter.unusedVariables false
set_option linter.unusedSimpArgs false
noncomputable def drops_Drops.l0 : Nat → Int → Int → List (List Int) → List (List Int) → List Int → Int → Int → Int → Int → Int → Option ((List (List Int)))
 | 0, _, _, _, _, _, _, _, _, _, _ => none
 | k + 1, x1, x2, x3, x11, x15, x16, x17, x310000, x310001, x310002 => if x17 < x16 then (if 0 ≤ x17 then (if x17 < (x15.length : Int) then ((drops_Drop.f k x310000 x310001 x310002 x1 x2 x3 (rd x15 x17)).bind fun t311 => (if (t311.length : Int) = 0 then (some ([] : List (List Int))) else (if x11.length < 5864062014805 then (drops_Drops.l0 k x1 x2 x3 (x11 ++ [t311]) x15 x16 (wrap64 (x17 + 1)) x310000 x310001 x310002) else (none)))) else (none)) else (none)) else (some x11)
noncomputable def drops_Drops.f (k : Nat) (a0_0 : Int) (a0_1 : Int) (a0_2 : Int) (a1 : Int) (a2 : Int) (l3 : List (List Int)) (l4 : List Int) : Option ((List (List Int))) := drops_Drops.l0 k a1 a2 l3 ([] : List (List Int)) l4 (l4.length : Int) 0 a0_0 a0_1 a0_2
theorem drops_Drops.calls (k : Nat) (a0_0 : Int) (a0_1 : Int) (a0_2 : Int) (a1 : Int) (a2 : Int) (A3 : Option Addr) (c3 : Nat) (l3 : List (List Int)) (A4 : Option Addr) (c4 : Nat) (l4 : List Int) (r : List (List Int)) (w : World) (hr3 : Kd.C (Kd.slice 5 (Kd.int .u8)) w A3 l3.length l3) (hc3 : l3.length ≤ c3) (hr4 : Kd.C (Kd.int .i64) w A4 l4.length l4) (hc4 : l4.length ≤ c4) (h : drops_Drops.f k a0_0 a0_1 a0_2 a1 a2 l3 l4 = some r) :
 Calls Try.prog 90 #[.agg #[.int .i64 a0_0, .int .i64 a0_1, .int .i64 a0_2], .int .i64 a1, .int .i64 a2, .slice A3 l3.length c3, .slice A4 l4.length c4] w fun e w' => ∃ v0_ : Value, e = .returned (v0_) ∧ Kd.S (Kd.slice 5 (Kd.int .u8)) 31 w' w.heap.size (fun _ => True) v0_ r ∧ Below w.heap.size w w' := by
 have hu24 := Try.underlying24
 have HR3 := zA hr3
 have HC3 := zA hc3
 clear hr3 hc3
 have HR4 := zA hr4
 have HC4 := zA hc4
 clear hr4 hc4
 have HB := zA (Below.refl w.heap.size w)
 have H : (drops_Drops.l0 k a1 a2 l3 ([] : List (List Int)) l4 (l4.length : Int) 0 a0_0 a0_1 a0_2) = some r := h
 clear h
 have H' := zA H
 clear H
 go_enter Try.func90, Try.ntmps90
 go_wp2_with (first | ((with_reducible refine gate_dst (N := 5) rfl ?_); refine box_event ?hg (N := 5) ?hd (cs := #[.int .i64 a0_0, .int .i64 a0_1, .int .i64 a0_2]) (t := 24) ?hr ?_; (case hd => rfl); (case hg => rfl); (case hr => first | (go_simp; done) | (go_simp; rfl)); intro gb309 hg w6 hbox hb; have BK309 := zA (hbox); have GW309 := zA ((by rw [hg]; exact bels : w.heap.size ≤ gb309)); have GE309 := zA ((by rw [hg]; exact bels : w.heap.size ≤ gb309)); replace HB := zA (belt hb); clear hb hbox hg))
 go_loopg [11, 17] k (fun kq v11 v17 w' => ∃ (x11_1 : List (List Int)) (x17_1 : Int), v17 = .int .i64 x17_1 ∧ Aside0 (drops_Drops.l0 kq a1 a2 l3 x11_1 l4 (l4.length : Int) x17_1 a0_0 a0_1 a0_2 = some r) ∧ Aside0 (kq ≤ k) ∧ Aside0 (Kd.S (Kd.slice 5 (Kd.int .u8)) 31 w' w.heap.size (fun _ => True) v11 x11_1) ∧ Aside0 (w'.heap[gb309]? = some (.cells #[.int .i64 a0_0, .int .i64 a0_1, .int .i64 a0_2] 24 (0, 0))) ∧ Aside0 (Below w.heap.size w w'))
 case atStart => exact ⟨(([] : List (List Int))), (0), frs, H', ⟨Nat.le_refl _⟩, ⟨by first | exact Kd.S_nil _ _ _ _ _ | exact Kd.N_nil _ _ _ _ _ | exact Kd.V_nil _ _ _ _ _ | exact Kd.Q_nil _ _ _ _ _ | exact Kd.R_nil _ _ _ _ _⟩, ⟨rdB BK309.out⟩, ⟨bel⟩⟩
 case round =>
  clear H'
  obtain ⟨x11_1, x17_1, rfl, HA, HK1, HO_11, BK309, HB⟩ := hrel
  cases gk with
  | zero => exact absurd HA.out (by simp [drops_Drops.l0])
  | succ k1 =>
   have H := HA.out
   clear HA
   simp only [drops_Drops.l0] at H
   by_cases c7 : x17_1 < (l4.length : Int)
   ·rw [if_pos c7] at H
    have c7b0 : decide (x17_1 < (l4.length : Int)) = true := decide_eq_true c7
    clear c7
    by_cases c8 : 0 ≤ x17_1
    ·rw [if_pos c8] at H
     have c8b0 : decide (0 ≤ x17_1) = true := decide_eq_true c8
     clear c8
     by_cases c9 : x17_1 < (l4.length : Int)
     ·rw [if_pos c9] at H
      have c9b0 : decide (x17_1 < (l4.length : Int)) = true := decide_eq_true c9
      clear c9
      replace H := Option.bind_eq_some_iff.mp H
      obtain ⟨t311, A100, H⟩ := H
      try dsimp only at H
      have A10 := zA A100
      clear A100
      by_cases c11 : (t311.length : Int) = 0
      ·rw [if_pos c11] at H
       have c11b0 : ((t311.length : Int) == 0) = true := beq_iff_eq.mpr c11
       have c11b1 : ((t311.length : Int) != 0) = false := bne_eq_false_iff_eq.mpr c11
       clear c11
       obtain rfl := Option.some.inj H
       have p310 : 0 ≤ (x17_1 : Int) := of_decide_eq_true asu
       have q310 : x17_1 < (l4.length : Int) := of_decide_eq_true asu
       obtain ⟨ad310, e310, hx310_0⟩ := Kd.at_int HR4.out x17_1 p310 q310
       cases e310
       replace hx310_0 := (HB.out.cell (World.block_lt_of_cell? w _ hx310_0)).trans hx310_0
       replace p310 := eq_true p310
       replace q310 := eq_true q310
       obtain ⟨hcz12_0, hcz12_1, hcz12_2, hfz12_0, hfz12_1, hfz12_2⟩ := box3 BK309.out
       go_wp2_with (first | ((with_reducible refine gate_callee (f := 84) rfl ?_); refine goesL_ (some 26) rfl rfl Try.func84 (by kernel_rfl) rfl #[.agg #[.int .i64 a0_0, .int .i64 a0_1, .int .i64 a0_2], .int .i64 a1, .int .i64 a2, .slice A3 l3.length c3, .int .i64 (rd l4 x17_1)] rfl agl ?_; (with_reducible refine (drops_Drop.calls k1 a0_0 a0_1 a0_2 a1 a2 (fun k_ => k_ < w.heap.size) _ _ l3 (rd l4 x17_1) t311 _ ?side1 A10.out).mono ?_); (case side1 => exact Kd.V_mk HC3.out (Kd.F_below (Kd.C_F (Kd.heap_slice 5 (Kd.heap_int .u8)) HR3.out) bel)); rintro e w13 ⟨v312, rfl, ho0, hb⟩; refine ⟨_, rfl, ?_⟩; replace HO_11 := zA (Kd.S_elder' (S_g HO_11.out) (Kd.R_base ho0) hb); have HO313 := zA (Kd.R_lower (Kd.R_mono (ok' := fun k_ => True) ho0 (fun _ hk_ => trivial)) bels); replace BK309 := zA (blk_below (g := gb309) (o := .cells #[.int .i64 a0_0, .int .i64 a0_1, .int .i64 a0_2] 24 (0, 0)) (blk_g BK309.out) hb); replace HB := zA (belt hb); obtain ⟨Ao14, co14, eo14⟩ := Kd.R_slice HO313.out; subst eo14))
       go_ret
       exact ⟨_, by first | rfl | (simp [errW_none, errW_some] <;> rfl) | (simp [*, errW_none, errW_some] <;> rfl), by first | exact Kd.S_nil _ _ _ _ _ | exact Kd.N_nil _ _ _ _ _ | exact Kd.V_nil _ _ _ _ _ | exact Kd.Q_nil _ _ _ _ _ | exact Kd.R_nil _ _ _ _ _, bel⟩
      ·rw [if_neg c11] at H
       have c11b0 : ((t311.length : Int) == 0) = false := beq_eq_false_iff_ne.mpr c11
       have c11b1 : ((t311.length : Int) != 0) = true := bne_iff_ne.mpr c11
       have c11b2 : ¬ (t311 = []) := fun h_ => c11 (by rw [h_]; rfl)
       by_cases c15 : x11_1.length < 5864062014805
       ·rw [if_pos c15] at H
        have LMc15 := zA c15
        clear c15
        obtain ⟨y314, hy314⟩ : ∃ y_ : List (List Int), y_ = (x11_1 ++ [t311]) := ⟨_, rfl⟩
        replace H : (drops_Drops.l0 k1 a1 a2 l3 y314 l4 (l4.length : Int) (wrap64 (x17_1 + 1)) a0_0 a0_1 a0_2) = some r := zC H hy314
        have Ny314 := zA hy314
        clear hy314
        have H' := zA H
        clear H
        have p310 : 0 ≤ (x17_1 : Int) := of_decide_eq_true asu
        have q310 : x17_1 < (l4.length : Int) := of_decide_eq_true asu
        obtain ⟨ad310, e310, hx310_0⟩ := Kd.at_int HR4.out x17_1 p310 q310
        cases e310
        replace hx310_0 := (HB.out.cell (World.block_lt_of_cell? w _ hx310_0)).trans hx310_0
        replace p310 := eq_true p310
        replace q310 := eq_true q310
        obtain ⟨hcz16_0, hcz16_1, hcz16_2, hfz16_0, hfz16_1, hfz16_2⟩ := box3 BK309.out
        go_wp2_with (first | ((with_reducible refine gate_callee (f := 84) rfl ?_); refine goesL_ (some 26) rfl rfl Try.func84 (by kernel_rfl) rfl #[.agg #[.int .i64 a0_0, .int .i64 a0_1, .int .i64 a0_2], .int .i64 a1, .int .i64 a2, .slice A3 l3.length c3, .int .i64 (rd l4 x17_1)] rfl agl ?_; (with_reducible refine (drops_Drop.calls k1 a0_0 a0_1 a0_2 a1 a2 (fun k_ => k_ < w.heap.size) _ _ l3 (rd l4 x17_1) t311 _ ?side1 A10.out).mono ?_); (case side1 => exact Kd.V_mk HC3.out (Kd.F_below (Kd.C_F (Kd.heap_slice 5 (Kd.heap_int .u8)) HR3.out) bel)); rintro e w17 ⟨v312, rfl, ho0, hb⟩; refine ⟨_, rfl, ?_⟩; replace HO_11 := zA (Kd.S_elder' (S_g HO_11.out) (Kd.R_base ho0) hb); have HO313 := zA (Kd.R_lower (Kd.R_mono (ok' := fun k_ => True) ho0 (fun _ hk_ => trivial)) bels); replace BK309 := zA (blk_below (g := gb309) (o := .cells #[.int .i64 a0_0, .int .i64 a0_1, .int .i64 a0_2] 24 (0, 0)) (blk_g BK309.out) hb); replace HB := zA (belt hb); obtain ⟨Ao18, co18, eo18⟩ := Kd.R_slice HO313.out; subst eo18) | ((with_reducible refine gate_builtin (b := .append) (xs := #[.tmp 30, .tmp 32]) rfl ?_); at_builtin; refine Kd.S_append (Kd.slice 5 (Kd.int .u8)) (w0 := w) w.heap.size rfl (.tmp 30) (.tmp 32) 28 31 (.slice none 0 0) 24 rfl Try.underlying28 info31 rfl (by decide) (by omega) u11 x11_1 t311 [.slice Ao18 t311.length co18] (fun _ => True) (fun k_ => some k_ = (.slice Ao18 t311.length co18 : Value).ownBlock) rfl rfl ?aP (fun k_ hk_ => ((Kd.R_mono (ok' := fun k_ => ((fun _ => True)) k_ ∧ some k_ ≠ (u11 : Value).ownBlock) (Kd.R_apart' (HO313.out) (Kd.S_typed HO_11.out) (by decide)) (fun k_ hk => ⟨trivial, hk.2⟩))).1 k_ hk_.symm) ?aF ?aO ?aB ?aS ?aL ?_; (case aP => exact Kd.M_row (Kd.R_mono (Kd.R_tight rfl (Kd.R_mono (ok' := fun k_ => ((fun _ => True)) k_ ∧ some k_ ≠ (u11 : Value).ownBlock) (Kd.R_apart' (HO313.out) (Kd.S_typed HO_11.out) (by decide)) (fun k_ hk => ⟨trivial, hk.2⟩))) (fun _ h_ => h_))); (case aB => exact bel); (case aF => exact (fun _ _ => trivial)); (case aO => exact (S_g (Kd.S_mono HO_11.out (fun k_ hk => ⟨trivial, fun e_ => hk.2 e_⟩)))); (case aS => exact bels); (case aL => have := LMc15.out; omega); intro v315 w19 ho hb hg hat; rw [← Ny314.out] at ho; replace BK309 := zA (blk_grown (g := gb309) (o := .cells #[.int .i64 a0_0, .int .i64 a0_1, .int .i64 a0_2] 24 (0, 0)) (blk_g BK309.out) hg (Kd.S_ne HO_11.out BK309.out (by decide))); replace HB := zA (hb); have HO316 := zA (ho); clear HO_11 HO313; clear ho hb hg hat))
        go_roundg k1
        case measure => have := HK1.out; omega
        case rel => exact ⟨(y314), (wrap64 (x17_1 + 1)), frs, H', ⟨by have := HK1.out; omega⟩, ⟨rdS HO316.out⟩, ⟨rdB BK309.out⟩, ⟨bel⟩⟩
       ·rw [if_neg c15] at H
        exact absurd H (by simp)
     ·rw [if_neg c9] at H
      exact absurd H (by simp)
    ·rw [if_neg c8] at H
     exact absurd H (by simp)
   ·rw [if_neg c7] at H
    have c7b0 : decide (x17_1 < (l4.length : Int)) = false := decide_eq_false c7
    clear c7
    obtain rfl := Option.some.inj H
    go_wp2
    go_ret
    exact ⟨_, by first | rfl | (simp [errW_none, errW_some] <;> rfl) | (simp [*, errW_none, errW_some] <;> rfl), rdS HO_11.out, bel⟩
noncomputable def fountainlaw11_num.f (a0 : Int) : Option (Int) := some a0
theorem fountainlaw11_num.calls (a0 : Int) (r : Int) (w : World) (h : fountainlaw11_num.f a0 = some r) :
 Calls Try.prog 58 #[.int .i64 a0] w fun e w' => e = .returned (.int .i64 r) ∧ Drawn0 w w' := by
 have H : (some a0) = some r := h
 clear h
 obtain rfl := Option.some.inj H
 go_enter Try.func58, Try.ntmps58
 go_wp2
 go_ret
 exact ⟨by first | rfl | (simp; done) | (simp [*]; done), by repeat (first | exact Drawn0.refl _ | apply Drawn0.step)⟩
noncomputable def fountainlaw11_drops.l0 : Nat → List Int → List (List Int) → List (S111) → Int → Option ((List (S111)))
 | 0, _, _, _, _ => none
 | k + 1, x0, x1, x5, x6 => if x6 < (x0.length : Int) then (if 0 ≤ x6 then (if x6 < (x1.length : Int) then (if ([] : List Int).length + (rd_L1 x1 x6).length < 140737488355328 then (if x5.length < 4398046511104 then (fountainlaw11_drops.l0 k x0 x1 (x5 ++ [(⟨rd x0 x6, (([] : List Int) ++ (rd_L1 x1 x6))⟩ : S111)]) (wrap64 (x6 + 1))) else (none)) else (none)) else (none)) else (none)) else (some x5)
noncomputable def fountainlaw11_drops.f (k : Nat) (l0 : List Int) (l1 : List (List Int)) : Option ((List (S111))) := fountainlaw11_drops.l0 k l0 l1 ([] : List (S111)) 0
def fountainlaw11_drops.T5 : Bool × List (List Nat × List Nat) := (true, [([], []), ([], []), ([], []), ([1, 2], [1, 2]), ([3], [3]), ([], []), ([], []), ([5, 6], [5, 6]), ([7], [7]), ([8], [8]), ([4, 9], [4, 9]), ([10], [10]), ([0, 11, 9], [0, 11]), ([12, 12, 0, 1, 2, 3, 4, 5, 6, 7, 8, 9, 10, 11, 12], [0, 12])])
def fountainlaw11_drops.B5 : List Nat := [0, 0, 0, 6, 14, 0, 0, 96, 224, 480, 1022, 2046, 4095, 8191]
theorem fountainlaw11_drops.tab5 : rtab .any (opsOf Try.f56 5) = fountainlaw11_drops.T5 := by kernel_rfl
theorem fountainlaw11_drops.bits5 : waitsOk fountainlaw11_drops.T5.2 fountainlaw11_drops.B5 = true := by kernel_rfl
theorem fountainlaw11_drops.calls (k : Nat) (A0 : Option Addr) (c0 : Nat) (l0 : List Int) (A1 : Option Addr) (c1 : Nat) (l1 : List (List Int)) (r : List (S111)) (w : World) (hr0 : Kd.C (Kd.int .i64) w A0 l0.length l0) (hc0 : l0.length ≤ c0) (hr1 : Kd.C (Kd.slice 5 (Kd.int .u8)) w A1 l1.length l1) (hc1 : l1.length ≤ c1) (h : fountainlaw11_drops.f k l0 l1 = some r) :
 Calls Try.prog 56 #[.slice A0 l0.length c0, .slice A1 l1.length c1] w fun e w' => ∃ v0_ : Value, e = .returned (v0_) ∧ Kd.S k111 111 w' w.heap.size (fun _ => True) v0_ r ∧ Below w.heap.size w w' := by
 have hu111 := Try.underlying111
 have HR0 := zA hr0
 have HC0 := zA hc0
 clear hr0 hc0
 have HR1 := zA hr1
 have HC1 := zA hc1
 clear hr1 hc1
 have HB := zA (Below.refl w.heap.size w)
 have H : (fountainlaw11_drops.l0 k l0 l1 ([] : List (S111)) 0) = some r := h
 clear h
 have H' := zA H
 clear H
 go_enter Try.func56, Try.ntmps56
 go_wp2
 go_loopg [5, 6] k (fun kq v5 v6 w' => ∃ (x5_1 : List (S111)) (x6_1 : Int), v6 = .int .i64 x6_1 ∧ Aside0 (fountainlaw11_drops.l0 kq l0 l1 x5_1 x6_1 = some r) ∧ Aside0 (kq ≤ k) ∧ Aside0 (Kd.S k111 111 w' w.heap.size (fun _ => True) v5 x5_1) ∧ Aside0 (Below w.heap.size w w'))
 case atStart => exact ⟨(([] : List (S111))), (0), frs, H', ⟨Nat.le_refl _⟩, ⟨by first | exact Kd.S_nil _ _ _ _ _ | exact Kd.N_nil _ _ _ _ _ | exact Kd.V_nil _ _ _ _ _ | exact Kd.Q_nil _ _ _ _ _ | exact Kd.R_nil _ _ _ _ _⟩, ⟨bel⟩⟩
 case round =>
  clear H'
  obtain ⟨x5_1, x6_1, rfl, HA, HK1, HO_5, HB⟩ := hrel
  cases gk with
  | zero => exact absurd HA.out (by simp [fountainlaw11_drops.l0])
  | succ k1 =>
   have H := HA.out
   clear HA
   simp only [fountainlaw11_drops.l0] at H
   by_cases c3 : x6_1 < (l0.length : Int)
   ·rw [if_pos c3] at H
    have c3b0 : decide (x6_1 < (l0.length : Int)) = true := decide_eq_true c3
    clear c3
    by_cases c4 : 0 ≤ x6_1
    ·rw [if_pos c4] at H
     have c4b0 : decide (0 ≤ x6_1) = true := decide_eq_true c4
     clear c4
     by_cases c5 : x6_1 < (l1.length : Int)
     ·rw [if_pos c5] at H
      have c5b0 : decide (x6_1 < (l1.length : Int)) = true := decide_eq_true c5
      clear c5
      by_cases c6 : ([] : List Int).length + (rd_L1 l1 x6_1).length < 140737488355328
      ·rw [if_pos c6] at H
       have LMc6 := zA c6
       clear c6
       obtain ⟨y332, hy332⟩ : ∃ y_ : List Int, y_ = (([] : List Int) ++ (rd_L1 l1 x6_1)) := ⟨_, rfl⟩
       replace H : (if x5_1.length < 4398046511104 then (fountainlaw11_drops.l0 k1 l0 l1 (x5_1 ++ [(⟨rd l0 x6_1, y332⟩ : S111)]) (wrap64 (x6_1 + 1))) else (none)) = some r := zC H hy332
       have Ny332 := zA hy332
       clear hy332
       by_cases c7 : x5_1.length < 4398046511104
       ·rw [if_pos c7] at H
        have LMc7 := zA c7
        clear c7
        obtain ⟨y335, hy335⟩ : ∃ y_ : List (S111), y_ = (x5_1 ++ [(⟨rd l0 x6_1, y332⟩ : S111)]) := ⟨_, rfl⟩
        replace H : (fountainlaw11_drops.l0 k1 l0 l1 y335 (wrap64 (x6_1 + 1))) = some r := zC H hy335
        have Ny335 := zA hy335
        clear hy335
        have H' := zA H
        clear H
        try go_wp2
        replace HO_5 := zA (Kd.S_drew HO_5.out)
        replace HB := zA (below_drew1 HB.out)
        have p330 : 0 ≤ (x6_1 : Int) := of_decide_eq_true asu
        have q330 : x6_1 < (l0.length : Int) := of_decide_eq_true asu
        obtain ⟨ad330, e330, hx330_0⟩ := Kd.at_int HR0.out x6_1 p330 q330
        have hw330_0 := hx330_0
        cases e330
        replace hx330_0 := (HB.out.cell (World.block_lt_of_cell? w _ hx330_0)).trans hx330_0
        replace p330 := eq_true p330
        replace q330 := eq_true q330
        have p331 : 0 ≤ (x6_1 : Int) := of_decide_eq_true asu
        have q331 : x6_1 < (l1.length : Int) := of_decide_eq_true asu
        obtain ⟨ad331, A331_0, c331_0, e331, hx331_0, hl331_0, hi331_0⟩ := at_L1 HR1.out x6_1 p331 q331
        have hw331_0 := hx331_0
        cases e331
        replace hx331_0 := (HB.out.cell (World.block_lt_of_cell? w _ hx331_0)).trans hx331_0
        have HR331_0 := zA hi331_0
        have HC331_0 := zA hl331_0
        clear hi331_0 hl331_0
        replace p331 := eq_true p331
        replace q331 := eq_true q331
        refine start_ (n := 14) (S := fun w' => w'.cell? (ad330.add (x6_1).toNat) = some (.int .i64 (rd l0 x6_1)) ∧ w'.cell? (ad331.add (x6_1).toNat) = some (.slice A331_0 (rd_L1 l1 x6_1).length c331_0)) (ds := []) (ms 14 0) (by kernel_rfl) rfl rfl ⟨((HB.out.cell (World.block_lt_of_cell? w _ hw330_0)).trans hw330_0), ((HB.out.cell (World.block_lt_of_cell? w _ hw331_0)).trans hw331_0)⟩ (fun hHeld => ?_); refine with_tabW fountainlaw11_drops.tab5 fountainlaw11_drops.bits5 (fun HT_ HW_ => ?_)
        generalize wr.drew = w8 at HO_5 HB HR331_0 hx330_0 hx331_0 hHeld ⊢
        refine run_ [(0, false, some 13), (1, false, some 14), (2, false, some 15), (3, false, some 16), (5, false, some 18), (6, false, some 19), (7, false, some 20), (4, true, some 17), (8, true, some 21)] (n := 9) (ms 14 511) rfl HT_.out HW_.out (by kernel_rfl) (fun _ _ _ _ h => h) hHeld ?_
        repeat (first | (refine Run.p (v := ?_) (a' := ?_) rfl rfl (Or.inl ⟨by rfl, ?_⟩) ?_ ?_; rotate_left; (focus intro w'; go_simp; with_reducible rfl); rotate_left; (focus simp only [Act.put, sx]; rfl)) | (refine Run.t (v := ?_) (a' := ?_) rfl rfl (Or.inl ⟨by rfl, ?_⟩) ?_ ?_; rotate_left; (focus rintro w' ⟨s0, s1⟩; go_simp; with_reducible rfl); rotate_left; (focus simp only [Act.put, sx]; rfl)))
        refine Run.nil ?_
        refine one_ (i := 9) (N := some 22) (ms 14 1023) rfl rfl (one_of HT_.out (by kernel_rfl)) (by decide) (fun K hK => ?_)
        refine Kd.R_append_rows_step (Kd.int .u8) (w0 := w) w.heap.size (by rfl) (.const (.slice none 0 0)) (.tmp 21) 30 5 (.int .u8 0) 1 rfl Try.underlying30 info5 rfl (by decide) (by omega) (.slice none 0 0) ([] : List Int) (rd_L1 l1 x6_1) _ _ _ (fun _ => True) (fun _ => False) rfl rfl ?aO ?aR (fun _ _ h => h) (fun _ h => h.elim) ?aF ?aB ?aS ?aL ?_
        (case aR => repeat (first | exact (Kd.C_below HR331_0.out HB.out) | (with_reducible refine Kd.C_alloc ?_ _) | (with_reducible refine Kd.C_drewN ?_ _) | (with_reducible refine Kd.C_drew ?_)))
        (case aB => exact bel)
        (case aF => exact (fun _ _ => trivial))
        (case aO => exact ((Kd.R_nil _ _ _ _ (fun _ => True))))
        (case aS => exact bels)
        (case aL => have := LMc6.out; omega)
        intro v333 w9 ho hb hg hat
        rw [← Ny332.out] at ho
        replace HO_5 := zA (Kd.S_after (Kd.S_apart_nil (S_g HO_5.out)) hg hat)
        replace HB := zA (hb)
        have HO334 := zA (ho)
        clear ho hb hg hat
        obtain ⟨Ao10, co10, eo10⟩ := Kd.R_slice HO334.out
        (first | subst eo10 | (injection eo10 with f1_ f2_ f3_; have f4_ := f1_.symm; have f5_ := f3_.symm; clear f1_ f2_ f3_; subst f4_; subst f5_))
        refine hK.out _ _ ⟨((HB.out.cell (World.block_lt_of_cell? w _ hw330_0)).trans hw330_0), ((HB.out.cell (World.block_lt_of_cell? w _ hw331_0)).trans hw331_0)⟩ (fun hHeld => ?_)
        clear hK K
        refine norm_ (a' := ?_) ?_ ?_
        rotate_left
        ·show Act.put _ (some 22) _ = _
         simp only [Act.put, sx]
         rfl
        refine pure_ (i := 10) (N := some 23) (v := ?_) (a' := ?_) (ms 14 2047) rfl rfl (any_of HT_.out (by kernel_rfl)) (fun _ _ _ h => h) (Or.inl ⟨by rfl, ?_⟩) ?_ ?_
        rotate_left
        ·intro w'
         go_simp
         with_reducible rfl
        rotate_left
        ·simp only [Act.put, sx]
         rfl
        refine one_ (i := 11) (N := some 24) (ms 14 4095) rfl rfl (one_of HT_.out (by kernel_rfl)) (by decide) (fun K hK => ?_)
        refine value_ (w1 := ?_) (v := ?_) (by rfl) rfl ?_ ?_
        rotate_left 2
        ·go_simp
         constructor
         ·rfl
         ·rfl
        refine hK.out _ _ ⟨(World.cell?_alloc_lt _ _ _ (World.block_lt_of_cell? _ _ (((HB.out.cell (World.block_lt_of_cell? w _ hw330_0)).trans hw330_0)))).trans (((HB.out.cell (World.block_lt_of_cell? w _ hw330_0)).trans hw330_0)), (World.cell?_alloc_lt _ _ _ (World.block_lt_of_cell? _ _ (((HB.out.cell (World.block_lt_of_cell? w _ hw331_0)).trans hw331_0)))).trans (((HB.out.cell (World.block_lt_of_cell? w _ hw331_0)).trans hw331_0))⟩ (fun hHeld => ?_)
        clear hK K
        refine norm_ (a' := ?_) ?_ ?_
        rotate_left
        ·show Act.put _ (some 24) _ = _
         simp only [Act.put, sx]
         rfl
        refine one_ (i := 12) (N := some 25) (ms 14 8191) rfl rfl (one_of HT_.out (by kernel_rfl)) (by decide) (fun K hK => ?_)
        refine Kd.S_append_step k111 (w0 := w) w.heap.size (by rfl) (.tmp 13) (.tmp 24) 80 111 (.agg #[(.int .i64 0), (.slice none 0 0)]) 32 rfl Try.underlying80 info111 rfl (by decide) (by omega) u5 x5_1 (⟨rd l0 x6_1, y332⟩ : S111) [.int .i64 (rd l0 x6_1), .slice Ao10 y332.length co10] (fun _ => True) (fun k_ => some k_ = (.slice Ao10 y332.length co10 : Value).ownBlock) rfl rfl ?aP (fun k_ hk_ => ((Kd.R_mono (ok' := fun k_ => ((fun _ => True)) k_ ∧ some k_ ≠ (u5 : Value).ownBlock) (Kd.R_apart' (HO334.out) (Kd.S_typed HO_5.out) (by decide)) (fun k_ hk => ⟨trivial, hk.2⟩))).1 k_ hk_.symm) ?aF ?aO ?aB ?aS ?aL ?_
        (case aP => exact k111_mkM _ _ _ (⟨rd l0 x6_1, y332⟩ : S111) (Kd.R_mono (Kd.R_tight rfl (Kd.R_mono (ok' := fun k_ => ((fun _ => True)) k_ ∧ some k_ ≠ (u5 : Value).ownBlock) (Kd.R_apart' (HO334.out) (Kd.S_typed HO_5.out) (by decide)) (fun k_ hk => ⟨trivial, hk.2⟩))) (fun _ h_ => h_)))
        (case aB => exact bel)
        (case aF => exact (fun _ _ => trivial))
        (case aO => exact (S_g (Kd.S_mono HO_5.out (fun k_ hk => ⟨trivial, fun e_ => hk.2 e_⟩))))
        (case aS => exact bels)
        (case aL => have := LMc7.out; omega)
        intro v336 w11 ho hb hg hat
        rw [← Ny335.out] at ho
        replace HB := zA (hb)
        have HO337 := zA (ho)
        clear HO_5 HO334
        clear ho hb hg hat
        refine hK.out _ _ ⟨((HB.out.cell (World.block_lt_of_cell? w _ hw330_0)).trans hw330_0), ((HB.out.cell (World.block_lt_of_cell? w _ hw331_0)).trans hw331_0)⟩ (fun hHeld => ?_)
        clear hK K
        refine norm_ (a' := ?_) ?_ ?_
        rotate_left
        ·show Act.put _ (some 25) _ = _
         simp only [Act.put, sx]
         rfl
        refine pure_ (i := 13) (N := some 5) (v := ?_) (a' := ?_) (ms 14 16383) rfl rfl (any_of HT_.out (by kernel_rfl)) (fun _ _ _ h => h) (Or.inl ⟨by rfl, ?_⟩) ?_ ?_
        rotate_left
        ·intro w'
         go_simp
         with_reducible rfl
        rotate_left
        ·simp only [Act.put, sx]
         rfl
        refine done_ (done_of HT_.out (by kernel_rfl)) ?_
        try go_wp2
        go_roundg k1
        case measure => have := HK1.out; omega
        case rel => exact ⟨(y335), (wrap64 (x6_1 + 1)), frs, H', ⟨by have := HK1.out; omega⟩, ⟨rdS HO337.out⟩, ⟨bel⟩⟩
       ·rw [if_neg c7] at H
        exact absurd H (by simp)
      ·rw [if_neg c6] at H
       exact absurd H (by simp)
     ·rw [if_neg c5] at H
      exact absurd H (by simp)
    ·rw [if_neg c4] at H
     exact absurd H (by simp)
   ·rw [if_neg c3] at H
    have c3b0 : decide (x6_1 < (l0.length : Int)) = false := decide_eq_false c3
    clear c3
    obtain rfl := Option.some.inj H
    go_wp2
    go_ret
    exact ⟨_, by first | rfl | (simp [errW_none, errW_some] <;> rfl) | (simp [*, errW_none, errW_some] <;> rfl), rdS HO_5.out, bel⟩
end Go.Proofs.Ytbfhinfblepidaa.PDecodeTells
