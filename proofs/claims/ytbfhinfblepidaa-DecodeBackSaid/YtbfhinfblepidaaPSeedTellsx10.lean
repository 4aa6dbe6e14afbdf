/- Written by a program (this session's own): functions that the law reaches, as plain Lean functions, each with the proof that the code comes to it. No conditions but those that stand in the theorems. -/
import Derived.Test.YtbfhinfblepidaaPq
import Derived.Test.YtbfhinfblepidaaPSolveTellsx
import Derived.Test.YtbfhinfblepidaaPa
import Derived.Test.YtbfhinfblepidaaPSeedTellsx3
import Derived.Test.YtbfhinfblepidaaPSeedTellsx7
set_option maxHeartbeats 8000000
set_option maxRecDepth 100000
namespace Go.Proofs.Ytbfhinfblepidaa.PSeedTells
open Go.RowKit Go.Proofs.YtbfhinfblepidaaW.PrintWords Go.Proofs.YtbfhinfblepidaaW.PrintLast Go.Proofs.YtbfhinfblepidaaW.PrintMore Go.Proofs.Ytbfhinfblepidaa.PSolveTells
attribute [local go_sem] max2_int min2_int max_two min_two max_three min_three max_four min_four
set_option linter.unusedVariables false
set_option linter.unusedSimpArgs false
noncomputable def seed_Find.l0 : Nat → Int → Int → Int → Int → Int → Option (Int × Int)
 | 0, _, _, _, _, _ => none
 | k + 1, x0, x15, x259000, x259001, x259002 => if x15 < 256 then ((params_Params_L.f x259000 x259001 x259002).bind fun t259 => ((seed_Sources.f k x0).bind fun t260 => ((precode_Matrix.f k x259000 x259001 x259002 x15 t260).bind fun t263 => ((Pz.rank.f t259 t263).bind fun t266 => ((params_Params_L.f x259000 x259001 x259002).bind fun t267 => (if t266 = t267 then (some (x15, 0)) else (seed_Find.l0 k x0 (wrap64 (x15 + 1)) x259000 x259001 x259002))))))) else (some (0, 5))
noncomputable def seed_Find.f (k : Nat) (a0 : Int) : Option (Int × Int) := (params_Of.f a0).bind fun bt254 => (if bt254.2.2.2 = 0 then (seed_Find.l0 k a0 0 bt254.1 bt254.2.1 bt254.2.2.1) else (some (0, bt254.2.2.2)))
def seed_Find.T7 : Bool × List (List Nat × List Nat) := (true, [([], []), ([0], [0]), ([], []), ([], []), ([], []), ([4, 1], [4]), ([2, 3, 5, 5], [2, 3, 5]), ([1, 6, 6], [1, 6]), ([], []), ([8, 7], [8]), ([7, 9], [7, 9])])
def seed_Find.B7 : List Nat := [0, 1, 0, 0, 0, 19, 63, 127, 0, 511, 1023]
theorem seed_Find.tab7 : rtab .any (opsOf Try.f42 7) = seed_Find.T7 := by kernel_rfl
theorem seed_Find.bits7 : waitsOk seed_Find.T7.2 seed_Find.B7 = true := by kernel_rfl
theorem seed_Find.calls (k : Nat) (a0 : Int) (r1 : Int) (r2 : Int) (w : World) (h : seed_Find.f k a0 = some (r1, r2)) :
 Calls Try.prog 42 #[.int .i64 a0] w fun e w' => e = .returned (.tuple #[.int .i64 r1, .int .i64 r2]) ∧ Below w.heap.size w w' := by
 have hu24 := Try.underlying24
 have HB := zA (Below.refl w.heap.size w)
 have H : ((params_Of.f a0).bind fun bt254 => (if bt254.2.2.2 = 0 then (seed_Find.l0 k a0 0 bt254.1 bt254.2.1 bt254.2.2.1) else (some (0, bt254.2.2.2)))) = some (r1, r2) := h
 clear h
 replace H := Option.bind_eq_some_iff.mp H
 obtain ⟨⟨t254, t255, t256, t257⟩, A20, H⟩ := H
 try dsimp only at H
 have A2 := zA A20
 clear A20
 by_cases c3 : t257 = 0
 ·rw [if_pos c3] at H
  have c3b0 : (t257 == 0) = true := beq_iff_eq.mpr c3
  have c3b1 : (t257 != 0) = false := bne_eq_false_iff_eq.mpr c3
  clear c3
  have H' := zA H
  clear H
  go_enter Try.func42, Try.ntmps42
  go_wp2_with (first | ((with_reducible refine gate_callee (f := 19) rfl ?_); refine goesL_ (some 9) rfl rfl Try.func19 (by kernel_rfl) rfl #[.int .i64 a0] rfl agl ?_; (with_reducible refine (params_Of.calls a0 t254 t255 t256 t257 _ A2.out).mono ?_); rintro e w4 ⟨rfl, hb⟩; refine ⟨_, rfl, ?_⟩; replace HB := zA (belt hb)) | ((with_reducible refine gate_dst (N := 4) rfl ?_); refine box_event ?hg (N := 4) ?hd (cs := #[.int .i64 0, .int .i64 0, .int .i64 0]) (t := 24) ?hr ?_; (case hd => rfl); (case hg => rfl); (case hr => first | (go_simp; done) | (go_simp; rfl)); intro gb258 hg w5 hbox hb; have BK258 := zA (hbox); have GW258 := zA ((by rw [hg]; exact bels : w.heap.size ≤ gb258)); have GE258 := zA ((by rw [hg]; exact bels : w.heap.size ≤ gb258)); replace HB := zA (belt hb); clear hb hbox hg; obtain ⟨hcz6_0, hcz6_1, hcz6_2, hfz6_0, hfz6_1, hfz6_2⟩ := box3 BK258.out))
  go_loopg [15] k (fun kq v15 w' => ∃ (x15_1 : Int), v15 = .int .i64 x15_1 ∧ Aside0 (seed_Find.l0 kq a0 x15_1 t254 t255 t256 = some (r1, r2)) ∧ Aside0 (kq ≤ k) ∧ Aside0 (w'.heap[gb258]? = some (.cells #[.int .i64 t254, .int .i64 t255, .int .i64 t256] 24 (0, 0))) ∧ Aside0 (Below w.heap.size w w'))
  case atStart => exact ⟨(0), frs, H', ⟨Nat.le_refl _⟩, ⟨by (with_reducible repeat (first | refine blk_drewN ?_ _ | refine blk_drew ?_ | refine blk_alloc ?_ _)); refine blk_put (cs := #[.int .i64 t254, .int .i64 t255, .int .i64 0]) ?_ 2 _ rfl; (with_reducible repeat (first | refine blk_drewN ?_ _ | refine blk_drew ?_ | refine blk_alloc ?_ _)); refine blk_put (cs := #[.int .i64 t254, .int .i64 0, .int .i64 0]) ?_ 1 _ rfl; (with_reducible repeat (first | refine blk_drewN ?_ _ | refine blk_drew ?_ | refine blk_alloc ?_ _)); refine blk_put (cs := #[.int .i64 0, .int .i64 0, .int .i64 0]) ?_ 0 _ rfl; (with_reducible repeat (first | refine blk_drewN ?_ _ | refine blk_drew ?_ | refine blk_alloc ?_ _)); exact BK258.out⟩, ⟨bel⟩⟩
  case round =>
   clear H'
   obtain ⟨x15_1, rfl, HA, HK1, BK258, HB⟩ := hrel
   cases gk with
   | zero => exact absurd HA.out (by simp [seed_Find.l0])
   | succ k1 =>
    have H := HA.out
    clear HA
    simp only [seed_Find.l0] at H
    by_cases c7 : x15_1 < 256
    ·rw [if_pos c7] at H
     have c7b0 : decide (x15_1 < 256) = true := decide_eq_true c7
     clear c7
     replace H := Option.bind_eq_some_iff.mp H
     obtain ⟨t259, A80, H⟩ := H
     try dsimp only at H
     have A8 := zA A80
     clear A80
     replace H := Option.bind_eq_some_iff.mp H
     obtain ⟨t260, A90, H⟩ := H
     try dsimp only at H
     have A9 := zA A90
     clear A90
     replace H := Option.bind_eq_some_iff.mp H
     obtain ⟨t263, A100, H⟩ := H
     try dsimp only at H
     have A10 := zA A100
     clear A100
     replace H := Option.bind_eq_some_iff.mp H
     obtain ⟨t266, A110, H⟩ := H
     try dsimp only at H
     have A11 := zA A110
     clear A110
     replace H := Option.bind_eq_some_iff.mp H
     obtain ⟨t267, A120, H⟩ := H
     try dsimp only at H
     have A12 := zA A120
     clear A120
     by_cases c13 : t266 = t267
     ·rw [if_pos c13] at H
      have c13b0 : (t266 == t267) = true := beq_iff_eq.mpr c13
      have c13b1 : (t266 != t267) = false := bne_eq_false_iff_eq.mpr c13
      clear c13
      simp only [Option.some.injEq, Prod.mk.injEq] at H
      obtain ⟨rfl, rfl⟩ := H
      try go_wp2
      replace BK258 := zA (blk_drew BK258.out)
      replace HB := zA (below_drew1 HB.out)
      refine start_ (n := 11) (S := fun w' => w'.cell? ⟨gb258, 0, none⟩ = some (.int .i64 t254) ∧ w'.cell? ⟨gb258, 1, none⟩ = some (.int .i64 t255) ∧ w'.cell? ⟨gb258, 2, none⟩ = some (.int .i64 t256)) (ds := []) (ms 11 0) (by kernel_rfl) rfl rfl ⟨(blk_cell BK258.out 0).trans rfl, (blk_cell BK258.out 1).trans rfl, (blk_cell BK258.out 2).trans rfl⟩ (fun hHeld => ?_); refine with_tabW seed_Find.tab7 seed_Find.bits7 (fun HT_ HW_ => ?_)
      generalize wr.drew = w14 at BK258 HB hHeld ⊢
      refine run_ [(3, false, some 21), (4, false, some 22), (0, true, some 18), (2, true, some 20), (8, true, some 26)] (n := 5) (ms 11 285) rfl HT_.out HW_.out (by kernel_rfl) (fun _ _ _ _ h => h) hHeld ?_
      repeat (first | (refine Run.p (v := ?_) (a' := ?_) rfl rfl (Or.inl ⟨by rfl, ?_⟩) ?_ ?_; rotate_left; (focus intro w'; go_simp; with_reducible rfl); rotate_left; (focus simp only [Act.put, sx]; rfl)) | (refine Run.t (v := ?_) (a' := ?_) rfl rfl (Or.inl ⟨by rfl, ?_⟩) ?_ ?_; rotate_left; (focus rintro w' ⟨s0, s1, s2⟩; go_simp; with_reducible rfl); rotate_left; (focus simp only [Act.put, sx]; rfl)))
      refine Run.nil ?_
      refine one_ (i := 1) (N := some 19) (ms 11 287) rfl rfl (one_of HT_.out (by kernel_rfl)) (by decide) (fun K hK => ?_)
      refine goes_ Try.func22 (by kernel_rfl) rfl #[.agg #[.int .i64 t254, .int .i64 t255, .int .i64 t256]] (by rfl) rfl rfl agl ?_
      with_reducible refine (params_Params_L.calls t254 t255 t256 t259 _ A8.out).mono ?_
      rintro e w15 ⟨rfl, hb⟩
      refine ⟨_, rfl, ?_⟩
      replace BK258 := zA (blk_below (g := gb258) (o := .cells #[.int .i64 t254, .int .i64 t255, .int .i64 t256] 24 (0, 0)) (blk_g BK258.out) hb)
      replace HB := zA (belt hb)
      (try clear hb)
      (try clear hb2)
      (try clear hk)
      (try clear hi)
      refine hK.out _ _ ⟨(blk_cell BK258.out 0).trans rfl, (blk_cell BK258.out 1).trans rfl, (blk_cell BK258.out 2).trans rfl⟩ (fun hHeld => ?_)
      clear hK K
      refine norm_ (a' := ?_) ?_ ?_
      rotate_left
      ·show Act.put _ (some 19) _ = _
       simp only [Act.put, sx]
       rfl
      refine one_ (i := 5) (N := some 23) (ms 11 319) rfl rfl (one_of HT_.out (by kernel_rfl)) (by decide) (fun K hK => ?_)
      refine goes_ Try.func78 (by kernel_rfl) rfl #[.int .i64 a0] (by rfl) rfl rfl agl ?_
      with_reducible refine (seed_Sources.calls k1 a0 t260 _ A9.out).mono ?_
      rintro e w16 ⟨v261, rfl, ho0, hb⟩
      refine ⟨_, rfl, ?_⟩
      have HO262 := zA (Kd.R_lower ho0 bels)
      replace BK258 := zA (blk_below (g := gb258) (o := .cells #[.int .i64 t254, .int .i64 t255, .int .i64 t256] 24 (0, 0)) (blk_g BK258.out) hb)
      replace HB := zA (belt hb)
      (try clear hb)
      (try clear hb2)
      (try clear hk)
      (try clear hi)
      (try clear ho0)
      obtain ⟨Ao17, co17, eo17⟩ := Kd.R_slice HO262.out
      (first | subst eo17 | (injection eo17 with f1_ f2_ f3_; have f4_ := f1_.symm; have f5_ := f3_.symm; clear f1_ f2_ f3_; subst f4_; subst f5_))
      refine hK.out _ _ ⟨(blk_cell BK258.out 0).trans rfl, (blk_cell BK258.out 1).trans rfl, (blk_cell BK258.out 2).trans rfl⟩ (fun hHeld => ?_)
      clear hK K
      refine norm_ (a' := ?_) ?_ ?_
      rotate_left
      ·show Act.put _ (some 23) _ = _
       simp only [Act.put, sx]
       rfl
      refine one_ (i := 6) (N := some 24) (ms 11 383) rfl rfl (one_of HT_.out (by kernel_rfl)) (by decide) (fun K hK => ?_)
      refine goes_ Try.func38 (by kernel_rfl) rfl #[.agg #[.int .i64 t254, .int .i64 t255, .int .i64 t256], .int .i64 x15_1, .slice Ao17 t260.length co17] (by rfl) rfl rfl agl ?_
      with_reducible refine (precode_Matrix.calls k1 t254 t255 t256 x15_1 _ _ t260 t263 _ ?side1 ?side2 A10.out).mono ?_
      (case side1 => repeat (first | exact (Kd.R_reads' HO262.out).2.2 | (with_reducible refine Kd.C_alloc ?_ _) | (with_reducible refine Kd.C_drewN ?_ _) | (with_reducible refine Kd.C_drew ?_)))
      (case side2 => exact (Kd.R_reads' HO262.out).2.1)
      rintro e w18 ⟨v264, rfl, ho0, hb⟩
      refine ⟨_, rfl, ?_⟩
      have HO265 := zA (Kd.N_lower (Kd.N_mono (ok' := fun k_ => some k_ ≠ (.slice Ao17 t260.length co17 : Value).ownBlock ∧ k_ ≠ gb258) ho0 (fun k_ hk_ => ⟨(Kd.fresh' (Kd.R_lt (R_g HO262.out)) k_ hk_), (Kd.freshB (g := gb258) (o := .cells #[.int .i64 t254, .int .i64 t255, .int .i64 t256] 24 (0, 0)) (blk_g BK258.out) k_ hk_)⟩)) bels)
      replace HO262 := zA (Kd.R_below (R_g HO262.out) hb)
      replace BK258 := zA (blk_below (g := gb258) (o := .cells #[.int .i64 t254, .int .i64 t255, .int .i64 t256] 24 (0, 0)) (blk_g BK258.out) hb)
      replace HB := zA (belt hb)
      (try clear hb)
      (try clear hb2)
      (try clear hk)
      (try clear hi)
      (try clear ho0)
      obtain ⟨Ao19, co19, eo19⟩ := Kd.N_slice HO265.out
      (first | subst eo19 | (injection eo19 with f1_ f2_ f3_; have f4_ := f1_.symm; have f5_ := f3_.symm; clear f1_ f2_ f3_; subst f4_; subst f5_))
      refine hK.out _ _ ⟨(blk_cell BK258.out 0).trans rfl, (blk_cell BK258.out 1).trans rfl, (blk_cell BK258.out 2).trans rfl⟩ (fun hHeld => ?_)
      clear hK K
      refine norm_ (a' := ?_) ?_ ?_
      rotate_left
      ·show Act.put _ (some 24) _ = _
       simp only [Act.put, sx]
       rfl
      refine one_ (i := 7) (N := some 25) (ms 11 511) rfl rfl (one_of HT_.out (by kernel_rfl)) (by decide) (fun K hK => ?_)
      refine goes_ Try.func29 (by kernel_rfl) rfl #[.int .i64 t259, .slice Ao19 t263.length co19] (by rfl) rfl rfl agl ?_
      with_reducible refine (Pz.rank.calls t259 _ _ t263 t266 _ ?side1 ?side2 A11.out).mono ?_
      (case side1 => repeat (first | exact (Kd.N_reads' HO265.out).2.2 | (with_reducible refine Kd.C_alloc ?_ _) | (with_reducible refine Kd.C_drewN ?_ _) | (with_reducible refine Kd.C_drew ?_)))
      (case side2 => exact (Kd.N_reads' HO265.out).2.1)
      rintro e w20 ⟨rfl, hb⟩
      refine ⟨_, rfl, ?_⟩
      replace HO262 := zA (Kd.R_below (R_g HO262.out) hb)
      replace HO265 := zA (Kd.N_below (N_g HO265.out) hb)
      replace BK258 := zA (blk_below (g := gb258) (o := .cells #[.int .i64 t254, .int .i64 t255, .int .i64 t256] 24 (0, 0)) (blk_g BK258.out) hb)
      replace HB := zA (belt hb)
      (try clear hb)
      (try clear hb2)
      (try clear hk)
      (try clear hi)
      refine hK.out _ _ ⟨(blk_cell BK258.out 0).trans rfl, (blk_cell BK258.out 1).trans rfl, (blk_cell BK258.out 2).trans rfl⟩ (fun hHeld => ?_)
      clear hK K
      refine norm_ (a' := ?_) ?_ ?_
      rotate_left
      ·show Act.put _ (some 25) _ = _
       simp only [Act.put, sx]
       rfl
      refine one_ (i := 9) (N := some 27) (ms 11 1023) rfl rfl (one_of HT_.out (by kernel_rfl)) (by decide) (fun K hK => ?_)
      refine goes_ Try.func22 (by kernel_rfl) rfl #[.agg #[.int .i64 t254, .int .i64 t255, .int .i64 t256]] (by rfl) rfl rfl agl ?_
      with_reducible refine (params_Params_L.calls t254 t255 t256 t267 _ A12.out).mono ?_
      rintro e w21 ⟨rfl, hb⟩
      refine ⟨_, rfl, ?_⟩
      replace HO262 := zA (Kd.R_below (R_g HO262.out) hb)
      replace HO265 := zA (Kd.N_below (N_g HO265.out) hb)
      replace BK258 := zA (blk_below (g := gb258) (o := .cells #[.int .i64 t254, .int .i64 t255, .int .i64 t256] 24 (0, 0)) (blk_g BK258.out) hb)
      replace HB := zA (belt hb)
      (try clear hb)
      (try clear hb2)
      (try clear hk)
      (try clear hi)
      refine hK.out _ _ ⟨(blk_cell BK258.out 0).trans rfl, (blk_cell BK258.out 1).trans rfl, (blk_cell BK258.out 2).trans rfl⟩ (fun hHeld => ?_)
      clear hK K
      refine norm_ (a' := ?_) ?_ ?_
      rotate_left
      ·show Act.put _ (some 27) _ = _
       simp only [Act.put, sx]
       rfl
      refine pure_ (i := 10) (N := some 28) (v := ?_) (a' := ?_) (ms 11 2047) rfl rfl (any_of HT_.out (by kernel_rfl)) (fun _ _ _ h => h) (Or.inl ⟨by rfl, ?_⟩) ?_ ?_
      rotate_left
      ·intro w'
       go_simp
       with_reducible rfl
      rotate_left
      ·simp only [Act.put, sx]
       rfl
      refine done_ (done_of HT_.out (by kernel_rfl)) ?_
      try go_wp2
      go_ret2
      exact ⟨by first | rfl | (simp [errW_none, errW_some] <;> rfl) | (simp [*, errW_none, errW_some] <;> rfl), bel⟩
     ·rw [if_neg c13] at H
      have c13b0 : (t266 == t267) = false := beq_eq_false_iff_ne.mpr c13
      have c13b1 : (t266 != t267) = true := bne_iff_ne.mpr c13
      have H' := zA H
      clear H
      try go_wp2
      replace BK258 := zA (blk_drew BK258.out)
      replace HB := zA (below_drew1 HB.out)
      refine start_ (n := 11) (S := fun w' => w'.cell? ⟨gb258, 0, none⟩ = some (.int .i64 t254) ∧ w'.cell? ⟨gb258, 1, none⟩ = some (.int .i64 t255) ∧ w'.cell? ⟨gb258, 2, none⟩ = some (.int .i64 t256)) (ds := []) (ms 11 0) (by kernel_rfl) rfl rfl ⟨(blk_cell BK258.out 0).trans rfl, (blk_cell BK258.out 1).trans rfl, (blk_cell BK258.out 2).trans rfl⟩ (fun hHeld => ?_); refine with_tabW seed_Find.tab7 seed_Find.bits7 (fun HT_ HW_ => ?_)
      generalize wr.drew = w22 at BK258 HB hHeld ⊢
      refine run_ [(3, false, some 21), (4, false, some 22), (0, true, some 18), (2, true, some 20), (8, true, some 26)] (n := 5) (ms 11 285) rfl HT_.out HW_.out (by kernel_rfl) (fun _ _ _ _ h => h) hHeld ?_
      repeat (first | (refine Run.p (v := ?_) (a' := ?_) rfl rfl (Or.inl ⟨by rfl, ?_⟩) ?_ ?_; rotate_left; (focus intro w'; go_simp; with_reducible rfl); rotate_left; (focus simp only [Act.put, sx]; rfl)) | (refine Run.t (v := ?_) (a' := ?_) rfl rfl (Or.inl ⟨by rfl, ?_⟩) ?_ ?_; rotate_left; (focus rintro w' ⟨s0, s1, s2⟩; go_simp; with_reducible rfl); rotate_left; (focus simp only [Act.put, sx]; rfl)))
      refine Run.nil ?_
      refine one_ (i := 1) (N := some 19) (ms 11 287) rfl rfl (one_of HT_.out (by kernel_rfl)) (by decide) (fun K hK => ?_)
      refine goes_ Try.func22 (by kernel_rfl) rfl #[.agg #[.int .i64 t254, .int .i64 t255, .int .i64 t256]] (by rfl) rfl rfl agl ?_
      with_reducible refine (params_Params_L.calls t254 t255 t256 t259 _ A8.out).mono ?_
      rintro e w23 ⟨rfl, hb⟩
      refine ⟨_, rfl, ?_⟩
      replace BK258 := zA (blk_below (g := gb258) (o := .cells #[.int .i64 t254, .int .i64 t255, .int .i64 t256] 24 (0, 0)) (blk_g BK258.out) hb)
      replace HB := zA (belt hb)
      (try clear hb)
      (try clear hb2)
      (try clear hk)
      (try clear hi)
      refine hK.out _ _ ⟨(blk_cell BK258.out 0).trans rfl, (blk_cell BK258.out 1).trans rfl, (blk_cell BK258.out 2).trans rfl⟩ (fun hHeld => ?_)
      clear hK K
      refine norm_ (a' := ?_) ?_ ?_
      rotate_left
      ·show Act.put _ (some 19) _ = _
       simp only [Act.put, sx]
       rfl
      refine one_ (i := 5) (N := some 23) (ms 11 319) rfl rfl (one_of HT_.out (by kernel_rfl)) (by decide) (fun K hK => ?_)
      refine goes_ Try.func78 (by kernel_rfl) rfl #[.int .i64 a0] (by rfl) rfl rfl agl ?_
      with_reducible refine (seed_Sources.calls k1 a0 t260 _ A9.out).mono ?_
      rintro e w24 ⟨v261, rfl, ho0, hb⟩
      refine ⟨_, rfl, ?_⟩
      have HO262 := zA (Kd.R_lower ho0 bels)
      replace BK258 := zA (blk_below (g := gb258) (o := .cells #[.int .i64 t254, .int .i64 t255, .int .i64 t256] 24 (0, 0)) (blk_g BK258.out) hb)
      replace HB := zA (belt hb)
      (try clear hb)
      (try clear hb2)
      (try clear hk)
      (try clear hi)
      (try clear ho0)
      obtain ⟨Ao25, co25, eo25⟩ := Kd.R_slice HO262.out
      (first | subst eo25 | (injection eo25 with f1_ f2_ f3_; have f4_ := f1_.symm; have f5_ := f3_.symm; clear f1_ f2_ f3_; subst f4_; subst f5_))
      refine hK.out _ _ ⟨(blk_cell BK258.out 0).trans rfl, (blk_cell BK258.out 1).trans rfl, (blk_cell BK258.out 2).trans rfl⟩ (fun hHeld => ?_)
      clear hK K
      refine norm_ (a' := ?_) ?_ ?_
      rotate_left
      ·show Act.put _ (some 23) _ = _
       simp only [Act.put, sx]
       rfl
      refine one_ (i := 6) (N := some 24) (ms 11 383) rfl rfl (one_of HT_.out (by kernel_rfl)) (by decide) (fun K hK => ?_)
      refine goes_ Try.func38 (by kernel_rfl) rfl #[.agg #[.int .i64 t254, .int .i64 t255, .int .i64 t256], .int .i64 x15_1, .slice Ao25 t260.length co25] (by rfl) rfl rfl agl ?_
      with_reducible refine (precode_Matrix.calls k1 t254 t255 t256 x15_1 _ _ t260 t263 _ ?side1 ?side2 A10.out).mono ?_
      (case side1 => repeat (first | exact (Kd.R_reads' HO262.out).2.2 | (with_reducible refine Kd.C_alloc ?_ _) | (with_reducible refine Kd.C_drewN ?_ _) | (with_reducible refine Kd.C_drew ?_)))
      (case side2 => exact (Kd.R_reads' HO262.out).2.1)
      rintro e w26 ⟨v264, rfl, ho0, hb⟩
      refine ⟨_, rfl, ?_⟩
      have HO265 := zA (Kd.N_lower (Kd.N_mono (ok' := fun k_ => some k_ ≠ (.slice Ao25 t260.length co25 : Value).ownBlock ∧ k_ ≠ gb258) ho0 (fun k_ hk_ => ⟨(Kd.fresh' (Kd.R_lt (R_g HO262.out)) k_ hk_), (Kd.freshB (g := gb258) (o := .cells #[.int .i64 t254, .int .i64 t255, .int .i64 t256] 24 (0, 0)) (blk_g BK258.out) k_ hk_)⟩)) bels)
      replace HO262 := zA (Kd.R_below (R_g HO262.out) hb)
      replace BK258 := zA (blk_below (g := gb258) (o := .cells #[.int .i64 t254, .int .i64 t255, .int .i64 t256] 24 (0, 0)) (blk_g BK258.out) hb)
      replace HB := zA (belt hb)
      (try clear hb)
      (try clear hb2)
      (try clear hk)
      (try clear hi)
      (try clear ho0)
      obtain ⟨Ao27, co27, eo27⟩ := Kd.N_slice HO265.out
      (first | subst eo27 | (injection eo27 with f1_ f2_ f3_; have f4_ := f1_.symm; have f5_ := f3_.symm; clear f1_ f2_ f3_; subst f4_; subst f5_))
      refine hK.out _ _ ⟨(blk_cell BK258.out 0).trans rfl, (blk_cell BK258.out 1).trans rfl, (blk_cell BK258.out 2).trans rfl⟩ (fun hHeld => ?_)
      clear hK K
      refine norm_ (a' := ?_) ?_ ?_
      rotate_left
      ·show Act.put _ (some 24) _ = _
       simp only [Act.put, sx]
       rfl
      refine one_ (i := 7) (N := some 25) (ms 11 511) rfl rfl (one_of HT_.out (by kernel_rfl)) (by decide) (fun K hK => ?_)
      refine goes_ Try.func29 (by kernel_rfl) rfl #[.int .i64 t259, .slice Ao27 t263.length co27] (by rfl) rfl rfl agl ?_
      with_reducible refine (Pz.rank.calls t259 _ _ t263 t266 _ ?side1 ?side2 A11.out).mono ?_
      (case side1 => repeat (first | exact (Kd.N_reads' HO265.out).2.2 | (with_reducible refine Kd.C_alloc ?_ _) | (with_reducible refine Kd.C_drewN ?_ _) | (with_reducible refine Kd.C_drew ?_)))
      (case side2 => exact (Kd.N_reads' HO265.out).2.1)
      rintro e w28 ⟨rfl, hb⟩
      refine ⟨_, rfl, ?_⟩
      replace HO262 := zA (Kd.R_below (R_g HO262.out) hb)
      replace HO265 := zA (Kd.N_below (N_g HO265.out) hb)
      replace BK258 := zA (blk_below (g := gb258) (o := .cells #[.int .i64 t254, .int .i64 t255, .int .i64 t256] 24 (0, 0)) (blk_g BK258.out) hb)
      replace HB := zA (belt hb)
      (try clear hb)
      (try clear hb2)
      (try clear hk)
      (try clear hi)
      refine hK.out _ _ ⟨(blk_cell BK258.out 0).trans rfl, (blk_cell BK258.out 1).trans rfl, (blk_cell BK258.out 2).trans rfl⟩ (fun hHeld => ?_)
      clear hK K
      refine norm_ (a' := ?_) ?_ ?_
      rotate_left
      ·show Act.put _ (some 25) _ = _
       simp only [Act.put, sx]
       rfl
      refine one_ (i := 9) (N := some 27) (ms 11 1023) rfl rfl (one_of HT_.out (by kernel_rfl)) (by decide) (fun K hK => ?_)
      refine goes_ Try.func22 (by kernel_rfl) rfl #[.agg #[.int .i64 t254, .int .i64 t255, .int .i64 t256]] (by rfl) rfl rfl agl ?_
      with_reducible refine (params_Params_L.calls t254 t255 t256 t267 _ A12.out).mono ?_
      rintro e w29 ⟨rfl, hb⟩
      refine ⟨_, rfl, ?_⟩
      replace HO262 := zA (Kd.R_below (R_g HO262.out) hb)
      replace HO265 := zA (Kd.N_below (N_g HO265.out) hb)
      replace BK258 := zA (blk_below (g := gb258) (o := .cells #[.int .i64 t254, .int .i64 t255, .int .i64 t256] 24 (0, 0)) (blk_g BK258.out) hb)
      replace HB := zA (belt hb)
      (try clear hb)
      (try clear hb2)
      (try clear hk)
      (try clear hi)
      refine hK.out _ _ ⟨(blk_cell BK258.out 0).trans rfl, (blk_cell BK258.out 1).trans rfl, (blk_cell BK258.out 2).trans rfl⟩ (fun hHeld => ?_)
      clear hK K
      refine norm_ (a' := ?_) ?_ ?_
      rotate_left
      ·show Act.put _ (some 27) _ = _
       simp only [Act.put, sx]
       rfl
      refine pure_ (i := 10) (N := some 28) (v := ?_) (a' := ?_) (ms 11 2047) rfl rfl (any_of HT_.out (by kernel_rfl)) (fun _ _ _ h => h) (Or.inl ⟨by rfl, ?_⟩) ?_ ?_
      rotate_left
      ·intro w'
       go_simp
       with_reducible rfl
      rotate_left
      ·simp only [Act.put, sx]
       rfl
      refine done_ (done_of HT_.out (by kernel_rfl)) ?_
      try go_wp2
      go_roundg k1
      case measure => have := HK1.out; omega
      case rel => exact ⟨(wrap64 (x15_1 + 1)), frs, H', ⟨by have := HK1.out; omega⟩, ⟨rdB BK258.out⟩, ⟨bel⟩⟩
    ·rw [if_neg c7] at H
     have c7b0 : decide (x15_1 < 256) = false := decide_eq_false c7
     clear c7
     simp only [Option.some.injEq, Prod.mk.injEq] at H
     obtain ⟨rfl, rfl⟩ := H
     go_wp2
     go_ret2
     exact ⟨by first | rfl | (simp [errW_none, errW_some] <;> rfl) | (simp [*, errW_none, errW_some] <;> rfl), bel⟩
 ·rw [if_neg c3] at H
  have c3b0 : (t257 == 0) = false := beq_eq_false_iff_ne.mpr c3
  have c3b1 : (t257 != 0) = true := bne_iff_ne.mpr c3
  simp only [Option.some.injEq, Prod.mk.injEq] at H
  obtain ⟨rfl, rfl⟩ := H
  go_enter Try.func42, Try.ntmps42
  go_wp2_with (first | ((with_reducible refine gate_callee (f := 19) rfl ?_); refine goesL_ (some 9) rfl rfl Try.func19 (by kernel_rfl) rfl #[.int .i64 a0] rfl agl ?_; (with_reducible refine (params_Of.calls a0 t254 t255 t256 t257 _ A2.out).mono ?_); rintro e w30 ⟨rfl, hb⟩; refine ⟨_, rfl, ?_⟩; replace HB := zA (belt hb)) | ((with_reducible refine gate_dst (N := 4) rfl ?_); refine box_event ?hg (N := 4) ?hd (cs := #[.int .i64 0, .int .i64 0, .int .i64 0]) (t := 24) ?hr ?_; (case hd => rfl); (case hg => rfl); (case hr => first | (go_simp; done) | (go_simp; rfl)); intro gb258 hg w31 hbox hb; have BK258 := zA (hbox); have GW258 := zA ((by rw [hg]; exact bels : w.heap.size ≤ gb258)); have GE258 := zA ((by rw [hg]; exact bels : w.heap.size ≤ gb258)); replace HB := zA (belt hb); clear hb hbox hg; obtain ⟨hcz32_0, hcz32_1, hcz32_2, hfz32_0, hfz32_1, hfz32_2⟩ := box3 BK258.out))
  go_ret2
  exact ⟨by first | rfl | (simp [errW_none, errW_some] <;> rfl) | (simp [*, errW_none, errW_some] <;> rfl), bel⟩
end Go.Proofs.Ytbfhinfblepidaa.PSeedTells
namespace Go.Proofs.Ytbfhinfblepidaa.PSeedTells
open Go.RowKit Go.Proofs.YtbfhinfblepidaaW.PrintWords Go.Proofs.YtbfhinfblepidaaW.PrintLast Go.Proofs.YtbfhinfblepidaaW.PrintMore Go.Proofs.Ytbfhinfblepidaa.PSolveTells
attribute [local go_sem] max2_int min2_int max_two min_two max_three min_three max_four min_four
set_option linter.unusedVariables false
set_option linter.unusedSimpArgs false
noncomputable def fountainref1_S.f (a0 : Int) : Option (Int) := some (wrap64 (2 + (wrap64 (Int.tdiv a0 8))))
theorem fountainref1_S.calls (a0 : Int) (r : Int) (w : World) (h : fountainref1_S.f a0 = some r) :
 Calls Try.prog 73 #[.int .i64 a0] w fun e w' => e = .returned (.int .i64 r) ∧ Drawn0 w w' := by
 have H : (some (wrap64 (2 + (wrap64 (Int.tdiv a0 8))))) = some r := h
 clear h
 obtain rfl := Option.some.inj H
 go_enter Try.func73, Try.ntmps73
 go_wp2
 go_ret
 exact ⟨frs, by repeat (first | exact Drawn0.refl _ | apply Drawn0.step)⟩
noncomputable def fountainref1_W.f (a0 : Int) : Option (Int) := (fountainref1_S.f a0).bind fun t304 => (some (wrap64 (a0 + t304)))
theorem fountainref1_W.calls (a0 : Int) (r : Int) (w : World) (h : fountainref1_W.f a0 = some r) :
 Calls Try.prog 52 #[.int .i64 a0] w fun e w' => e = .returned (.int .i64 r) ∧ Drawn0 w w' := by
 have H : ((fountainref1_S.f a0).bind fun t304 => (some (wrap64 (a0 + t304)))) = some r := h
 clear h
 replace H := Option.bind_eq_some_iff.mp H
 obtain ⟨t304, A20, H⟩ := H
 try dsimp only at H
 have A2 := zA A20
 clear A20
 obtain rfl := Option.some.inj H
 go_enter Try.func52, Try.ntmps52
 go_wp2_with (first | ((with_reducible refine gate_callee (f := 73) rfl ?_); refine goesL_ (some 5) rfl rfl Try.func73 (by kernel_rfl) rfl #[.int .i64 a0] rfl agl ?_; (with_reducible refine (fountainref1_S.calls a0 t304 _ A2.out).mono ?_); rintro e w' ⟨rfl, ⟨nd, rfl⟩⟩; refine ⟨_, rfl, ?_⟩))
 go_ret
 exact ⟨frs, by repeat (first | exact Drawn0.refl _ | apply Drawn0.step)⟩
noncomputable def fountainref1_L.f (a0 : Int) : Option (Int) := (fountainref1_W.f a0).bind fun t305 => (some (wrap64 (t305 + 2)))
theorem fountainref1_L.calls (a0 : Int) (r : Int) (w : World) (h : fountainref1_L.f a0 = some r) :
 Calls Try.prog 45 #[.int .i64 a0] w fun e w' => e = .returned (.int .i64 r) ∧ Drawn0 w w' := by
 have H : ((fountainref1_W.f a0).bind fun t305 => (some (wrap64 (t305 + 2)))) = some r := h
 clear h
 replace H := Option.bind_eq_some_iff.mp H
 obtain ⟨t305, A20, H⟩ := H
 try dsimp only at H
 have A2 := zA A20
 clear A20
 obtain rfl := Option.some.inj H
 go_enter Try.func45, Try.ntmps45
 go_wp2_with (first | ((with_reducible refine gate_callee (f := 52) rfl ?_); refine goesL_ (some 4) rfl rfl Try.func52 (by kernel_rfl) rfl #[.int .i64 a0] rfl agl ?_; (with_reducible refine (fountainref1_W.calls a0 t305 _ A2.out).mono ?_); rintro e w' ⟨rfl, ⟨nd, rfl⟩⟩; refine ⟨_, rfl, ?_⟩))
 go_ret
 exact ⟨frs, by repeat (first | exact Drawn0.refl _ | apply Drawn0.step)⟩
end Go.Proofs.Ytbfhinfblepidaa.PSeedTells
namespace Go.Proofs.Ytbfhinfblepidaa.PSeedTells
open Go.RowKit Go.Proofs.YtbfhinfblepidaaW.PrintWords Go.Proofs.YtbfhinfblepidaaW.PrintLast Go.Proofs.YtbfhinfblepidaaW.PrintMore Go.Proofs.Ytbfhinfblepidaa.PSolveTells
attribute [local go_sem] max2_int min2_int max_two min_two max_three min_three max_four min_four
set_option linter.unusedVariables false
set_option linter.unusedSimpArgs false
mutual
noncomputable def fountainref1_Low.j0 : Nat → Int → Bool → Option ((List (List Int)))
 | 0, _, _ => none
 | k + 1, x0, x13 => if x13 = true then (some ([] : List (List Int))) else ((fountainref1_S.f x0).bind fun t306 => (fountainref1_Low.l0 k x0 t306 ([] : List (List Int)) 0))
noncomputable def fountainref1_Low.l0 : Nat → Int → Int → List (List Int) → Int → Option ((List (List Int)))
 | 0, _, _, _, _ => none
 | k + 1, x0, x3, x4, x5 => if x5 < x3 then ((fountainref1_L.f x0).bind fun t307 => (if 0 ≤ t307 then (if (t307 : Int).toNat ≤ 281474976710656 then (fountainref1_Low.l1 k x0 x3 x4 x5 (List.replicate (t307 : Int).toNat 0) 0) else (none)) else (none))) else (some x4)
noncomputable def fountainref1_Low.l1 : Nat → Int → Int → List (List Int) → Int → List Int → Int → Option ((List (List Int)))
 | 0, _, _, _, _, _, _ => none
 | k + 1, x0, x3, x4, x5, x6, x7 => if x7 < x0 then (if x3 = 0 then (none) else (if (Int.tmod x7 x3) = x5 then (if 0 ≤ x7 then (if x7 < (x6.length : Int) then (fountainref1_Low.l1 k x0 x3 x4 x5 (x6.set (x7 : Int).toNat 1) (wrap64 (x7 + 1))) else (none)) else (none)) else (if (Int.tmod (wrap64 ((wrap64 ((wrap64 (Int.tdiv x7 x3)) + x7)) + 1)) x3) = x5 then (if 0 ≤ x7 then (if x7 < (x6.length : Int) then (fountainref1_Low.l1 k x0 x3 x4 x5 (x6.set (x7 : Int).toNat 1) (wrap64 (x7 + 1))) else (none)) else (none)) else (fountainref1_Low.l1 k x0 x3 x4 x5 x6 (wrap64 (x7 + 1)))))) else (if 0 ≤ (wrap64 (x0 + x5)) then (if (wrap64 (x0 + x5)) < (x6.length : Int) then ((fountainref1_W.f x0).bind fun t314 => (if 0 ≤ (wrap64 (t314 + (Int.tmod x5 2))) then (if (wrap64 (t314 + (Int.tmod x5 2))) < (x6.length : Int) then (if x4.length < 5864062014805 then (fountainref1_Low.l0 k x0 x3 (x4 ++ [((x6.set ((wrap64 (x0 + x5)) : Int).toNat 1).set ((wrap64 (t314 + (Int.tmod x5 2))) : Int).toNat 1)]) (wrap64 (x5 + 1))) else (none)) else (none)) else (none))) else (none)) else (none))
end
noncomputable def fountainref1_Low.f (k : Nat) (a0 : Int) : Option ((List (List Int))) := if a0 < 1 then (fountainref1_Low.j0 k a0 true) else (fountainref1_Low.j0 k a0 (decide (a0 > 40)))
theorem fountainref1_Low.calls (k : Nat) (a0 : Int) (r : List (List Int)) (w : World) (h : fountainref1_Low.f k a0 = some r) :
 Calls Try.prog 36 #[.int .i64 a0] w fun e w' => ∃ v0_ : Value, e = .returned (v0_) ∧ Kd.S (Kd.slice 5 (Kd.int .u8)) 30 w' w.heap.size (fun _ => True) v0_ r ∧ Below w.heap.size w w' := by
 have HB := zA (Below.refl w.heap.size w)
 have H : (if a0 < 1 then (fountainref1_Low.j0 k a0 true) else (fountainref1_Low.j0 k a0 (decide (a0 > 40)))) = some r := h
 clear h
 have HC2 := zA H
 clear H
 go_enter Try.func36, Try.ntmps36
 go_upto_region 1 with (fail)
 go_cut [13] (fun v13 wc => ∃ (kq : Nat) (x13_1 : Bool), v13 = .bool x13_1 ∧ Aside0 (fountainref1_Low.j0 kq a0 x13_1 = some r) ∧ Aside0 (kq ≤ k) ∧ Aside0 (Below w.heap.size w wc))
 case first =>
  have H := HC2.out
  clear HC2
  by_cases c3 : a0 < 1
  ·rw [if_pos c3] at H
   have c3b0 : decide (a0 < 1) = true := decide_eq_true c3
   clear c3
   (first | rw [c3b0] | (simp only [i64_w, i32_w]; rw [c3b0]) | skip)
   have H' := zA H
   clear H
   go_wp2
   go_meet
   case rel => exact ⟨_, (true), frs, H', ⟨by first | omega | exact Nat.le_refl _⟩, ⟨bel⟩⟩
  ·rw [if_neg c3] at H
   have c3b0 : decide (a0 < 1) = false := decide_eq_false c3
   clear c3
   (first | rw [c3b0] | (simp only [i64_w, i32_w]; rw [c3b0]) | skip)
   have H' := zA H
   clear H
   go_wp2
   go_meet
   case rel => exact ⟨_, (decide (a0 > 40)), frs, H', ⟨by first | omega | exact Nat.le_refl _⟩, ⟨bel⟩⟩
 case rest =>
  clear HC2
  obtain ⟨kq, x13_1, rfl, HA, HJ1, HB⟩ := hcut
  cases kq with
  | zero => exact absurd HA.out (by simp [fountainref1_Low.j0])
  | succ kj1 =>
   have H := HA.out
   clear HA
   simp only [fountainref1_Low.j0] at H
   by_cases c4 : x13_1 = true
   ·subst c4
    have H1 : (some ([] : List (List Int))) = some r := by rw [if_pos rfl] at H; exact H
    clear H
    have H := H1
    clear H1
    obtain rfl := Option.some.inj H
    go_wp2
    go_ret
    exact ⟨_, by first | rfl | (simp [errW_none, errW_some] <;> rfl) | (simp [*, errW_none, errW_some] <;> rfl), by first | exact Kd.S_nil _ _ _ _ _ | exact Kd.N_nil _ _ _ _ _ | exact Kd.V_nil _ _ _ _ _ | exact Kd.Q_nil _ _ _ _ _ | exact Kd.R_nil _ _ _ _ _, bel⟩
   ·replace c4 := Bool.eq_false_iff.mpr c4
    subst c4
    have H1 : ((fountainref1_S.f a0).bind fun t306 => (fountainref1_Low.l0 kj1 a0 t306 ([] : List (List Int)) 0)) = some r := by rw [if_neg (show ¬ (false = true) by decide)] at H; exact H
    clear H
    have H := H1
    clear H1
    replace H := Option.bind_eq_some_iff.mp H
    obtain ⟨t306, A50, H⟩ := H
    try dsimp only at H
    have A5 := zA A50
    clear A50
    have H' := zA H
    clear H
    go_wp2_with (first | ((with_reducible refine gate_callee (f := 73) rfl ?_); refine goesL_ (some 15) rfl rfl Try.func73 (by kernel_rfl) rfl #[.int .i64 a0] rfl agl ?_; (with_reducible refine (fountainref1_S.calls a0 t306 _ A5.out).mono ?_); rintro e w' ⟨rfl, ⟨nd, rfl⟩⟩; refine ⟨_, rfl, ?_⟩))
    go_loopg [4, 5] kj1 (fun kq v4 v5 w' => ∃ (x4_2 : List (List Int)) (x5_2 : Int), v5 = .int .i64 x5_2 ∧ Aside0 (fountainref1_Low.l0 kq a0 t306 x4_2 x5_2 = some r) ∧ Aside0 (kq ≤ kj1) ∧ Aside0 (Kd.S (Kd.slice 5 (Kd.int .u8)) 30 w' w.heap.size (fun _ => True) v4 x4_2) ∧ Aside0 (Below w.heap.size w w'))
    case atStart => exact ⟨(([] : List (List Int))), (0), frs, H', ⟨Nat.le_refl _⟩, ⟨by first | exact Kd.S_nil _ _ _ _ _ | exact Kd.N_nil _ _ _ _ _ | exact Kd.V_nil _ _ _ _ _ | exact Kd.Q_nil _ _ _ _ _ | exact Kd.R_nil _ _ _ _ _⟩, ⟨bel⟩⟩
    case round =>
     clear H'
     obtain ⟨x4_2, x5_2, rfl, HA, HK2, HO_4, HB⟩ := hrel
     cases gk with
     | zero => exact absurd HA.out (by simp [fountainref1_Low.l0])
     | succ k2 =>
      have H := HA.out
      clear HA
      simp only [fountainref1_Low.l0] at H
      by_cases c6 : x5_2 < t306
      ·rw [if_pos c6] at H
       have c6b0 : decide (x5_2 < t306) = true := decide_eq_true c6
       clear c6
       replace H := Option.bind_eq_some_iff.mp H
       obtain ⟨t307, A70, H⟩ := H
       try dsimp only at H
       have A7 := zA A70
       clear A70
       by_cases c8 : 0 ≤ t307
       ·rw [if_pos c8] at H
        have c8b0 := eq_true c8
        have c8b1 : decide (0 ≤ t307) = true := decide_eq_true c8
        clear c8
        by_cases c9 : (t307 : Int).toNat ≤ 281474976710656
        ·rw [if_pos c9] at H
         have c9b0 := eq_true c9
         have c9b1 : decide ((t307 : Int).toNat ≤ 281474976710656) = true := decide_eq_true c9
         clear c9
         obtain ⟨y308, hy308⟩ : ∃ y_ : List Int, y_ = (List.replicate (t307 : Int).toNat 0) := ⟨_, rfl⟩
         replace H : (fountainref1_Low.l1 k2 a0 t306 x4_2 x5_2 y308 0) = some r := zC H hy308
         have Ny308 := zA hy308
         clear hy308
         have H' := zA H
         clear H
         go_wp2_with (first | ((with_reducible refine gate_callee (f := 45) rfl ?_); refine goesL_ (some 22) rfl rfl Try.func45 (by kernel_rfl) rfl #[.int .i64 a0] rfl agl ?_; (with_reducible refine (fountainref1_L.calls a0 t307 _ A7.out).mono ?_); rintro e w' ⟨rfl, ⟨nd, rfl⟩⟩; refine ⟨_, rfl, ?_⟩) | ((with_reducible refine gate_dst (N := 23) rfl ?_); refine Kd.R_make (Kd.int .u8) _ 5 rfl (N := 23) rfl 30 _ _ rfl t307 rfl rfl Try.underlying30 (.int .u8 0) 1 info5 rfl (by decide) (by omega) 0 (ok := fun _ => True) (okp := fun _ => True) rfl (fun _ hk => hk) trivial (of_decide_eq_true asu) (Nat.le_trans (Nat.mul_le_mul_right _ (of_decide_eq_true asu : t307.toNat ≤ 281474976710656)) (by omega)) (Below.refl _ _) (Nat.le_refl _) ?_; intro v309 w10 ho11 hb hg_ hnew_; clear hg_ hnew_; (first | rw [← Ny308.out] at ho11 | (simp only [Int.reduceToNat] at ho11; rw [← Ny308.out] at ho11)); replace HO_4 := zA (Kd.S_elder' (S_g HO_4.out) (Kd.R_base ho11) hb); have HO310 := zA (Kd.R_lower ho11 bels); replace HB := zA (belt hb); clear hb ho11))
         go_loopg [7] k2 (fun kq v7 w' => ∃ (x6_3 : List Int) (x7_3 : Int), v7 = .int .i64 x7_3 ∧ Aside0 (fountainref1_Low.l1 kq a0 t306 x4_2 x5_2 x6_3 x7_3 = some r) ∧ Aside0 (kq ≤ k2) ∧ Aside0 (Kd.S (Kd.slice 5 (Kd.int .u8)) 30 w' w.heap.size (fun k_ => some k_ ≠ (v309 : Value).ownBlock) u4 x4_2) ∧ Aside0 (Kd.R (Kd.int .u8) 5 w' w.heap.size (fun _ => True) v309 x6_3) ∧ Aside0 (Below w.heap.size w w'))
         case atStart => exact ⟨(y308), (0), frs, H', ⟨Nat.le_refl _⟩, ⟨by (with_reducible repeat (first | apply Kd.S_alloc | apply Kd.S_drewN | apply Kd.S_drew)); exact Kd.S_mono HO_4.out (fun _ hk => hk.2)⟩, ⟨rdR HO310.out⟩, ⟨bel⟩⟩
         case round =>
          clear H'
          obtain ⟨x6_3, x7_3, rfl, HA, HK3, HO_4, HO_6, HB⟩ := hrel
          cases gk with
          | zero => exact absurd HA.out (by simp [fountainref1_Low.l1])
          | succ k3 =>
           have H := HA.out
           clear HA
           simp only [fountainref1_Low.l1] at H
           by_cases c12 : x7_3 < a0
           ·rw [if_pos c12] at H
            have c12b0 : decide (x7_3 < a0) = true := decide_eq_true c12
            clear c12
            by_cases c13 : t306 = 0
            ·rw [if_pos c13] at H
             exact absurd H (by simp)
            ·rw [if_neg c13] at H
             have c13b0 : (t306 == 0) = false := beq_eq_false_iff_ne.mpr c13
             have c13b1 : (t306 != 0) = true := bne_iff_ne.mpr c13
             by_cases c14 : (Int.tmod x7_3 t306) = x5_2
             ·rw [if_pos c14] at H
              have c14b0 : ((Int.tmod x7_3 t306) == x5_2) = true := beq_iff_eq.mpr c14
              have c14b1 : ((Int.tmod x7_3 t306) != x5_2) = false := bne_eq_false_iff_eq.mpr c14
              clear c14
              by_cases c15 : 0 ≤ x7_3
              ·rw [if_pos c15] at H
               have c15b0 : decide (0 ≤ x7_3) = true := decide_eq_true c15
               clear c15
               by_cases c16 : x7_3 < (x6_3.length : Int)
               ·rw [if_pos c16] at H
                have c16b0 : decide (x7_3 < (x6_3.length : Int)) = true := decide_eq_true c16
                clear c16
                obtain ⟨y311, hy311⟩ : ∃ y_ : List Int, y_ = (x6_3.set (x7_3 : Int).toNat 1) := ⟨_, rfl⟩
                replace H : (fountainref1_Low.l1 k3 a0 t306 x4_2 x5_2 y311 (wrap64 (x7_3 + 1))) = some r := zC H hy311
                have Ny311 := zA hy311
                clear hy311
                have H' := zA H
                clear H
                have p17 : 0 ≤ (x7_3 : Int) := of_decide_eq_true asu
                have q17 : (x7_3 : Int) < ((x6_3.length : Int) : Int) := of_decide_eq_true asu
                obtain ⟨go17, co17, eo17, gb17, gl17, cl17, HG17⟩ := Kd.R_form HO_6.out (by omega)
                (first | cases eo17 | (injection eo17 with ea_ en_ ec_; (first | subst ea_ | (injection ea_ with ea_; subst ea_)); subst ec_; clear en_))
                have GB17 := zA gb17
                have GG17 := zA HG17
                clear gb17 gl17 HG17
                obtain ⟨hx17_0, hf17_0⟩ := Kd.R_celln 0 HO_6.out (x7_3 : Int) p17 q17
                replace p17 := eq_true p17
                replace q17 := eq_true q17
                have HP18 := Kd.R_putg HO_6.out (x7_3 : Int) 1
                go_wp2_with (first | ((with_reducible refine gate_store (t := 5) (p := 48) rfl ?_); refine store_event (t := 5) (p := 48) (v := ?vo_w19) (w1 := (wr.setCell ⟨go17, (x7_3 : Int).toNat, none⟩ (.int .u8 1))) ?hg ?ho ?hn ?hr ?_; (case ho => rfl); (case hg => rfl); (case hn => rfl); (case hr => first | (go_simp; done) | (go_simp; rfl)); intro w19 hw; have hg : wr.grownBy w19 (some go17) := (by rw [hw]; exact HP18.2); have hp_ : Kd.R (Kd.int .u8) 5 w19 w.heap.size (fun _ => True) (.slice (some ⟨go17, 0, none⟩) x6_3.length co17) y311 := (by rw [hw, Ny311.out]; exact HP18.1); clear HP18; replace HO_4 := zA (Kd.S_after (v := (.slice (some ⟨go17, 0, none⟩) x6_3.length co17)) (v1 := (.slice (some ⟨go17, 0, none⟩) x6_3.length co17)) (ok := (fun _ => True)) (S_g (Kd.S_mono HO_4.out (fun _ hk => ⟨trivial, hk⟩))) hg (.inl rfl)); replace HO_6 := zA (hp_); replace HB := zA ((by rw [hw]; exact below_set (HB.out) GB17.out : Below w.heap.size w w19)); clear hg hw hp_))
                go_roundg k3
                case measure => have := HJ1.out; have := HK2.out; have := HK3.out; omega
                case rel => exact ⟨(y311), (wrap64 (x7_3 + 1)), frs, H', ⟨by have := HJ1.out; have := HK2.out; have := HK3.out; omega⟩, ⟨by (with_reducible repeat (first | apply Kd.S_alloc | apply Kd.S_drewN | apply Kd.S_drew)); exact Kd.S_mono HO_4.out (fun _ hk => hk.2)⟩, ⟨rdR HO_6.out⟩, ⟨bel⟩⟩
               ·rw [if_neg c16] at H
                exact absurd H (by simp)
              ·rw [if_neg c15] at H
               exact absurd H (by simp)
             ·rw [if_neg c14] at H
              have c14b0 : ((Int.tmod x7_3 t306) == x5_2) = false := beq_eq_false_iff_ne.mpr c14
              have c14b1 : ((Int.tmod x7_3 t306) != x5_2) = true := bne_iff_ne.mpr c14
              by_cases c20 : (Int.tmod (wrap64 ((wrap64 ((wrap64 (Int.tdiv x7_3 t306)) + x7_3)) + 1)) t306) = x5_2
              ·rw [if_pos c20] at H
               have c20b0 : ((Int.tmod (wrap64 ((wrap64 ((wrap64 (Int.tdiv x7_3 t306)) + x7_3)) + 1)) t306) == x5_2) = true := beq_iff_eq.mpr c20
               have c20b1 : ((Int.tmod (wrap64 ((wrap64 ((wrap64 (Int.tdiv x7_3 t306)) + x7_3)) + 1)) t306) != x5_2) = false := bne_eq_false_iff_eq.mpr c20
               clear c20
               by_cases c21 : 0 ≤ x7_3
               ·rw [if_pos c21] at H
                have c21b0 : decide (0 ≤ x7_3) = true := decide_eq_true c21
                clear c21
                by_cases c22 : x7_3 < (x6_3.length : Int)
                ·rw [if_pos c22] at H
                 have c22b0 : decide (x7_3 < (x6_3.length : Int)) = true := decide_eq_true c22
                 clear c22
                 obtain ⟨y312, hy312⟩ : ∃ y_ : List Int, y_ = (x6_3.set (x7_3 : Int).toNat 1) := ⟨_, rfl⟩
                 replace H : (fountainref1_Low.l1 k3 a0 t306 x4_2 x5_2 y312 (wrap64 (x7_3 + 1))) = some r := zC H hy312
                 have Ny312 := zA hy312
                 clear hy312
                 have H' := zA H
                 clear H
                 have p23 : 0 ≤ (x7_3 : Int) := of_decide_eq_true asu
                 have q23 : (x7_3 : Int) < ((x6_3.length : Int) : Int) := of_decide_eq_true asu
                 obtain ⟨go23, co23, eo23, gb23, gl23, cl23, HG23⟩ := Kd.R_form HO_6.out (by omega)
                 (first | cases eo23 | (injection eo23 with ea_ en_ ec_; (first | subst ea_ | (injection ea_ with ea_; subst ea_)); subst ec_; clear en_))
                 have GB23 := zA gb23
                 have GG23 := zA HG23
                 clear gb23 gl23 HG23
                 obtain ⟨hx23_0, hf23_0⟩ := Kd.R_celln 0 HO_6.out (x7_3 : Int) p23 q23
                 replace p23 := eq_true p23
                 replace q23 := eq_true q23
                 have HP24 := Kd.R_putg HO_6.out (x7_3 : Int) 1
                 go_wp2_with (first | ((with_reducible refine gate_store (t := 5) (p := 48) rfl ?_); refine store_event (t := 5) (p := 48) (v := ?vo_w25) (w1 := (wr.setCell ⟨go23, (x7_3 : Int).toNat, none⟩ (.int .u8 1))) ?hg ?ho ?hn ?hr ?_; (case ho => rfl); (case hg => rfl); (case hn => rfl); (case hr => first | (go_simp; done) | (go_simp; rfl)); intro w25 hw; have hg : wr.grownBy w25 (some go23) := (by rw [hw]; exact HP24.2); have hp_ : Kd.R (Kd.int .u8) 5 w25 w.heap.size (fun _ => True) (.slice (some ⟨go23, 0, none⟩) x6_3.length co23) y312 := (by rw [hw, Ny312.out]; exact HP24.1); clear HP24; replace HO_4 := zA (Kd.S_after (v := (.slice (some ⟨go23, 0, none⟩) x6_3.length co23)) (v1 := (.slice (some ⟨go23, 0, none⟩) x6_3.length co23)) (ok := (fun _ => True)) (S_g (Kd.S_mono HO_4.out (fun _ hk => ⟨trivial, hk⟩))) hg (.inl rfl)); replace HO_6 := zA (hp_); replace HB := zA ((by rw [hw]; exact below_set (HB.out) GB23.out : Below w.heap.size w w25)); clear hg hw hp_))
                 go_roundg k3
                 case measure => have := HJ1.out; have := HK2.out; have := HK3.out; omega
                 case rel => exact ⟨(y312), (wrap64 (x7_3 + 1)), frs, H', ⟨by have := HJ1.out; have := HK2.out; have := HK3.out; omega⟩, ⟨by (with_reducible repeat (first | apply Kd.S_alloc | apply Kd.S_drewN | apply Kd.S_drew)); exact Kd.S_mono HO_4.out (fun _ hk => hk.2)⟩, ⟨rdR HO_6.out⟩, ⟨bel⟩⟩
                ·rw [if_neg c22] at H
                 exact absurd H (by simp)
               ·rw [if_neg c21] at H
                exact absurd H (by simp)
              ·rw [if_neg c20] at H
               have c20b0 : ((Int.tmod (wrap64 ((wrap64 ((wrap64 (Int.tdiv x7_3 t306)) + x7_3)) + 1)) t306) == x5_2) = false := beq_eq_false_iff_ne.mpr c20
               have c20b1 : ((Int.tmod (wrap64 ((wrap64 ((wrap64 (Int.tdiv x7_3 t306)) + x7_3)) + 1)) t306) != x5_2) = true := bne_iff_ne.mpr c20
               have H' := zA H
               clear H
               go_wp2
               go_roundg k3
               case measure => have := HJ1.out; have := HK2.out; have := HK3.out; omega
               case rel => exact ⟨(x6_3), (wrap64 (x7_3 + 1)), frs, H', ⟨by have := HJ1.out; have := HK2.out; have := HK3.out; omega⟩, ⟨rdS HO_4.out⟩, ⟨rdR HO_6.out⟩, ⟨bel⟩⟩
           ·rw [if_neg c12] at H
            have c12b0 : decide (x7_3 < a0) = false := decide_eq_false c12
            clear c12
            obtain ⟨ji26, hji26⟩ : ∃ j_ : Int, (wrap64 (a0 + x5_2)) = j_ := ⟨_, rfl⟩
            replace H : (if 0 ≤ (ji26) then (if (ji26) < (x6_3.length : Int) then ((fountainref1_W.f a0).bind fun t314 => (if 0 ≤ (wrap64 (t314 + (Int.tmod x5_2 2))) then (if (wrap64 (t314 + (Int.tmod x5_2 2))) < (x6_3.length : Int) then (if x4_2.length < 5864062014805 then (fountainref1_Low.l0 k3 a0 t306 (x4_2 ++ [((x6_3.set ((ji26) : Int).toNat 1).set ((wrap64 (t314 + (Int.tmod x5_2 2))) : Int).toNat 1)]) (wrap64 (x5_2 + 1))) else (none)) else (none)) else (none))) else (none)) else (none)) = some r := by first | (rw [hji26] at H; exact H) | (simp only [hji26] at H ⊢; exact H)
            have hji26w : (IntKind.i64.wrap (a0 + x5_2)) = ji26 := (i64_w _).trans hji26
            by_cases c27 : 0 ≤ (ji26)
            ·rw [if_pos c27] at H
             have c27b0 : decide (0 ≤ (ji26)) = true := decide_eq_true c27
             clear c27
             by_cases c28 : (ji26) < (x6_3.length : Int)
             ·rw [if_pos c28] at H
              have c28b0 : decide ((ji26) < (x6_3.length : Int)) = true := decide_eq_true c28
              clear c28
              obtain ⟨y313, hy313⟩ : ∃ y_ : List Int, y_ = (x6_3.set ((ji26) : Int).toNat 1) := ⟨_, rfl⟩
              replace H : ((fountainref1_W.f a0).bind fun t314 => (if 0 ≤ (wrap64 (t314 + (Int.tmod x5_2 2))) then (if (wrap64 (t314 + (Int.tmod x5_2 2))) < (x6_3.length : Int) then (if x4_2.length < 5864062014805 then (fountainref1_Low.l0 k3 a0 t306 (x4_2 ++ [(y313.set ((wrap64 (t314 + (Int.tmod x5_2 2))) : Int).toNat 1)]) (wrap64 (x5_2 + 1))) else (none)) else (none)) else (none))) = some r := zC H hy313
              have Ny313 := zA hy313
              clear hy313
              replace H := Option.bind_eq_some_iff.mp H
              obtain ⟨t314, A300, H⟩ := H
              try dsimp only at H
              have A30 := zA A300
              clear A300
              obtain ⟨ji31, hji31⟩ : ∃ j_ : Int, (wrap64 (t314 + (Int.tmod x5_2 2))) = j_ := ⟨_, rfl⟩
              replace H : (if 0 ≤ (ji31) then (if (ji31) < (x6_3.length : Int) then (if x4_2.length < 5864062014805 then (fountainref1_Low.l0 k3 a0 t306 (x4_2 ++ [(y313.set ((ji31) : Int).toNat 1)]) (wrap64 (x5_2 + 1))) else (none)) else (none)) else (none)) = some r := by first | (rw [hji31] at H; exact H) | (simp only [hji31] at H ⊢; exact H)
              (try rw [hji31] at A30)
              have hji31w : (IntKind.i64.wrap (t314 + (Int.tmod x5_2 2))) = ji31 := (i64_w _).trans hji31
              by_cases c32 : 0 ≤ (ji31)
              ·rw [if_pos c32] at H
               have c32b0 : decide (0 ≤ (ji31)) = true := decide_eq_true c32
               clear c32
               by_cases c33 : (ji31) < (x6_3.length : Int)
               ·rw [if_pos c33] at H
                have c33b0 : decide ((ji31) < (x6_3.length : Int)) = true := decide_eq_true c33
                clear c33
                obtain ⟨y315, hy315⟩ : ∃ y_ : List Int, y_ = (y313.set ((ji31) : Int).toNat 1) := ⟨_, rfl⟩
                replace H : (if x4_2.length < 5864062014805 then (fountainref1_Low.l0 k3 a0 t306 (x4_2 ++ [y315]) (wrap64 (x5_2 + 1))) else (none)) = some r := zC H hy315
                have Ny315 := zA hy315
                clear hy315
                by_cases c35 : x4_2.length < 5864062014805
                ·rw [if_pos c35] at H
                 have LMc35 := zA c35
                 clear c35
                 obtain ⟨y316, hy316⟩ : ∃ y_ : List (List Int), y_ = (x4_2 ++ [y315]) := ⟨_, rfl⟩
                 replace H : (fountainref1_Low.l0 k3 a0 t306 y316 (wrap64 (x5_2 + 1))) = some r := zC H hy316
                 have Ny316 := zA hy316
                 clear hy316
                 have H' := zA H
                 clear H
                 have p29 : 0 ≤ ((ji26) : Int) := of_decide_eq_true asu
                 have q29 : ((ji26) : Int) < ((x6_3.length : Int) : Int) := of_decide_eq_true asu
                 obtain ⟨go29, co29, eo29, gb29, gl29, cl29, HG29⟩ := Kd.R_form HO_6.out (by omega)
                 (first | cases eo29 | (injection eo29 with ea_ en_ ec_; (first | subst ea_ | (injection ea_ with ea_; subst ea_)); subst ec_; clear en_))
                 have GB29 := zA gb29
                 have GG29 := zA HG29
                 clear gb29 gl29 HG29
                 obtain ⟨hx29_0, hf29_0⟩ := Kd.R_celln 0 HO_6.out ((ji26) : Int) p29 q29
                 replace p29 := eq_true p29
                 replace q29 := eq_true q29
                 have HP36 := Kd.R_putg HO_6.out ((ji26) : Int) 1
                 go_wp2_with (first | ((with_reducible refine gate_store (t := 5) (p := 53) rfl ?_); refine store_event (t := 5) (p := 53) (v := ?vo_w37) (w1 := (wr.setCell ⟨go29, ((ji26) : Int).toNat, none⟩ (.int .u8 1))) ?hg ?ho ?hn ?hr ?_; (case ho => rfl); (case hg => rfl); (case hn => rfl); (case hr => first | (go_simp; done) | (go_simp; rfl)); intro w37 hw; have hg : wr.grownBy w37 (some go29) := (by rw [hw]; exact HP36.2); have hp_ : Kd.R (Kd.int .u8) 5 w37 w.heap.size (fun _ => True) (.slice (some ⟨go29, 0, none⟩) x6_3.length co29) y313 := (by rw [hw, Ny313.out]; exact HP36.1); clear HP36; replace HO_4 := zA (Kd.S_after (v := (.slice (some ⟨go29, 0, none⟩) x6_3.length co29)) (v1 := (.slice (some ⟨go29, 0, none⟩) x6_3.length co29)) (ok := (fun _ => True)) (S_g (Kd.S_mono HO_4.out (fun _ hk => ⟨trivial, hk⟩))) hg (.inl rfl)); replace HO_6 := zA (hp_); replace HB := zA ((by rw [hw]; exact below_set (HB.out) GB29.out : Below w.heap.size w w37)); clear hg hw hp_) | ((with_reducible refine gate_callee (f := 52) rfl ?_); refine goesL_ (some 56) rfl rfl Try.func52 (by kernel_rfl) rfl #[.int .i64 a0] rfl agl ?_; (with_reducible refine (fountainref1_W.calls a0 t314 _ A30.out).mono ?_); rintro e w' ⟨rfl, ⟨nd, rfl⟩⟩; refine ⟨_, rfl, ?_⟩; (try (rw [drewN_self w37]; generalize hq_ : World.drewN w37 _ = w37; have n0_ : Aside0 (Kd.S (Kd.slice 5 (Kd.int .u8)) 30 w37 w.heap.size (fun k_ => some k_ ≠ (.slice (some ⟨go29, 0, none⟩) x6_3.length co29 : Value).ownBlock) u4 x4_2) := ⟨by rw [← hq_]; exact (S_g (Kd.S_mono HO_4.out (fun _ hk => hk.2)))⟩; have n1_ : Aside0 (Kd.R (Kd.int .u8) 5 w37 w.heap.size (fun _ => True) (.slice (some ⟨go29, 0, none⟩) x6_3.length co29) y313) := ⟨by rw [← hq_]; exact (R_g HO_6.out)⟩; have n2_ : Aside0 (Below w.heap.size w w37) := ⟨by rw [← hq_]; exact bel⟩; clear HO_4 HO_6 HB hq_; have HO_4 := n0_; have HO_6 := n1_; have HB := n2_; clear n0_ n1_ n2_)); have p34 : 0 ≤ ((ji31) : Int) := of_decide_eq_true asu; have q34 : ((ji31) : Int) < ((x6_3.length : Int) : Int) := of_decide_eq_true asu; obtain ⟨hx34_0, hf34_0⟩ := Kd.R_celln 0 HO_6.out ((ji31) : Int) p34 q34; replace p34 := eq_true p34; replace q34 := eq_true q34; obtain ⟨hy38_, hz38_⟩ := Kd.R_celln 0 HO_6.out ((ji31) : Int) (of_decide_eq_true asu) (of_decide_eq_true asu); have HP38 := Kd.R_putg HO_6.out ((ji31) : Int) 1) | ((with_reducible refine gate_store (t := 5) (p := 60) rfl ?_); refine store_event (t := 5) (p := 60) (v := ?vo_w39) (w1 := (w37.setCell ⟨go29, ((ji31) : Int).toNat, none⟩ (.int .u8 1))) ?hg ?ho ?hn ?hr ?_; (case ho => rfl); (case hg => rfl); (case hn => rfl); (case hr => first | (go_simp; done) | (go_simp; rfl)); intro w39 hw; have hg : w37.grownBy w39 (some go29) := (by rw [hw]; exact HP38.2); have hp_ : Kd.R (Kd.int .u8) 5 w39 w.heap.size (fun _ => True) (.slice (some ⟨go29, 0, none⟩) x6_3.length co29) y315 := (by rw [hw, Ny315.out]; exact HP38.1); clear HP38; replace HO_4 := zA (Kd.S_after (v := (.slice (some ⟨go29, 0, none⟩) x6_3.length co29)) (v1 := (.slice (some ⟨go29, 0, none⟩) x6_3.length co29)) (ok := (fun _ => True)) (by (with_reducible repeat (first | apply Kd.S_alloc | apply Kd.S_drewN | apply Kd.S_drew)); first | exact HO_4.out | exact Kd.S_mono HO_4.out (fun _ hk => ⟨trivial, hk⟩)) hg (.inl rfl)); replace HO_6 := zA (hp_); replace HB := zA ((by rw [hw]; exact below_set (HB.out) GB29.out : Below w.heap.size w w39)); clear hg hw hp_) | ((with_reducible refine gate_builtin (b := .append) (xs := #[.tmp 61, .tmp 63]) rfl ?_); at_builtin; refine Kd.S_append (Kd.slice 5 (Kd.int .u8)) (w0 := w) w.heap.size rfl (.tmp 61) (.tmp 63) 34 30 (.slice none 0 0) 24 rfl Try.underlying34 info30 rfl (by decide) (by omega) u4 x4_2 y315 [.slice (some ⟨go29, 0, none⟩) x6_3.length co29] (fun _ => True) (fun k_ => some k_ = (.slice (some ⟨go29, 0, none⟩) x6_3.length co29 : Value).ownBlock) rfl rfl ?aP (fun k_ hk_ => ((Kd.R_mono (ok' := fun k_ => ((fun _ => True)) k_ ∧ some k_ ≠ (u4 : Value).ownBlock) (Kd.R_apart' (HO_6.out) (Kd.S_typed HO_4.out) (by decide)) (fun k_ hk => ⟨trivial, hk.2⟩))).1 k_ hk_.symm) ?aF ?aO ?aB ?aS ?aL ?_; (case aP => exact Kd.M_row (Kd.R_mono (Kd.R_tight rfl (Kd.R_mono (ok' := fun k_ => ((fun _ => True)) k_ ∧ some k_ ≠ (u4 : Value).ownBlock) (Kd.R_apart' (HO_6.out) (Kd.S_typed HO_4.out) (by decide)) (fun k_ hk => ⟨trivial, hk.2⟩))) (fun _ h_ => h_))); (case aB => exact bel); (case aF => exact (fun _ _ => trivial)); (case aO => exact (S_g (Kd.S_mono HO_4.out (fun k_ hk => ⟨trivial, fun e_ => hk.2 e_⟩)))); (case aS => exact bels); (case aL => have := LMc35.out; omega); intro v317 w40 ho hb hg hat; rw [← Ny316.out] at ho; replace HB := zA (hb); have HO318 := zA (ho); clear HO_4 HO_6; clear ho hb hg hat))
                 go_roundg k3
                 case measure => have := HJ1.out; have := HK2.out; have := HK3.out; omega
                 case rel => exact ⟨(y316), (wrap64 (x5_2 + 1)), frs, H', ⟨by have := HJ1.out; have := HK2.out; have := HK3.out; omega⟩, ⟨rdS HO318.out⟩, ⟨bel⟩⟩
                ·rw [if_neg c35] at H
                 exact absurd H (by simp)
               ·rw [if_neg c33] at H
                exact absurd H (by simp)
              ·rw [if_neg c32] at H
               exact absurd H (by simp)
             ·rw [if_neg c28] at H
              exact absurd H (by simp)
            ·rw [if_neg c27] at H
             exact absurd H (by simp)
        ·rw [if_neg c9] at H
         exact absurd H (by simp)
       ·rw [if_neg c8] at H
        exact absurd H (by simp)
      ·rw [if_neg c6] at H
       have c6b0 : decide (x5_2 < t306) = false := decide_eq_false c6
       clear c6
       obtain rfl := Option.some.inj H
       go_wp2
       go_ret
       exact ⟨_, by first | rfl | (simp [errW_none, errW_some] <;> rfl) | (simp [*, errW_none, errW_some] <;> rfl), rdS HO_4.out, bel⟩
mutual
noncomputable def fountainref1_Power.j0 : Nat → Int → Option (Int)
 | 0, _ => none
 | k + 1, x3 => fountainref1_Power.l0 k x3 1 0
noncomputable def fountainref1_Power.l0 : Nat → Int → Int → Int → Option (Int)
 | 0, _, _, _ => none
 | k + 1, x3, x4, x5 => if x5 < x3 then ((fountainref1_Times.f k x4 2).bind fun t319 => (fountainref1_Power.l0 k x3 t319 (wrap64 (x5 + 1)))) else (some x4)
end
noncomputable def fountainref1_Power.f (k : Nat) (a0 : Int) : Option (Int) := if (Int.tmod a0 255) < 0 then (fountainref1_Power.j0 k (wrap64 ((Int.tmod a0 255) + 255))) else (fountainref1_Power.j0 k (Int.tmod a0 255))
theorem fountainref1_Power.calls (k : Nat) (a0 : Int) (r : Int) (w : World) (h : fountainref1_Power.f k a0 = some r) :
 Calls Try.prog 74 #[.int .i64 a0] w fun e w' => e = .returned (.int .u8 r) ∧ Drawn0 w w' := by
 have H : (if (Int.tmod a0 255) < 0 then (fountainref1_Power.j0 k (wrap64 ((Int.tmod a0 255) + 255))) else (fountainref1_Power.j0 k (Int.tmod a0 255))) = some r := h
 clear h
 have HC2 := zA H
 clear H
 go_enter Try.func74, Try.ntmps74
 go_upto_if 9 with (fail)
 go_cut [3] (fun v3 wc => ∃ (kq : Nat) (x3_1 : Int), v3 = .int .i64 x3_1 ∧ Aside0 (fountainref1_Power.j0 kq x3_1 = some r) ∧ Aside0 (kq ≤ k) ∧ Drawn0 w wc)
 case first =>
  have H := HC2.out
  clear HC2
  by_cases c3 : (Int.tmod a0 255) < 0
  ·rw [if_pos c3] at H
   have c3b0 : decide ((Int.tmod a0 255) < 0) = true := decide_eq_true c3
   clear c3
   (first | rw [c3b0] | (simp only [i64_w, i32_w]; rw [c3b0]) | skip)
   have H' := zA H
   clear H
   go_wp2
   go_meet
   case rel => exact ⟨_, (wrap64 ((Int.tmod a0 255) + 255)), frs, H', ⟨by first | omega | exact Nat.le_refl _⟩, by repeat (first | exact Drawn0.refl _ | apply Drawn0.step)⟩
  ·rw [if_neg c3] at H
   have c3b0 : decide ((Int.tmod a0 255) < 0) = false := decide_eq_false c3
   clear c3
   (first | rw [c3b0] | (simp only [i64_w, i32_w]; rw [c3b0]) | skip)
   have H' := zA H
   clear H
   go_wp2
   go_meet
   case rel => exact ⟨_, (Int.tmod a0 255), frs, H', ⟨by first | omega | exact Nat.le_refl _⟩, by repeat (first | exact Drawn0.refl _ | apply Drawn0.step)⟩
 case rest =>
  clear HC2
  obtain ⟨kq, x3_1, rfl, HA, HJ1, ⟨mc1, rfl⟩⟩ := hcut
  cases kq with
  | zero => exact absurd HA.out (by simp [fountainref1_Power.j0])
  | succ kj1 =>
   have H := HA.out
   clear HA
   simp only [fountainref1_Power.j0] at H
   have H' := zA H
   clear H
   go_wp2
   go_loopg [4, 5] kj1 (fun kq v4 v5 w' => ∃ (x4_2 : Int) (x5_2 : Int), v4 = .int .u8 x4_2 ∧ v5 = .int .i64 x5_2 ∧ Aside0 (fountainref1_Power.l0 kq x3_1 x4_2 x5_2 = some r) ∧ Aside0 (kq ≤ kj1) ∧ Drawn0 w w')
   case atStart => exact ⟨(1), (0), frs, frs, H', ⟨Nat.le_refl _⟩, by repeat (first | exact Drawn0.refl _ | apply Drawn0.step)⟩
   case round =>
    clear H'
    obtain ⟨x4_2, x5_2, rfl, rfl, HA, HK2, ⟨m2, rfl⟩⟩ := hrel
    cases gk with
    | zero => exact absurd HA.out (by simp [fountainref1_Power.l0])
    | succ k2 =>
     have H := HA.out
     clear HA
     simp only [fountainref1_Power.l0] at H
     by_cases c4 : x5_2 < x3_1
     ·rw [if_pos c4] at H
      have c4b0 : decide (x5_2 < x3_1) = true := decide_eq_true c4
      clear c4
      replace H := Option.bind_eq_some_iff.mp H
      obtain ⟨t319, A50, H⟩ := H
      try dsimp only at H
      have A5 := zA A50
      clear A50
      have H' := zA H
      clear H
      go_wp2_with (first | ((with_reducible refine gate_callee (f := 72) rfl ?_); refine goesL_ (some 18) rfl rfl Try.func72 (by kernel_rfl) rfl #[.int .u8 x4_2, .int .u8 2] rfl agl ?_; (with_reducible refine (fountainref1_Times.calls k2 x4_2 2 t319 _ A5.out).mono ?_); rintro e w' ⟨rfl, ⟨nd, rfl⟩⟩; refine ⟨_, rfl, ?_⟩))
      go_roundg k2
      case measure => have := HJ1.out; have := HK2.out; omega
      case rel => exact ⟨(t319), (wrap64 (x5_2 + 1)), frs, frs, H', ⟨by have := HJ1.out; have := HK2.out; omega⟩, by repeat (first | exact Drawn0.refl _ | apply Drawn0.step)⟩
     ·rw [if_neg c4] at H
      have c4b0 : decide (x5_2 < x3_1) = false := decide_eq_false c4
      clear c4
      obtain rfl := Option.some.inj H
      go_wp2
      go_ret
      exact ⟨frs, by repeat (first | exact Drawn0.refl _ | apply Drawn0.step)⟩
noncomputable def fountainref1_Stir.f (a0 : Int) : Option (Int) := some (Go.bits .xor .u32 (((Go.bits .xor .u32 (((Go.bits .xor .u32 a0 (a0 / 65536)) * 2146121005) % 4294967296) ((((Go.bits .xor .u32 a0 (a0 / 65536)) * 2146121005) % 4294967296) / 32768)) * 2221713035) % 4294967296) ((((Go.bits .xor .u32 (((Go.bits .xor .u32 a0 (a0 / 65536)) * 2146121005) % 4294967296) ((((Go.bits .xor .u32 a0 (a0 / 65536)) * 2146121005) % 4294967296) / 32768)) * 2221713035) % 4294967296) / 65536))
theorem fountainref1_Stir.calls (a0 : Int) (r : Int) (w : World) (h : fountainref1_Stir.f a0 = some r) :
 Calls Try.prog 103 #[.int .u32 a0] w fun e w' => e = .returned (.int .u32 r) ∧ Drawn0 w w' := by
 have H : (some (Go.bits .xor .u32 (((Go.bits .xor .u32 (((Go.bits .xor .u32 a0 (a0 / 65536)) * 2146121005) % 4294967296) ((((Go.bits .xor .u32 a0 (a0 / 65536)) * 2146121005) % 4294967296) / 32768)) * 2221713035) % 4294967296) ((((Go.bits .xor .u32 (((Go.bits .xor .u32 a0 (a0 / 65536)) * 2146121005) % 4294967296) ((((Go.bits .xor .u32 a0 (a0 / 65536)) * 2146121005) % 4294967296) / 32768)) * 2221713035) % 4294967296) / 65536))) = some r := h
 clear h
 obtain rfl := Option.some.inj H
 go_enter Try.func103, Try.ntmps103
 go_wp2
 go_ret
 exact ⟨frs, by repeat (first | exact Drawn0.refl _ | apply Drawn0.step)⟩
noncomputable def fountainref1_Rand.f (a0 : Int) (a1 : Int) (a2 : Int) : Option (Int) := if a2 < 1 then (some 0) else ((fountainref1_Stir.f a0).bind fun t320 => ((fountainref1_Stir.f ((t320 + ((a1 * 2654435769) % 4294967296)) % 4294967296)).bind fun t321 => (if (IntKind.u64.wrap (a2)) = 0 then (none) else (some (wrap64 (Int.tmod (IntKind.u64.wrap (t321)) (IntKind.u64.wrap (a2))))))))
theorem fountainref1_Rand.calls (a0 : Int) (a1 : Int) (a2 : Int) (r : Int) (w : World) (h : fountainref1_Rand.f a0 a1 a2 = some r) :
 Calls Try.prog 75 #[.int .u32 a0, .int .u32 a1, .int .i64 a2] w fun e w' => e = .returned (.int .i64 r) ∧ Drawn0 w w' := by
 have H : (if a2 < 1 then (some 0) else ((fountainref1_Stir.f a0).bind fun t320 => ((fountainref1_Stir.f ((t320 + ((a1 * 2654435769) % 4294967296)) % 4294967296)).bind fun t321 => (if (IntKind.u64.wrap (a2)) = 0 then (none) else (some (wrap64 (Int.tmod (IntKind.u64.wrap (t321)) (IntKind.u64.wrap (a2))))))))) = some r := h
 clear h
 by_cases c4 : a2 < 1
 ·rw [if_pos c4] at H
  have c4b0 : decide (a2 < 1) = true := decide_eq_true c4
  clear c4
  obtain rfl := Option.some.inj H
  go_enter Try.func75, Try.ntmps75
  go_wp2
  go_ret
  exact ⟨frs, by repeat (first | exact Drawn0.refl _ | apply Drawn0.step)⟩
 ·rw [if_neg c4] at H
  have c4b0 : decide (a2 < 1) = false := decide_eq_false c4
  clear c4
  replace H := Option.bind_eq_some_iff.mp H
  obtain ⟨t320, A50, H⟩ := H
  try dsimp only at H
  have A5 := zA A50
  clear A50
  replace H := Option.bind_eq_some_iff.mp H
  obtain ⟨t321, A60, H⟩ := H
  try dsimp only at H
  have A6 := zA A60
  clear A60
  by_cases c7 : (IntKind.u64.wrap (a2)) = 0
  ·rw [if_pos c7] at H
   exact absurd H (by simp)
  ·rw [if_neg c7] at H
   have c7b0 : ((IntKind.u64.wrap (a2)) == 0) = false := beq_eq_false_iff_ne.mpr c7
   have c7b1 : ((IntKind.u64.wrap (a2)) != 0) = true := bne_iff_ne.mpr c7
   obtain rfl := Option.some.inj H
   go_enter Try.func75, Try.ntmps75
   go_wp2_with (first | ((with_reducible refine gate_callee (f := 103) rfl ?_); refine goesL_ (some 10) rfl rfl Try.func103 (by kernel_rfl) rfl #[.int .u32 a0] rfl agl ?_; (with_reducible refine (fountainref1_Stir.calls a0 t320 _ A5.out).mono ?_); rintro e w' ⟨rfl, ⟨nd, rfl⟩⟩; refine ⟨_, rfl, ?_⟩) | ((with_reducible refine gate_callee (f := 103) rfl ?_); refine goesL_ (some 14) rfl rfl Try.func103 (by kernel_rfl) rfl #[.int .u32 ((t320 + ((a1 * 2654435769) % 4294967296)) % 4294967296)] rfl agl ?_; (with_reducible refine (fountainref1_Stir.calls ((t320 + ((a1 * 2654435769) % 4294967296)) % 4294967296) t321 _ A6.out).mono ?_); rintro e w' ⟨rfl, ⟨nd, rfl⟩⟩; refine ⟨_, rfl, ?_⟩))
   go_ret
   exact ⟨frs, by repeat (first | exact Drawn0.refl _ | apply Drawn0.step)⟩
end Go.Proofs.Ytbfhinfblepidaa.PSeedTells
