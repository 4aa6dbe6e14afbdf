/- Written by a program (this session's own): functions that the law reaches, as plain Lean functions, each with the proof that the code comes to it. No conditions but those that stand in the theorems. -/
import Derived.Test.YtbfhinfblepidaaPq
import Derived.Test.YtbfhinfblepidaaPSolveTellsx
import Derived.Test.YtbfhinfblepidaaPSeedTellsx3
set_option maxHeartbeats 8000000
set_option maxRecDepth 100000
namespace Go.Proofs.Ytbfhinfblepidaa.PSeedTells
open Go.RowKit Go.Proofs.YtbfhinfblepidaaW.PrintWords Go.Proofs.YtbfhinfblepidaaW.PrintLast Go.Proofs.YtbfhinfblepidaaW.PrintMore Go.Proofs.Ytbfhinfblepidaa.PSolveTells
attribute [local go_sem] max2_int min2_int max_two min_two max_three min_three max_four min_four
set_option linter.unusedVariables false
set_option linter.unusedSimpArgs false
mutual
noncomputable def precode_Low.l0 : Nat → List (List Int) → Int → Int → Int → Int → Int → Option ((List (List Int)))
 | 0, _, _, _, _, _, _ => none
 | k + 1, x3, x11, x12, x167000, x167001, x167002 => if x12 < x11 then ((params_Params_L.f x167000 x167001 x167002).bind fun t168 => (if 0 ≤ t168 then (if (t168 : Int).toNat ≤ 281474976710656 then (precode_Low.l1 k x3 x12 (List.replicate (t168 : Int).toNat 0) x11 x12 x167000 0 x167000 x167001 x167002) else (none)) else (none))) else (some x3)
noncomputable def precode_Low.l1 : Nat → List (List Int) → Int → List Int → Int → Int → Int → Int → Int → Int → Int → Option ((List (List Int)))
 | 0, _, _, _, _, _, _, _, _, _, _ => none
 | k + 1, x3, x4, x5, x11, x12, x19, x20, x167000, x167001, x167002 => if x20 < x19 then (if x167001 = 0 then (none) else (if (Int.tmod x20 x167001) = x4 then (if 0 ≤ x20 then (if x20 < (x5.length : Int) then (precode_Low.l1 k x3 x4 (x5.set (x20 : Int).toNat 1) x11 x12 x19 (wrap64 (x20 + 1)) x167000 x167001 x167002) else (none)) else (none)) else (if (Int.tmod (wrap64 ((wrap64 ((wrap64 (Int.tdiv x20 x167001)) + x20)) + 1)) x167001) = x4 then (if 0 ≤ x20 then (if x20 < (x5.length : Int) then (precode_Low.l1 k x3 x4 (x5.set (x20 : Int).toNat 1) x11 x12 x19 (wrap64 (x20 + 1)) x167000 x167001 x167002) else (none)) else (none)) else (precode_Low.l1 k x3 x4 x5 x11 x12 x19 (wrap64 (x20 + 1)) x167000 x167001 x167002)))) else (if 0 ≤ (wrap64 (x167000 + x4)) then (if (wrap64 (x167000 + x4)) < (x5.length : Int) then ((params_Params_W.f x167000 x167001 x167002).bind fun t175 => (if x167002 = 0 then (none) else (if 0 ≤ (wrap64 (t175 + (Int.tmod x4 x167002))) then (if (wrap64 (t175 + (Int.tmod x4 x167002))) < (x5.length : Int) then (if x3.length < 5864062014805 then (precode_Low.l0 k (x3 ++ [((x5.set ((wrap64 (x167000 + x4)) : Int).toNat 1).set ((wrap64 (t175 + (Int.tmod x4 x167002))) : Int).toNat 1)]) x11 (wrap64 (x12 + 1)) x167000 x167001 x167002) else (none)) else (none)) else (none)))) else (none)) else (none))
end
noncomputable def precode_Low.f (k : Nat) (a0_0 : Int) (a0_1 : Int) (a0_2 : Int) : Option ((List (List Int))) := (params_Params_Right.f a0_0 a0_1 a0_2).bind fun t167 => (if t167 = true then (precode_Low.l0 k ([] : List (List Int)) a0_1 0 a0_0 a0_1 a0_2) else (some ([] : List (List Int))))
def precode_Low.T11 : Bool × List (List Nat × List Nat) := (true, [([], []), ([], []), ([1], [1]), ([0, 2], [0, 2]), ([], []), ([3, 4], [3, 4]), ([5], [5]), ([6], [6]), ([6], [6]), ([8, 6], [6, 8]), ([7, 9, 6], [6, 7, 9]), ([6], [6]), ([10, 11, 6], [6, 10, 11]), ([12, 6], [6, 12]), ([6], [6]), ([14, 6], [6, 14]), ([13, 15, 6], [6, 13, 15]), ([6], [6]), ([16, 17, 6], [6, 16, 17]), ([6, 18], [6, 18])])
def precode_Low.B11 : List Nat := [0, 0, 2, 7, 0, 31, 63, 127, 127, 383, 1023, 127, 4095, 8191, 127, 16511, 65535, 127, 262143, 524287]
theorem precode_Low.tab11 : rtab .any (opsOf Try.f20 11) = precode_Low.T11 := by kernel_rfl
theorem precode_Low.bits11 : waitsOk precode_Low.T11.2 precode_Low.B11 = true := by kernel_rfl
def precode_Low.T15 : Bool × List (List Nat × List Nat) := (true, [([], []), ([], []), ([1], [1]), ([], []), ([], []), ([4], [4]), ([3, 5], [3, 5]), ([2, 6], [2, 6]), ([0, 7, 0, 1, 2, 3, 4, 5, 6, 7], [0, 7]), ([8, 2, 0, 1, 2, 3, 4, 5, 6, 7], [8])])
def precode_Low.B15 : List Nat := [0, 0, 2, 0, 0, 16, 56, 126, 255, 511]
theorem precode_Low.tab15 : rtab .any (opsOf Try.f20 15) = precode_Low.T15 := by kernel_rfl
theorem precode_Low.bits15 : waitsOk precode_Low.T15.2 precode_Low.B15 = true := by kernel_rfl
theorem precode_Low.calls (k : Nat) (a0_0 : Int) (a0_1 : Int) (a0_2 : Int) (r : List (List Int)) (w : World) (h : precode_Low.f k a0_0 a0_1 a0_2 = some r) :
 Calls Try.prog 20 #[.agg #[.int .i64 a0_0, .int .i64 a0_1, .int .i64 a0_2]] w fun e w' => ∃ v0_ : Value, e = .returned (v0_) ∧ Kd.S (Kd.slice 5 (Kd.int .u8)) 31 w' w.heap.size (fun _ => True) v0_ r ∧ Below w.heap.size w w' := by
 have hu24 := Try.underlying24
 have HB := zA (Below.refl w.heap.size w)
 have H : ((params_Params_Right.f a0_0 a0_1 a0_2).bind fun t167 => (if t167 = true then (precode_Low.l0 k ([] : List (List Int)) a0_1 0 a0_0 a0_1 a0_2) else (some ([] : List (List Int))))) = some r := h
 clear h
 replace H := Option.bind_eq_some_iff.mp H
 obtain ⟨t167, A20, H⟩ := H
 try dsimp only at H
 have A2 := zA A20
 clear A20
 by_cases c3 : t167 = true
 ·subst c3
  have H1 : (precode_Low.l0 k ([] : List (List Int)) a0_1 0 a0_0 a0_1 a0_2) = some r := by rw [if_pos rfl] at H; exact H
  clear H
  have H := H1
  clear H1
  have H' := zA H
  clear H
  go_enter Try.func20, Try.ntmps20
  go_wp2_with (first | ((with_reducible refine gate_dst (N := 1) rfl ?_); refine box_event ?hg (N := 1) ?hd (cs := #[.int .i64 a0_0, .int .i64 a0_1, .int .i64 a0_2]) (t := 24) ?hr ?_; (case hd => rfl); (case hg => rfl); (case hr => first | (go_simp; done) | (go_simp; rfl)); intro gb166 hg w4 hbox hb; have BK166 := zA (hbox); have GW166 := zA ((by rw [hg]; exact bels : w.heap.size ≤ gb166)); have GE166 := zA ((by rw [hg]; exact bels : w.heap.size ≤ gb166)); replace HB := zA (belt hb); clear hb hbox hg; obtain ⟨hcz5_0, hcz5_1, hcz5_2, hfz5_0, hfz5_1, hfz5_2⟩ := box3 BK166.out) | ((with_reducible refine gate_callee (f := 61) rfl ?_); refine goesL_ (some 8) rfl rfl Try.func61 (by kernel_rfl) rfl #[.agg #[.int .i64 a0_0, .int .i64 a0_1, .int .i64 a0_2]] rfl agl ?_; (with_reducible refine (params_Params_Right.calls a0_0 a0_1 a0_2 true _ A2.out).mono ?_); rintro e w6 ⟨rfl, hb⟩; refine ⟨_, rfl, ?_⟩; replace BK166 := zA (blk_below (g := gb166) (o := .cells #[.int .i64 a0_0, .int .i64 a0_1, .int .i64 a0_2] 24 (0, 0)) (blk_g BK166.out) hb); replace HB := zA (belt hb); obtain ⟨hcz7_0, hcz7_1, hcz7_2, hfz7_0, hfz7_1, hfz7_2⟩ := box3 BK166.out))
  go_loopg [3, 12] k (fun kq v3 v12 w' => ∃ (x3_1 : List (List Int)) (x12_1 : Int), v12 = .int .i64 x12_1 ∧ Aside0 (precode_Low.l0 kq x3_1 a0_1 x12_1 a0_0 a0_1 a0_2 = some r) ∧ Aside0 (kq ≤ k) ∧ Aside0 (Kd.S (Kd.slice 5 (Kd.int .u8)) 31 w' w.heap.size (fun _ => True) v3 x3_1) ∧ Aside0 (w'.heap[gb166]? = some (.cells #[.int .i64 a0_0, .int .i64 a0_1, .int .i64 a0_2] 24 (0, 0))) ∧ Aside0 (Below w.heap.size w w'))
  case atStart => exact ⟨(([] : List (List Int))), (0), frs, H', ⟨Nat.le_refl _⟩, ⟨by first | exact Kd.S_nil _ _ _ _ _ | exact Kd.N_nil _ _ _ _ _ | exact Kd.V_nil _ _ _ _ _ | exact Kd.Q_nil _ _ _ _ _ | exact Kd.R_nil _ _ _ _ _⟩, ⟨rdB BK166.out⟩, ⟨bel⟩⟩
  case round =>
   clear H'
   obtain ⟨x3_1, x12_1, rfl, HA, HK1, HO_3, BK166, HB⟩ := hrel
   cases gk with
   | zero => exact absurd HA.out (by simp [precode_Low.l0])
   | succ k1 =>
    have H := HA.out
    clear HA
    simp only [precode_Low.l0] at H
    by_cases c8 : x12_1 < a0_1
    ·rw [if_pos c8] at H
     have c8b0 : decide (x12_1 < a0_1) = true := decide_eq_true c8
     clear c8
     replace H := Option.bind_eq_some_iff.mp H
     obtain ⟨t168, A90, H⟩ := H
     try dsimp only at H
     have A9 := zA A90
     clear A90
     by_cases c10 : 0 ≤ t168
     ·rw [if_pos c10] at H
      have c10b0 := eq_true c10
      have c10b1 : decide (0 ≤ t168) = true := decide_eq_true c10
      clear c10
      by_cases c11 : (t168 : Int).toNat ≤ 281474976710656
      ·rw [if_pos c11] at H
       have c11b0 := eq_true c11
       have c11b1 : decide ((t168 : Int).toNat ≤ 281474976710656) = true := decide_eq_true c11
       clear c11
       obtain ⟨y169, hy169⟩ : ∃ y_ : List Int, y_ = (List.replicate (t168 : Int).toNat 0) := ⟨_, rfl⟩
       replace H : (precode_Low.l1 k1 x3_1 x12_1 y169 a0_1 x12_1 a0_0 0 a0_0 a0_1 a0_2) = some r := zC H hy169
       have Ny169 := zA hy169
       clear hy169
       have H' := zA H
       clear H
       obtain ⟨hcz12_0, hcz12_1, hcz12_2, hfz12_0, hfz12_1, hfz12_2⟩ := box3 BK166.out
       go_wp2_with (first | ((with_reducible refine gate_callee (f := 22) rfl ?_); refine goesL_ (some 16) rfl rfl Try.func22 (by kernel_rfl) rfl #[.agg #[.int .i64 a0_0, .int .i64 a0_1, .int .i64 a0_2]] rfl agl ?_; (with_reducible refine (params_Params_L.calls a0_0 a0_1 a0_2 t168 _ A9.out).mono ?_); rintro e w13 ⟨rfl, hb⟩; refine ⟨_, rfl, ?_⟩; replace HO_3 := zA (Kd.S_below (S_g HO_3.out) hb); replace BK166 := zA (blk_below (g := gb166) (o := .cells #[.int .i64 a0_0, .int .i64 a0_1, .int .i64 a0_2] 24 (0, 0)) (blk_g BK166.out) hb); replace HB := zA (belt hb)) | ((with_reducible refine gate_dst (N := 17) rfl ?_); refine Kd.R_make (Kd.int .u8) _ 5 rfl (N := 17) rfl 31 _ _ rfl t168 rfl rfl Try.underlying31 (.int .u8 0) 1 info5 rfl (by decide) (by omega) 0 (ok := fun _ => True) (okp := fun _ => True) rfl (fun _ hk => hk) trivial (of_decide_eq_true asu) (Nat.le_trans (Nat.mul_le_mul_right _ (of_decide_eq_true asu : t168.toNat ≤ 281474976710656)) (by omega)) (Below.refl _ _) (Nat.le_refl _) ?_; intro v170 w14 ho15 hb hg_ hnew_; clear hg_ hnew_; (first | rw [← Ny169.out] at ho15 | (simp only [Int.reduceToNat] at ho15; rw [← Ny169.out] at ho15)); replace HO_3 := zA (Kd.S_elder' (S_g HO_3.out) (Kd.R_base ho15) hb); have HO171 := zA (Kd.R_lower ho15 bels); replace BK166 := zA (blk_below (g := gb166) (o := .cells #[.int .i64 a0_0, .int .i64 a0_1, .int .i64 a0_2] 24 (0, 0)) (blk_g BK166.out) hb); replace HB := zA (belt hb); clear hb ho15; obtain ⟨hcz16_0, hcz16_1, hcz16_2, hfz16_0, hfz16_1, hfz16_2⟩ := box3 BK166.out))
       go_loopg [20] k1 (fun kq v20 w' => ∃ (x5_2 : List Int) (x20_2 : Int), v20 = .int .i64 x20_2 ∧ Aside0 (precode_Low.l1 kq x3_1 x12_1 x5_2 a0_1 x12_1 a0_0 x20_2 a0_0 a0_1 a0_2 = some r) ∧ Aside0 (kq ≤ k1) ∧ Aside0 (Kd.S (Kd.slice 5 (Kd.int .u8)) 31 w' w.heap.size (fun k_ => some k_ ≠ (v170 : Value).ownBlock) u3 x3_1) ∧ Aside0 (Kd.R (Kd.int .u8) 5 w' w.heap.size (fun _ => True) v170 x5_2) ∧ Aside0 (w'.heap[gb166]? = some (.cells #[.int .i64 a0_0, .int .i64 a0_1, .int .i64 a0_2] 24 (0, 0))) ∧ Aside0 (Below w.heap.size w w'))
       case atStart => exact ⟨(y169), (0), frs, H', ⟨Nat.le_refl _⟩, ⟨by (with_reducible repeat (first | apply Kd.S_alloc | apply Kd.S_drewN | apply Kd.S_drew)); exact Kd.S_mono HO_3.out (fun _ hk => hk.2)⟩, ⟨rdR HO171.out⟩, ⟨rdB BK166.out⟩, ⟨bel⟩⟩
       case round =>
        clear H'
        obtain ⟨x5_2, x20_2, rfl, HA, HK2, HO_3, HO_5, BK166, HB⟩ := hrel
        cases gk with
        | zero => exact absurd HA.out (by simp [precode_Low.l1])
        | succ k2 =>
         have H := HA.out
         clear HA
         simp only [precode_Low.l1] at H
         by_cases c17 : x20_2 < a0_0
         ·rw [if_pos c17] at H
          have c17b0 : decide (x20_2 < a0_0) = true := decide_eq_true c17
          clear c17
          by_cases c18 : a0_1 = 0
          ·rw [if_pos c18] at H
           exact absurd H (by simp)
          ·rw [if_neg c18] at H
           have c18b0 : (a0_1 == 0) = false := beq_eq_false_iff_ne.mpr c18
           have c18b1 : (a0_1 != 0) = true := bne_iff_ne.mpr c18
           by_cases c19 : (Int.tmod x20_2 a0_1) = x12_1
           ·rw [if_pos c19] at H
            have c19b0 : ((Int.tmod x20_2 a0_1) == x12_1) = true := beq_iff_eq.mpr c19
            have c19b1 : ((Int.tmod x20_2 a0_1) != x12_1) = false := bne_eq_false_iff_eq.mpr c19
            clear c19
            by_cases c20 : 0 ≤ x20_2
            ·rw [if_pos c20] at H
             have c20b0 : decide (0 ≤ x20_2) = true := decide_eq_true c20
             clear c20
             by_cases c21 : x20_2 < (x5_2.length : Int)
             ·rw [if_pos c21] at H
              have c21b0 : decide (x20_2 < (x5_2.length : Int)) = true := decide_eq_true c21
              clear c21
              obtain ⟨y172, hy172⟩ : ∃ y_ : List Int, y_ = (x5_2.set (x20_2 : Int).toNat 1) := ⟨_, rfl⟩
              replace H : (precode_Low.l1 k2 x3_1 x12_1 y172 a0_1 x12_1 a0_0 (wrap64 (x20_2 + 1)) a0_0 a0_1 a0_2) = some r := zC H hy172
              have Ny172 := zA hy172
              clear hy172
              have H' := zA H
              clear H
              try go_wp2
              replace HO_3 := zA (Kd.S_drew HO_3.out)
              replace HO_5 := zA (Kd.R_drew HO_5.out)
              replace BK166 := zA (blk_drew BK166.out)
              replace HB := zA (below_drew1 HB.out)
              refine start_ (n := 20) (S := fun w' => w'.cell? ⟨gb166, 0, none⟩ = some (.int .i64 a0_0) ∧ w'.cell? ⟨gb166, 1, none⟩ = some (.int .i64 a0_1) ∧ w'.cell? ⟨gb166, 2, none⟩ = some (.int .i64 a0_2)) (ds := []) (ms 20 0) (by kernel_rfl) rfl rfl ⟨(blk_cell BK166.out 0).trans rfl, (blk_cell BK166.out 1).trans rfl, (blk_cell BK166.out 2).trans rfl⟩ (fun hHeld => ?_); refine with_tabW precode_Low.tab11 precode_Low.bits11 (fun HT_ HW_ => ?_)
              generalize wr.drew = w23 at HO_3 HO_5 BK166 HB hHeld ⊢
              refine run_ [(0, false, some 23), (1, false, some 24), (4, false, some 27), (2, true, some 25), (3, false, some 26), (5, false, some 28), (6, false, some 29)] (n := 7) (ms 20 127) rfl HT_.out HW_.out (by kernel_rfl) (fun _ _ _ _ h => h) hHeld ?_
              repeat (first | (refine Run.p (v := ?_) (a' := ?_) rfl rfl (Or.inl ⟨by rfl, ?_⟩) ?_ ?_; rotate_left; (focus intro w'; go_simp; with_reducible rfl); rotate_left; (focus simp only [Act.put, sx]; rfl)) | (refine Run.t (v := ?_) (a' := ?_) rfl rfl (Or.inl ⟨by rfl, ?_⟩) ?_ ?_; rotate_left; (focus rintro w' ⟨s0, s1, s2⟩; go_simp; with_reducible rfl); rotate_left; (focus simp only [Act.put, sx]; rfl)))
              refine Run.nil ?_
              refine pure_ (i := 7) (N := some 30) (v := undef) (a' := ?_) (ms 20 255) rfl rfl (any_of HT_.out (by kernel_rfl)) (fun _ _ _ h => h) (Or.inr ⟨by rfl, rfl⟩) ?_ ?_
              rotate_left
              ·simp only [Act.put, sx]
               rfl
              refine pure_ (i := 8) (N := some 31) (v := undef) (a' := ?_) (ms 20 511) rfl rfl (any_of HT_.out (by kernel_rfl)) (fun _ _ _ h => h) (Or.inr ⟨by rfl, rfl⟩) ?_ ?_
              rotate_left
              ·simp only [Act.put, sx]
               rfl
              refine pure_ (i := 9) (N := some 32) (v := undef) (a' := ?_) (ms 20 1023) rfl rfl (any_of HT_.out (by kernel_rfl)) (fun _ _ _ h => h) (Or.inr ⟨by rfl, rfl⟩) ?_ ?_
              rotate_left
              ·simp only [Act.put, sx]
               rfl
              refine pure_ (i := 10) (N := some 33) (v := undef) (a' := ?_) (ms 20 2047) rfl rfl (any_of HT_.out (by kernel_rfl)) (fun _ _ _ h => h) (Or.inr ⟨by rfl, rfl⟩) ?_ ?_
              rotate_left
              ·simp only [Act.put, sx]
               rfl
              refine pure_ (i := 11) (N := some 34) (v := undef) (a' := ?_) (ms 20 4095) rfl rfl (any_of HT_.out (by kernel_rfl)) (fun _ _ _ h => h) (Or.inr ⟨by rfl, rfl⟩) ?_ ?_
              rotate_left
              ·simp only [Act.put, sx]
               rfl
              refine pure_ (i := 12) (N := some 35) (v := undef) (a' := ?_) (ms 20 8191) rfl rfl (any_of HT_.out (by kernel_rfl)) (fun _ _ _ h => h) (Or.inr ⟨by rfl, rfl⟩) ?_ ?_
              rotate_left
              ·simp only [Act.put, sx]
               rfl
              refine pure_ (i := 13) (N := some 36) (v := undef) (a' := ?_) (ms 20 16383) rfl rfl (any_of HT_.out (by kernel_rfl)) (fun _ _ _ h => h) (Or.inr ⟨by rfl, rfl⟩) ?_ ?_
              rotate_left
              ·simp only [Act.put, sx]
               rfl
              refine pure_ (i := 14) (N := some 37) (v := undef) (a' := ?_) (ms 20 32767) rfl rfl (any_of HT_.out (by kernel_rfl)) (fun _ _ _ h => h) (Or.inr ⟨by rfl, rfl⟩) ?_ ?_
              rotate_left
              ·simp only [Act.put, sx]
               rfl
              refine pure_ (i := 15) (N := some 38) (v := undef) (a' := ?_) (ms 20 65535) rfl rfl (any_of HT_.out (by kernel_rfl)) (fun _ _ _ h => h) (Or.inr ⟨by rfl, rfl⟩) ?_ ?_
              rotate_left
              ·simp only [Act.put, sx]
               rfl
              refine pure_ (i := 16) (N := some 39) (v := undef) (a' := ?_) (ms 20 131071) rfl rfl (any_of HT_.out (by kernel_rfl)) (fun _ _ _ h => h) (Or.inr ⟨by rfl, rfl⟩) ?_ ?_
              rotate_left
              ·simp only [Act.put, sx]
               rfl
              refine pure_ (i := 17) (N := some 40) (v := undef) (a' := ?_) (ms 20 262143) rfl rfl (any_of HT_.out (by kernel_rfl)) (fun _ _ _ h => h) (Or.inr ⟨by rfl, rfl⟩) ?_ ?_
              rotate_left
              ·simp only [Act.put, sx]
               rfl
              refine pure_ (i := 18) (N := some 41) (v := undef) (a' := ?_) (ms 20 524287) rfl rfl (any_of HT_.out (by kernel_rfl)) (fun _ _ _ h => h) (Or.inr ⟨by rfl, rfl⟩) ?_ ?_
              rotate_left
              ·simp only [Act.put, sx]
               rfl
              refine pure_ (i := 19) (N := some 42) (v := ?_) (a' := ?_) (ms 20 1048575) rfl rfl (any_of HT_.out (by kernel_rfl)) (fun _ _ _ h => h) (Or.inl ⟨by rfl, ?_⟩) ?_ ?_
              rotate_left
              ·intro w'
               go_simp
               with_reducible rfl
              rotate_left
              ·simp only [Act.put, sx]
               rfl
              refine done_ (done_of HT_.out (by kernel_rfl)) ?_
              have p22 : 0 ≤ (x20_2 : Int) := of_decide_eq_true asu
              have q22 : (x20_2 : Int) < ((x5_2.length : Int) : Int) := of_decide_eq_true asu
              obtain ⟨go22, co22, eo22, gb22, gl22, cl22, HG22⟩ := Kd.R_form HO_5.out (by omega)
              (first | cases eo22 | (injection eo22 with ea_ en_ ec_; (first | subst ea_ | (injection ea_ with ea_; subst ea_)); subst ec_; clear en_))
              have GB22 := zA gb22
              have GG22 := zA HG22
              clear gb22 gl22 HG22
              obtain ⟨hx22_0, hf22_0⟩ := Kd.R_celln 0 HO_5.out (x20_2 : Int) p22 q22
              replace p22 := eq_true p22
              replace q22 := eq_true q22
              obtain ⟨hy24_, hz24_⟩ := Kd.R_celln 0 HO_5.out (x20_2 : Int) (of_decide_eq_true asu) (of_decide_eq_true asu)
              have HP24 := Kd.R_putg HO_5.out (x20_2 : Int) 1
              try go_wp2_with (first | ((with_reducible refine gate_store (t := 5) (p := 45) rfl ?_); refine store_event (t := 5) (p := 45) (v := ?vo_w25) (w1 := (w23.setCell ⟨go22, (x20_2 : Int).toNat, none⟩ (.int .u8 1))) ?hg ?ho ?hn ?hr ?_; (case ho => rfl); (case hg => rfl); (case hn => rfl); (case hr => first | (go_simp; done) | (go_simp; rfl)); intro w25 hw; have hg : w23.grownBy w25 (some go22) := (by rw [hw]; exact HP24.2); have hp_ : Kd.R (Kd.int .u8) 5 w25 w.heap.size (fun _ => True) (.slice (some ⟨go22, 0, none⟩) x5_2.length co22) y172 := (by rw [hw, Ny172.out]; exact HP24.1); clear HP24; replace HO_3 := zA (Kd.S_after (v := (.slice (some ⟨go22, 0, none⟩) x5_2.length co22)) (v1 := (.slice (some ⟨go22, 0, none⟩) x5_2.length co22)) (ok := (fun _ => True)) (S_g (Kd.S_mono HO_3.out (fun _ hk => ⟨trivial, hk⟩))) hg (.inl rfl)); replace BK166 := zA (blk_grown (g := gb166) (o := .cells #[.int .i64 a0_0, .int .i64 a0_1, .int .i64 a0_2] 24 (0, 0)) (blk_g BK166.out) hg (Kd.R_ne HO_5.out BK166.out (by decide))); replace HO_5 := zA (hp_); replace HB := zA ((by rw [hw]; exact below_set (HB.out) GB22.out : Below w.heap.size w w25)); clear hg hw hp_))
              go_roundg k2
              case measure => have := HK1.out; have := HK2.out; omega
              case rel => exact ⟨(y172), (wrap64 (x20_2 + 1)), frs, H', ⟨by have := HK1.out; have := HK2.out; omega⟩, ⟨by (with_reducible repeat (first | apply Kd.S_alloc | apply Kd.S_drewN | apply Kd.S_drew)); exact Kd.S_mono HO_3.out (fun _ hk => hk.2)⟩, ⟨rdR HO_5.out⟩, ⟨rdB BK166.out⟩, ⟨bel⟩⟩
             ·rw [if_neg c21] at H
              exact absurd H (by simp)
            ·rw [if_neg c20] at H
             exact absurd H (by simp)
           ·rw [if_neg c19] at H
            have c19b0 : ((Int.tmod x20_2 a0_1) == x12_1) = false := beq_eq_false_iff_ne.mpr c19
            have c19b1 : ((Int.tmod x20_2 a0_1) != x12_1) = true := bne_iff_ne.mpr c19
            by_cases c26 : (Int.tmod (wrap64 ((wrap64 ((wrap64 (Int.tdiv x20_2 a0_1)) + x20_2)) + 1)) a0_1) = x12_1
            ·rw [if_pos c26] at H
             have c26b0 : ((Int.tmod (wrap64 ((wrap64 ((wrap64 (Int.tdiv x20_2 a0_1)) + x20_2)) + 1)) a0_1) == x12_1) = true := beq_iff_eq.mpr c26
             have c26b1 : ((Int.tmod (wrap64 ((wrap64 ((wrap64 (Int.tdiv x20_2 a0_1)) + x20_2)) + 1)) a0_1) != x12_1) = false := bne_eq_false_iff_eq.mpr c26
             clear c26
             by_cases c27 : 0 ≤ x20_2
             ·rw [if_pos c27] at H
              have c27b0 : decide (0 ≤ x20_2) = true := decide_eq_true c27
              clear c27
              by_cases c28 : x20_2 < (x5_2.length : Int)
              ·rw [if_pos c28] at H
               have c28b0 : decide (x20_2 < (x5_2.length : Int)) = true := decide_eq_true c28
               clear c28
               obtain ⟨y173, hy173⟩ : ∃ y_ : List Int, y_ = (x5_2.set (x20_2 : Int).toNat 1) := ⟨_, rfl⟩
               replace H : (precode_Low.l1 k2 x3_1 x12_1 y173 a0_1 x12_1 a0_0 (wrap64 (x20_2 + 1)) a0_0 a0_1 a0_2) = some r := zC H hy173
               have Ny173 := zA hy173
               clear hy173
               have H' := zA H
               clear H
               try go_wp2
               replace HO_3 := zA (Kd.S_drew HO_3.out)
               replace HO_5 := zA (Kd.R_drew HO_5.out)
               replace BK166 := zA (blk_drew BK166.out)
               replace HB := zA (below_drew1 HB.out)
               refine start_ (n := 20) (S := fun w' => w'.cell? ⟨gb166, 0, none⟩ = some (.int .i64 a0_0) ∧ w'.cell? ⟨gb166, 1, none⟩ = some (.int .i64 a0_1) ∧ w'.cell? ⟨gb166, 2, none⟩ = some (.int .i64 a0_2)) (ds := []) (ms 20 0) (by kernel_rfl) rfl rfl ⟨(blk_cell BK166.out 0).trans rfl, (blk_cell BK166.out 1).trans rfl, (blk_cell BK166.out 2).trans rfl⟩ (fun hHeld => ?_); refine with_tabW precode_Low.tab11 precode_Low.bits11 (fun HT_ HW_ => ?_)
               generalize wr.drew = w30 at HO_3 HO_5 BK166 HB hHeld ⊢
               refine run_ [(0, false, some 23), (1, false, some 24), (4, false, some 27), (2, true, some 25), (3, false, some 26), (5, false, some 28), (6, false, some 29), (7, false, some 30), (8, false, some 31), (11, false, some 34), (14, false, some 37), (17, false, some 40), (9, true, some 32), (10, false, some 33), (12, false, some 35), (13, false, some 36), (15, true, some 38), (16, false, some 39), (18, false, some 41), (19, false, some 42)] (n := 20) (ms 20 1048575) rfl HT_.out HW_.out (by kernel_rfl) (fun _ _ _ _ h => h) hHeld ?_
               repeat (first | (refine Run.p (v := ?_) (a' := ?_) rfl rfl (Or.inl ⟨by rfl, ?_⟩) ?_ ?_; rotate_left; (focus intro w'; go_simp; with_reducible rfl); rotate_left; (focus simp only [Act.put, sx]; rfl)) | (refine Run.t (v := ?_) (a' := ?_) rfl rfl (Or.inl ⟨by rfl, ?_⟩) ?_ ?_; rotate_left; (focus rintro w' ⟨s0, s1, s2⟩; go_simp; with_reducible rfl); rotate_left; (focus simp only [Act.put, sx]; rfl)))
               refine Run.nil ?_
               refine done_ (done_of HT_.out (by kernel_rfl)) ?_
               have p29 : 0 ≤ (x20_2 : Int) := of_decide_eq_true asu
               have q29 : (x20_2 : Int) < ((x5_2.length : Int) : Int) := of_decide_eq_true asu
               obtain ⟨go29, co29, eo29, gb29, gl29, cl29, HG29⟩ := Kd.R_form HO_5.out (by omega)
               (first | cases eo29 | (injection eo29 with ea_ en_ ec_; (first | subst ea_ | (injection ea_ with ea_; subst ea_)); subst ec_; clear en_))
               have GB29 := zA gb29
               have GG29 := zA HG29
               clear gb29 gl29 HG29
               obtain ⟨hx29_0, hf29_0⟩ := Kd.R_celln 0 HO_5.out (x20_2 : Int) p29 q29
               replace p29 := eq_true p29
               replace q29 := eq_true q29
               obtain ⟨hy31_, hz31_⟩ := Kd.R_celln 0 HO_5.out (x20_2 : Int) (of_decide_eq_true asu) (of_decide_eq_true asu)
               have HP31 := Kd.R_putg HO_5.out (x20_2 : Int) 1
               try go_wp2_with (first | ((with_reducible refine gate_store (t := 5) (p := 45) rfl ?_); refine store_event (t := 5) (p := 45) (v := ?vo_w32) (w1 := (w30.setCell ⟨go29, (x20_2 : Int).toNat, none⟩ (.int .u8 1))) ?hg ?ho ?hn ?hr ?_; (case ho => rfl); (case hg => rfl); (case hn => rfl); (case hr => first | (go_simp; done) | (go_simp; rfl)); intro w32 hw; have hg : w30.grownBy w32 (some go29) := (by rw [hw]; exact HP31.2); have hp_ : Kd.R (Kd.int .u8) 5 w32 w.heap.size (fun _ => True) (.slice (some ⟨go29, 0, none⟩) x5_2.length co29) y173 := (by rw [hw, Ny173.out]; exact HP31.1); clear HP31; replace HO_3 := zA (Kd.S_after (v := (.slice (some ⟨go29, 0, none⟩) x5_2.length co29)) (v1 := (.slice (some ⟨go29, 0, none⟩) x5_2.length co29)) (ok := (fun _ => True)) (S_g (Kd.S_mono HO_3.out (fun _ hk => ⟨trivial, hk⟩))) hg (.inl rfl)); replace BK166 := zA (blk_grown (g := gb166) (o := .cells #[.int .i64 a0_0, .int .i64 a0_1, .int .i64 a0_2] 24 (0, 0)) (blk_g BK166.out) hg (Kd.R_ne HO_5.out BK166.out (by decide))); replace HO_5 := zA (hp_); replace HB := zA ((by rw [hw]; exact below_set (HB.out) GB29.out : Below w.heap.size w w32)); clear hg hw hp_))
               go_roundg k2
               case measure => have := HK1.out; have := HK2.out; omega
               case rel => exact ⟨(y173), (wrap64 (x20_2 + 1)), frs, H', ⟨by have := HK1.out; have := HK2.out; omega⟩, ⟨by (with_reducible repeat (first | apply Kd.S_alloc | apply Kd.S_drewN | apply Kd.S_drew)); exact Kd.S_mono HO_3.out (fun _ hk => hk.2)⟩, ⟨rdR HO_5.out⟩, ⟨rdB BK166.out⟩, ⟨bel⟩⟩
              ·rw [if_neg c28] at H
               exact absurd H (by simp)
             ·rw [if_neg c27] at H
              exact absurd H (by simp)
            ·rw [if_neg c26] at H
             have c26b0 : ((Int.tmod (wrap64 ((wrap64 ((wrap64 (Int.tdiv x20_2 a0_1)) + x20_2)) + 1)) a0_1) == x12_1) = false := beq_eq_false_iff_ne.mpr c26
             have c26b1 : ((Int.tmod (wrap64 ((wrap64 ((wrap64 (Int.tdiv x20_2 a0_1)) + x20_2)) + 1)) a0_1) != x12_1) = true := bne_iff_ne.mpr c26
             have H' := zA H
             clear H
             try go_wp2
             replace HO_3 := zA (Kd.S_drew HO_3.out)
             replace HO_5 := zA (Kd.R_drew HO_5.out)
             replace BK166 := zA (blk_drew BK166.out)
             replace HB := zA (below_drew1 HB.out)
             refine start_ (n := 20) (S := fun w' => w'.cell? ⟨gb166, 0, none⟩ = some (.int .i64 a0_0) ∧ w'.cell? ⟨gb166, 1, none⟩ = some (.int .i64 a0_1) ∧ w'.cell? ⟨gb166, 2, none⟩ = some (.int .i64 a0_2)) (ds := []) (ms 20 0) (by kernel_rfl) rfl rfl ⟨(blk_cell BK166.out 0).trans rfl, (blk_cell BK166.out 1).trans rfl, (blk_cell BK166.out 2).trans rfl⟩ (fun hHeld => ?_); refine with_tabW precode_Low.tab11 precode_Low.bits11 (fun HT_ HW_ => ?_)
             generalize wr.drew = w33 at HO_3 HO_5 BK166 HB hHeld ⊢
             refine run_ [(0, false, some 23), (1, false, some 24), (4, false, some 27), (2, true, some 25), (3, false, some 26), (5, false, some 28), (6, false, some 29), (7, false, some 30), (8, false, some 31), (11, false, some 34), (14, false, some 37), (17, false, some 40), (9, true, some 32), (10, false, some 33), (12, false, some 35), (13, false, some 36), (15, true, some 38), (16, false, some 39), (18, false, some 41), (19, false, some 42)] (n := 20) (ms 20 1048575) rfl HT_.out HW_.out (by kernel_rfl) (fun _ _ _ _ h => h) hHeld ?_
             repeat (first | (refine Run.p (v := ?_) (a' := ?_) rfl rfl (Or.inl ⟨by rfl, ?_⟩) ?_ ?_; rotate_left; (focus intro w'; go_simp; with_reducible rfl); rotate_left; (focus simp only [Act.put, sx]; rfl)) | (refine Run.t (v := ?_) (a' := ?_) rfl rfl (Or.inl ⟨by rfl, ?_⟩) ?_ ?_; rotate_left; (focus rintro w' ⟨s0, s1, s2⟩; go_simp; with_reducible rfl); rotate_left; (focus simp only [Act.put, sx]; rfl)))
             refine Run.nil ?_
             refine done_ (done_of HT_.out (by kernel_rfl)) ?_
             try go_wp2
             go_roundg k2
             case measure => have := HK1.out; have := HK2.out; omega
             case rel => exact ⟨(x5_2), (wrap64 (x20_2 + 1)), frs, H', ⟨by have := HK1.out; have := HK2.out; omega⟩, ⟨rdS HO_3.out⟩, ⟨rdR HO_5.out⟩, ⟨rdB BK166.out⟩, ⟨bel⟩⟩
         ·rw [if_neg c17] at H
          have c17b0 : decide (x20_2 < a0_0) = false := decide_eq_false c17
          clear c17
          obtain ⟨ji34, hji34⟩ : ∃ j_ : Int, (wrap64 (a0_0 + x12_1)) = j_ := ⟨_, rfl⟩
          replace H : (if 0 ≤ (ji34) then (if (ji34) < (x5_2.length : Int) then ((params_Params_W.f a0_0 a0_1 a0_2).bind fun t175 => (if a0_2 = 0 then (none) else (if 0 ≤ (wrap64 (t175 + (Int.tmod x12_1 a0_2))) then (if (wrap64 (t175 + (Int.tmod x12_1 a0_2))) < (x5_2.length : Int) then (if x3_1.length < 5864062014805 then (precode_Low.l0 k2 (x3_1 ++ [((x5_2.set ((ji34) : Int).toNat 1).set ((wrap64 (t175 + (Int.tmod x12_1 a0_2))) : Int).toNat 1)]) a0_1 (wrap64 (x12_1 + 1)) a0_0 a0_1 a0_2) else (none)) else (none)) else (none)))) else (none)) else (none)) = some r := by first | (rw [hji34] at H; exact H) | (simp only [hji34] at H ⊢; exact H)
          have hji34w : (IntKind.i64.wrap (a0_0 + x12_1)) = ji34 := (i64_w _).trans hji34
          by_cases c35 : 0 ≤ (ji34)
          ·rw [if_pos c35] at H
           have c35b0 : decide (0 ≤ (ji34)) = true := decide_eq_true c35
           clear c35
           by_cases c36 : (ji34) < (x5_2.length : Int)
           ·rw [if_pos c36] at H
            have c36b0 : decide ((ji34) < (x5_2.length : Int)) = true := decide_eq_true c36
            clear c36
            obtain ⟨y174, hy174⟩ : ∃ y_ : List Int, y_ = (x5_2.set ((ji34) : Int).toNat 1) := ⟨_, rfl⟩
            replace H : ((params_Params_W.f a0_0 a0_1 a0_2).bind fun t175 => (if a0_2 = 0 then (none) else (if 0 ≤ (wrap64 (t175 + (Int.tmod x12_1 a0_2))) then (if (wrap64 (t175 + (Int.tmod x12_1 a0_2))) < (x5_2.length : Int) then (if x3_1.length < 5864062014805 then (precode_Low.l0 k2 (x3_1 ++ [(y174.set ((wrap64 (t175 + (Int.tmod x12_1 a0_2))) : Int).toNat 1)]) a0_1 (wrap64 (x12_1 + 1)) a0_0 a0_1 a0_2) else (none)) else (none)) else (none)))) = some r := zC H hy174
            have Ny174 := zA hy174
            clear hy174
            replace H := Option.bind_eq_some_iff.mp H
            obtain ⟨t175, A380, H⟩ := H
            try dsimp only at H
            have A38 := zA A380
            clear A380
            by_cases c39 : a0_2 = 0
            ·rw [if_pos c39] at H
             exact absurd H (by simp)
            ·rw [if_neg c39] at H
             have c39b0 : (a0_2 == 0) = false := beq_eq_false_iff_ne.mpr c39
             have c39b1 : (a0_2 != 0) = true := bne_iff_ne.mpr c39
             obtain ⟨ji40, hji40⟩ : ∃ j_ : Int, (wrap64 (t175 + (Int.tmod x12_1 a0_2))) = j_ := ⟨_, rfl⟩
             replace H : (if 0 ≤ (ji40) then (if (ji40) < (x5_2.length : Int) then (if x3_1.length < 5864062014805 then (precode_Low.l0 k2 (x3_1 ++ [(y174.set ((ji40) : Int).toNat 1)]) a0_1 (wrap64 (x12_1 + 1)) a0_0 a0_1 a0_2) else (none)) else (none)) else (none)) = some r := by first | (rw [hji40] at H; exact H) | (simp only [hji40] at H ⊢; exact H)
             (try rw [hji40] at A38)
             have hji40w : (IntKind.i64.wrap (t175 + (Int.tmod x12_1 a0_2))) = ji40 := (i64_w _).trans hji40
             by_cases c41 : 0 ≤ (ji40)
             ·rw [if_pos c41] at H
              have c41b0 : decide (0 ≤ (ji40)) = true := decide_eq_true c41
              clear c41
              by_cases c42 : (ji40) < (x5_2.length : Int)
              ·rw [if_pos c42] at H
               have c42b0 : decide ((ji40) < (x5_2.length : Int)) = true := decide_eq_true c42
               clear c42
               obtain ⟨y176, hy176⟩ : ∃ y_ : List Int, y_ = (y174.set ((ji40) : Int).toNat 1) := ⟨_, rfl⟩
               replace H : (if x3_1.length < 5864062014805 then (precode_Low.l0 k2 (x3_1 ++ [y176]) a0_1 (wrap64 (x12_1 + 1)) a0_0 a0_1 a0_2) else (none)) = some r := zC H hy176
               have Ny176 := zA hy176
               clear hy176
               by_cases c44 : x3_1.length < 5864062014805
               ·rw [if_pos c44] at H
                have LMc44 := zA c44
                clear c44
                obtain ⟨y177, hy177⟩ : ∃ y_ : List (List Int), y_ = (x3_1 ++ [y176]) := ⟨_, rfl⟩
                replace H : (precode_Low.l0 k2 y177 a0_1 (wrap64 (x12_1 + 1)) a0_0 a0_1 a0_2) = some r := zC H hy177
                have Ny177 := zA hy177
                clear hy177
                have H' := zA H
                clear H
                obtain ⟨hcz45_0, hcz45_1, hcz45_2, hfz45_0, hfz45_1, hfz45_2⟩ := box3 BK166.out
                have p37 : 0 ≤ ((ji34) : Int) := of_decide_eq_true asu
                have q37 : ((ji34) : Int) < ((x5_2.length : Int) : Int) := of_decide_eq_true asu
                obtain ⟨go37, co37, eo37, gb37, gl37, cl37, HG37⟩ := Kd.R_form HO_5.out (by omega)
                (first | cases eo37 | (injection eo37 with ea_ en_ ec_; (first | subst ea_ | (injection ea_ with ea_; subst ea_)); subst ec_; clear en_))
                have GB37 := zA gb37
                have GG37 := zA HG37
                clear gb37 gl37 HG37
                obtain ⟨hx37_0, hf37_0⟩ := Kd.R_celln 0 HO_5.out ((ji34) : Int) p37 q37
                replace p37 := eq_true p37
                replace q37 := eq_true q37
                have HP46 := Kd.R_putg HO_5.out ((ji34) : Int) 1
                try go_wp2_with (first | ((with_reducible refine gate_store (t := 5) (p := 52) rfl ?_); refine store_event (t := 5) (p := 52) (v := ?vo_w47) (w1 := (wr.setCell ⟨go37, ((ji34) : Int).toNat, none⟩ (.int .u8 1))) ?hg ?ho ?hn ?hr ?_; (case ho => rfl); (case hg => rfl); (case hn => rfl); (case hr => first | (go_simp; done) | (go_simp; rfl)); intro w47 hw; have hg : wr.grownBy w47 (some go37) := (by rw [hw]; exact HP46.2); have hp_ : Kd.R (Kd.int .u8) 5 w47 w.heap.size (fun _ => True) (.slice (some ⟨go37, 0, none⟩) x5_2.length co37) y174 := (by rw [hw, Ny174.out]; exact HP46.1); clear HP46; replace HO_3 := zA (Kd.S_after (v := (.slice (some ⟨go37, 0, none⟩) x5_2.length co37)) (v1 := (.slice (some ⟨go37, 0, none⟩) x5_2.length co37)) (ok := (fun _ => True)) (S_g (Kd.S_mono HO_3.out (fun _ hk => ⟨trivial, hk⟩))) hg (.inl rfl)); replace BK166 := zA (blk_grown (g := gb166) (o := .cells #[.int .i64 a0_0, .int .i64 a0_1, .int .i64 a0_2] 24 (0, 0)) (blk_g BK166.out) hg (Kd.R_ne HO_5.out BK166.out (by decide))); replace HO_5 := zA (hp_); replace HB := zA ((by rw [hw]; exact below_set (HB.out) GB37.out : Below w.heap.size w w47)); clear hg hw hp_))
                replace HO_3 := zA (Kd.S_drew HO_3.out)
                replace HO_5 := zA (Kd.R_drew HO_5.out)
                replace BK166 := zA (blk_drew BK166.out)
                replace HB := zA (below_drew1 HB.out)
                refine start_ (n := 10) (S := fun w' => w'.cell? ⟨gb166, 0, none⟩ = some (.int .i64 a0_0) ∧ w'.cell? ⟨gb166, 1, none⟩ = some (.int .i64 a0_1) ∧ w'.cell? ⟨gb166, 2, none⟩ = some (.int .i64 a0_2)) (ds := [9]) (ms 10 0) (by kernel_rfl) rfl rfl ⟨(blk_cell BK166.out 0).trans rfl, (blk_cell BK166.out 1).trans rfl, (blk_cell BK166.out 2).trans rfl⟩ (fun hHeld => ?_); refine with_tabW precode_Low.tab15 precode_Low.bits15 (fun HT_ HW_ => ?_)
                generalize w47.drew = w48 at HO_3 HO_5 BK166 HB hHeld ⊢
                refine run_ [(0, false, some 53), (3, false, some 56), (4, false, some 57), (1, true, some 54), (5, true, some 58), (6, false, some 59)] (n := 6) (ms 10 123) rfl HT_.out HW_.out (by kernel_rfl) (fun _ _ _ _ h => h) hHeld ?_
                repeat (first | (refine Run.p (v := ?_) (a' := ?_) rfl rfl (Or.inl ⟨by rfl, ?_⟩) ?_ ?_; rotate_left; (focus intro w'; go_simp; with_reducible rfl); rotate_left; (focus simp only [Act.put, sx]; rfl)) | (refine Run.t (v := ?_) (a' := ?_) rfl rfl (Or.inl ⟨by rfl, ?_⟩) ?_ ?_; rotate_left; (focus rintro w' ⟨s0, s1, s2⟩; go_simp; with_reducible rfl); rotate_left; (focus simp only [Act.put, sx]; rfl)))
                refine Run.nil ?_
                refine one_ (i := 2) (N := some 55) (ms 10 127) rfl rfl (one_of HT_.out (by kernel_rfl)) (by decide) (fun K hK => ?_)
                refine goes_ Try.func23 (by kernel_rfl) rfl #[.agg #[.int .i64 a0_0, .int .i64 a0_1, .int .i64 a0_2]] (by rfl) rfl rfl agl ?_
                with_reducible refine (params_Params_W.calls a0_0 a0_1 a0_2 t175 _ A38.out).mono ?_
                rintro e w49 ⟨rfl, hb⟩
                refine ⟨_, rfl, ?_⟩
                replace HO_3 := zA (Kd.S_below (S_g HO_3.out) hb)
                replace HO_5 := zA (Kd.R_below (R_g HO_5.out) hb)
                replace BK166 := zA (blk_below (g := gb166) (o := .cells #[.int .i64 a0_0, .int .i64 a0_1, .int .i64 a0_2] 24 (0, 0)) (blk_g BK166.out) hb)
                replace HB := zA (belt hb)
                (try clear hb)
                (try clear hb2)
                (try clear hk)
                (try clear hi)
                have p43 : 0 ≤ ((ji40) : Int) := of_decide_eq_true asu
                have q43 : ((ji40) : Int) < ((x5_2.length : Int) : Int) := of_decide_eq_true asu
                obtain ⟨hx43_0, hf43_0⟩ := Kd.R_celln 0 HO_5.out ((ji40) : Int) p43 q43
                replace p43 := eq_true p43
                replace q43 := eq_true q43
                have HP50 := Kd.R_putn HO_5.out ((ji40) : Int) 1
                rw [← Ny176.out] at HP50
                have HQ50 := zA HP50
                clear HP50
                refine hK.out _ _ ⟨(blk_cell BK166.out 0).trans rfl, (blk_cell BK166.out 1).trans rfl, (blk_cell BK166.out 2).trans rfl⟩ (fun hHeld => ?_)
                clear hK K
                refine norm_ (a' := ?_) ?_ ?_
                rotate_left
                ·show Act.put _ (some 55) _ = _
                 simp only [Act.put, sx]
                 rfl
                refine run_ [(7, false, some 60), (8, false, some 61)] (n := 2) (ms 10 511) rfl HT_.out HW_.out (by kernel_rfl) (fun _ _ _ _ h => h) hHeld ?_
                repeat (refine Run.p (v := ?_) (a' := ?_) rfl rfl (Or.inl ⟨by rfl, ?_⟩) ?_ ?_; rotate_left; (focus intro w'; go_simp; with_reducible rfl); rotate_left; (focus simp only [Act.put, sx]; rfl))
                refine Run.nil ?_
                refine last_ (i := 9) (N := none) (ms 10 1023) rfl rfl (one_of HT_.out (by kernel_rfl)) (by decide) (fun K hK => ?_)
                refine skip_ (w1 := ?_) (by rfl) rfl ?_ ?_
                rotate_left
                ·go_simp
                 rfl
                refine hK.out _ _ ?_
                clear hK K
                refine done_ (done_of HT_.out (by kernel_rfl)) ?_
                have n0_ : Aside0 (Kd.S (Kd.slice 5 (Kd.int .u8)) 31 (w49.setCell ⟨go37, ((ji40) : Int).toNat, none⟩ (.int .u8 1)) w.heap.size (fun k_ => some k_ ≠ (.slice (some ⟨go37, 0, none⟩) x5_2.length co37 : Value).ownBlock) u3 x3_1) := ⟨by (with_reducible repeat (first | apply Kd.S_alloc | apply Kd.S_drewN | apply Kd.S_drew)); exact Kd.S_mono (Kd.S_far (p := ⟨go37, ((ji40) : Int).toNat, none⟩) (Kd.S_mono HO_3.out (fun k_ hk => (⟨hk, fun e_ => hk.2 (by rw [e_]; rfl)⟩ : _ ∧ k_ ≠ go37))) (fun _ hk => hk.2) (.int .u8 1)) (fun _ hk => hk.1.2)⟩
                have n1_ : Aside0 (Kd.R (Kd.int .u8) 5 (w49.setCell ⟨go37, ((ji40) : Int).toNat, none⟩ (.int .u8 1)) w.heap.size (fun _ => True) (.slice (some ⟨go37, 0, none⟩) x5_2.length co37) y176) := ⟨rdR HQ50.out⟩
                have n2_ : Aside0 ((w49.setCell ⟨go37, ((ji40) : Int).toNat, none⟩ (.int .u8 1)).heap[gb166]? = some (.cells #[.int .i64 a0_0, .int .i64 a0_1, .int .i64 a0_2] 24 (0, 0))) := ⟨by (with_reducible repeat (first | refine blk_drewN ?_ _ | refine blk_drew ?_ | refine blk_alloc ?_ _)); refine blk_far ?_ (by have h_ := Kd.R_ne HO_5.out BK166.out (by decide); intro e_; exact h_ (by rw [e_]; rfl)) _; (with_reducible repeat (first | refine blk_drewN ?_ _ | refine blk_drew ?_ | refine blk_alloc ?_ _)); exact BK166.out⟩
                have n3_ : Aside0 (Below w.heap.size w (w49.setCell ⟨go37, ((ji40) : Int).toNat, none⟩ (.int .u8 1))) := ⟨bel⟩
                (try clear HO_3)
                (try clear HO_5)
                (try clear BK166)
                (try clear HB)
                generalize (w49.setCell ⟨go37, ((ji40) : Int).toNat, none⟩ (.int .u8 1)) = w51 at n0_ n1_ n2_ n3_ ⊢
                have HO_3 := n0_
                have HO_5 := n1_
                have BK166 := n2_
                have HB := n3_
                clear n0_ n1_ n2_ n3_
                try go_wp2_with (first | ((with_reducible refine gate_builtin (b := .append) (xs := #[.tmp 62, .tmp 64]) rfl ?_); at_builtin; refine Kd.S_append (Kd.slice 5 (Kd.int .u8)) (w0 := w) w.heap.size rfl (.tmp 62) (.tmp 64) 28 31 (.slice none 0 0) 24 rfl Try.underlying28 info31 rfl (by decide) (by omega) u3 x3_1 y176 [.slice (some ⟨go37, 0, none⟩) x5_2.length co37] (fun _ => True) (fun k_ => some k_ = (.slice (some ⟨go37, 0, none⟩) x5_2.length co37 : Value).ownBlock) rfl rfl ?aP (fun k_ hk_ => ((Kd.R_mono (ok' := fun k_ => ((fun _ => True)) k_ ∧ some k_ ≠ (u3 : Value).ownBlock) (Kd.R_apart' (HO_5.out) (Kd.S_typed HO_3.out) (by decide)) (fun k_ hk => ⟨trivial, hk.2⟩))).1 k_ hk_.symm) ?aF ?aO ?aB ?aS ?aL ?_; (case aP => exact Kd.M_row (Kd.R_mono (Kd.R_tight rfl (Kd.R_mono (ok' := fun k_ => ((fun _ => True)) k_ ∧ some k_ ≠ (u3 : Value).ownBlock) (Kd.R_apart' (HO_5.out) (Kd.S_typed HO_3.out) (by decide)) (fun k_ hk => ⟨trivial, hk.2⟩))) (fun _ h_ => h_))); (case aB => exact bel); (case aF => exact (fun _ _ => trivial)); (case aO => exact (S_g (Kd.S_mono HO_3.out (fun k_ hk => ⟨trivial, fun e_ => hk e_⟩)))); (case aS => exact bels); (case aL => have := LMc44.out; omega); intro v178 w52 ho hb hg hat; rw [← Ny177.out] at ho; replace BK166 := zA (blk_grown (g := gb166) (o := .cells #[.int .i64 a0_0, .int .i64 a0_1, .int .i64 a0_2] 24 (0, 0)) (blk_g BK166.out) hg (Kd.S_ne HO_3.out BK166.out (by decide))); replace HB := zA (hb); have HO179 := zA (ho); clear HO_3 HO_5; clear ho hb hg hat))
                go_roundg k2
                case measure => have := HK1.out; have := HK2.out; omega
                case rel => exact ⟨(y177), (wrap64 (x12_1 + 1)), frs, H', ⟨by have := HK1.out; have := HK2.out; omega⟩, ⟨rdS HO179.out⟩, ⟨rdB BK166.out⟩, ⟨bel⟩⟩
               ·rw [if_neg c44] at H
                exact absurd H (by simp)
              ·rw [if_neg c42] at H
               exact absurd H (by simp)
             ·rw [if_neg c41] at H
              exact absurd H (by simp)
           ·rw [if_neg c36] at H
            exact absurd H (by simp)
          ·rw [if_neg c35] at H
           exact absurd H (by simp)
      ·rw [if_neg c11] at H
       exact absurd H (by simp)
     ·rw [if_neg c10] at H
      exact absurd H (by simp)
    ·rw [if_neg c8] at H
     have c8b0 : decide (x12_1 < a0_1) = false := decide_eq_false c8
     clear c8
     obtain rfl := Option.some.inj H
     go_wp2
     go_ret
     exact ⟨_, by first | rfl | (simp [errW_none, errW_some] <;> rfl) | (simp [*, errW_none, errW_some] <;> rfl), rdS HO_3.out, bel⟩
 ·replace c3 := Bool.eq_false_iff.mpr c3
  subst c3
  have H1 : (some ([] : List (List Int))) = some r := by rw [if_neg (show ¬ (false = true) by decide)] at H; exact H
  clear H
  have H := H1
  clear H1
  obtain rfl := Option.some.inj H
  go_enter Try.func20, Try.ntmps20
  go_wp2_with (first | ((with_reducible refine gate_dst (N := 1) rfl ?_); refine box_event ?hg (N := 1) ?hd (cs := #[.int .i64 a0_0, .int .i64 a0_1, .int .i64 a0_2]) (t := 24) ?hr ?_; (case hd => rfl); (case hg => rfl); (case hr => first | (go_simp; done) | (go_simp; rfl)); intro gb166 hg w53 hbox hb; have BK166 := zA (hbox); have GW166 := zA ((by rw [hg]; exact bels : w.heap.size ≤ gb166)); have GE166 := zA ((by rw [hg]; exact bels : w.heap.size ≤ gb166)); replace HB := zA (belt hb); clear hb hbox hg; obtain ⟨hcz54_0, hcz54_1, hcz54_2, hfz54_0, hfz54_1, hfz54_2⟩ := box3 BK166.out) | ((with_reducible refine gate_callee (f := 61) rfl ?_); refine goesL_ (some 8) rfl rfl Try.func61 (by kernel_rfl) rfl #[.agg #[.int .i64 a0_0, .int .i64 a0_1, .int .i64 a0_2]] rfl agl ?_; (with_reducible refine (params_Params_Right.calls a0_0 a0_1 a0_2 false _ A2.out).mono ?_); rintro e w55 ⟨rfl, hb⟩; refine ⟨_, rfl, ?_⟩; replace BK166 := zA (blk_below (g := gb166) (o := .cells #[.int .i64 a0_0, .int .i64 a0_1, .int .i64 a0_2] 24 (0, 0)) (blk_g BK166.out) hb); replace HB := zA (belt hb)))
  go_ret
  exact ⟨_, by first | rfl | (simp [errW_none, errW_some] <;> rfl) | (simp [*, errW_none, errW_some] <;> rfl), by first | exact Kd.S_nil _ _ _ _ _ | exact Kd.N_nil _ _ _ _ _ | exact Kd.V_nil _ _ _ _ _ | exact Kd.Q_nil _ _ _ _ _ | exact Kd.R_nil _ _ _ _ _, bel⟩
end Go.Proofs.Ytbfhinfblepidaa.PSeedTells
namespace Go.Proofs.Ytbfhinfblepidaa.PSeedTells
open Go.RowKit Go.Proofs.YtbfhinfblepidaaW.PrintWords Go.Proofs.YtbfhinfblepidaaW.PrintLast Go.Proofs.YtbfhinfblepidaaW.PrintMore Go.Proofs.Ytbfhinfblepidaa.PSolveTells
attribute [local go_sem] max2_int min2_int max_two min_two max_three min_three max_four min_four
set_option linter.unusedVariables false
set_option linter.unusedSimpArgs false
noncomputable def field_Power.f (k : Nat) (a0 : Int) : Option (Int) := (field_power.f k 2 (Int.tmod (wrap64 ((Int.tmod a0 255) + 255)) 255)).bind fun t180 => (some t180)
theorem field_Power.calls (k : Nat) (a0 : Int) (r : Int) (w : World) (h : field_Power.f k a0 = some r) :
 Calls Try.prog 62 #[.int .i64 a0] w fun e w' => e = .returned (.int .u8 r) ∧ Drawn0 w w' := by
 have H : ((field_power.f k 2 (Int.tmod (wrap64 ((Int.tmod a0 255) + 255)) 255)).bind fun t180 => (some t180)) = some r := h
 clear h
 replace H := Option.bind_eq_some_iff.mp H
 obtain ⟨t180, A20, H⟩ := H
 try dsimp only at H
 have A2 := zA A20
 clear A20
 obtain rfl := Option.some.inj H
 go_enter Try.func62, Try.ntmps62
 go_wp2_with (first | ((with_reducible refine gate_callee (f := 92) rfl ?_); refine goesL_ (some 7) rfl rfl Try.func92 (by kernel_rfl) rfl #[.int .u8 2, .int .i64 (Int.tmod (wrap64 ((Int.tmod a0 255) + 255)) 255)] rfl agl ?_; (with_reducible refine (field_power.calls k 2 (Int.tmod (wrap64 ((Int.tmod a0 255) + 255)) 255) t180 _ A2.out).mono ?_); rintro e w' ⟨rfl, ⟨nd, rfl⟩⟩; refine ⟨_, rfl, ?_⟩))
 go_ret
 exact ⟨frs, by repeat (first | exact Drawn0.refl _ | apply Drawn0.step)⟩
noncomputable def random_Stir.f (a0 : Int) : Option (Int) := some (Go.bits .xor .u32 (((Go.bits .xor .u32 (((Go.bits .xor .u32 a0 (a0 / 65536)) * 2146121005) % 4294967296) ((((Go.bits .xor .u32 a0 (a0 / 65536)) * 2146121005) % 4294967296) / 32768)) * 2221713035) % 4294967296) ((((Go.bits .xor .u32 (((Go.bits .xor .u32 a0 (a0 / 65536)) * 2146121005) % 4294967296) ((((Go.bits .xor .u32 a0 (a0 / 65536)) * 2146121005) % 4294967296) / 32768)) * 2221713035) % 4294967296) / 65536))
theorem random_Stir.calls (a0 : Int) (r : Int) (w : World) (h : random_Stir.f a0 = some r) :
 Calls Try.prog 93 #[.int .u32 a0] w fun e w' => e = .returned (.int .u32 r) ∧ Drawn0 w w' := by
 have H : (some (Go.bits .xor .u32 (((Go.bits .xor .u32 (((Go.bits .xor .u32 a0 (a0 / 65536)) * 2146121005) % 4294967296) ((((Go.bits .xor .u32 a0 (a0 / 65536)) * 2146121005) % 4294967296) / 32768)) * 2221713035) % 4294967296) ((((Go.bits .xor .u32 (((Go.bits .xor .u32 a0 (a0 / 65536)) * 2146121005) % 4294967296) ((((Go.bits .xor .u32 a0 (a0 / 65536)) * 2146121005) % 4294967296) / 32768)) * 2221713035) % 4294967296) / 65536))) = some r := h
 clear h
 obtain rfl := Option.some.inj H
 go_enter Try.func93, Try.ntmps93
 go_wp2
 go_ret
 exact ⟨frs, by repeat (first | exact Drawn0.refl _ | apply Drawn0.step)⟩
noncomputable def random_Rand.f (a0 : Int) (a1 : Int) (a2 : Int) : Option (Int) := if a2 < 1 then (some 0) else ((random_Stir.f a0).bind fun t181 => ((random_Stir.f ((t181 + ((a1 * 2654435769) % 4294967296)) % 4294967296)).bind fun t182 => (if a2 = 0 then (none) else (some (Int.tmod (wrap64 (t182)) a2)))))
theorem random_Rand.calls (a0 : Int) (a1 : Int) (a2 : Int) (r : Int) (w : World) (h : random_Rand.f a0 a1 a2 = some r) :
 Calls Try.prog 63 #[.int .u32 a0, .int .u32 a1, .int .i64 a2] w fun e w' => e = .returned (.int .i64 r) ∧ Drawn0 w w' := by
 have H : (if a2 < 1 then (some 0) else ((random_Stir.f a0).bind fun t181 => ((random_Stir.f ((t181 + ((a1 * 2654435769) % 4294967296)) % 4294967296)).bind fun t182 => (if a2 = 0 then (none) else (some (Int.tmod (wrap64 (t182)) a2)))))) = some r := h
 clear h
 by_cases c4 : a2 < 1
 ·rw [if_pos c4] at H
  have c4b0 : decide (a2 < 1) = true := decide_eq_true c4
  clear c4
  obtain rfl := Option.some.inj H
  go_enter Try.func63, Try.ntmps63
  go_wp2
  go_ret
  exact ⟨frs, by repeat (first | exact Drawn0.refl _ | apply Drawn0.step)⟩
 ·rw [if_neg c4] at H
  have c4b0 : decide (a2 < 1) = false := decide_eq_false c4
  clear c4
  replace H := Option.bind_eq_some_iff.mp H
  obtain ⟨t181, A50, H⟩ := H
  try dsimp only at H
  have A5 := zA A50
  clear A50
  replace H := Option.bind_eq_some_iff.mp H
  obtain ⟨t182, A60, H⟩ := H
  try dsimp only at H
  have A6 := zA A60
  clear A60
  by_cases c7 : a2 = 0
  ·rw [if_pos c7] at H
   exact absurd H (by simp)
  ·rw [if_neg c7] at H
   have c7b0 : (a2 == 0) = false := beq_eq_false_iff_ne.mpr c7
   have c7b1 : (a2 != 0) = true := bne_iff_ne.mpr c7
   obtain rfl := Option.some.inj H
   go_enter Try.func63, Try.ntmps63
   go_wp2_with (first | ((with_reducible refine gate_callee (f := 93) rfl ?_); refine goesL_ (some 10) rfl rfl Try.func93 (by kernel_rfl) rfl #[.int .u32 a0] rfl agl ?_; (with_reducible refine (random_Stir.calls a0 t181 _ A5.out).mono ?_); rintro e w' ⟨rfl, ⟨nd, rfl⟩⟩; refine ⟨_, rfl, ?_⟩) | ((with_reducible refine gate_callee (f := 93) rfl ?_); refine goesL_ (some 14) rfl rfl Try.func93 (by kernel_rfl) rfl #[.int .u32 ((t181 + ((a1 * 2654435769) % 4294967296)) % 4294967296)] rfl agl ?_; (with_reducible refine (random_Stir.calls ((t181 + ((a1 * 2654435769) % 4294967296)) % 4294967296) t182 _ A6.out).mono ?_); rintro e w' ⟨rfl, ⟨nd, rfl⟩⟩; refine ⟨_, rfl, ?_⟩))
   go_ret
   exact ⟨frs, by repeat (first | exact Drawn0.refl _ | apply Drawn0.step)⟩
mutual
noncomputable def precode_High.l0 : Nat → List (List Int) → Int → Int → Int → Int → Int → Option ((List (List Int)))
 | 0, _, _, _, _, _, _ => none
 | k + 1, x3, x11, x12, x184000, x184001, x184002 => if x12 < x11 then ((params_Params_L.f x184000 x184001 x184002).bind fun t185 => (if 0 ≤ t185 then (if (t185 : Int).toNat ≤ 281474976710656 then ((params_Params_W.f x184000 x184001 x184002).bind fun t189 => (precode_High.l1 k x3 x12 (List.replicate (t185 : Int).toNat 0) x11 x12 t189 0 x184000 x184001 x184002)) else (none)) else (none))) else (some x3)
noncomputable def precode_High.l1 : Nat → List (List Int) → Int → List Int → Int → Int → Int → Int → Int → Int → Int → Option ((List (List Int)))
 | 0, _, _, _, _, _, _, _, _, _, _ => none
 | k + 1, x3, x4, x5, x11, x12, x19, x20, x184000, x184001, x184002 => if x20 < x19 then ((random_Rand.f ((x20) % 4294967296) ((wrap64 (x4 + 7)) % 4294967296) 255).bind fun t190 => ((field_Power.f k t190).bind fun t191 => (if 0 ≤ x20 then (if x20 < (x5.length : Int) then (precode_High.l1 k x3 x4 (x5.set (x20 : Int).toNat t191) x11 x12 x19 (wrap64 (x20 + 1)) x184000 x184001 x184002) else (none)) else (none)))) else ((params_Params_W.f x184000 x184001 x184002).bind fun t193 => (if 0 ≤ (wrap64 (t193 + x4)) then (if (wrap64 (t193 + x4)) < (x5.length : Int) then (if x3.length < 5864062014805 then (precode_High.l0 k (x3 ++ [(x5.set ((wrap64 (t193 + x4)) : Int).toNat 1)]) x11 (wrap64 (x12 + 1)) x184000 x184001 x184002) else (none)) else (none)) else (none)))
end
noncomputable def precode_High.f (k : Nat) (a0_0 : Int) (a0_1 : Int) (a0_2 : Int) : Option ((List (List Int))) := (params_Params_Right.f a0_0 a0_1 a0_2).bind fun t184 => (if t184 = true then (precode_High.l0 k ([] : List (List Int)) a0_2 0 a0_0 a0_1 a0_2) else (some ([] : List (List Int))))
theorem precode_High.calls (k : Nat) (a0_0 : Int) (a0_1 : Int) (a0_2 : Int) (r : List (List Int)) (w : World) (h : precode_High.f k a0_0 a0_1 a0_2 = some r) :
 Calls Try.prog 21 #[.agg #[.int .i64 a0_0, .int .i64 a0_1, .int .i64 a0_2]] w fun e w' => ∃ v0_ : Value, e = .returned (v0_) ∧ Kd.S (Kd.slice 5 (Kd.int .u8)) 31 w' w.heap.size (fun _ => True) v0_ r ∧ Below w.heap.size w w' := by
 have hu24 := Try.underlying24
 have HB := zA (Below.refl w.heap.size w)
 have H : ((params_Params_Right.f a0_0 a0_1 a0_2).bind fun t184 => (if t184 = true then (precode_High.l0 k ([] : List (List Int)) a0_2 0 a0_0 a0_1 a0_2) else (some ([] : List (List Int))))) = some r := h
 clear h
 replace H := Option.bind_eq_some_iff.mp H
 obtain ⟨t184, A20, H⟩ := H
 try dsimp only at H
 have A2 := zA A20
 clear A20
 by_cases c3 : t184 = true
 ·subst c3
  have H1 : (precode_High.l0 k ([] : List (List Int)) a0_2 0 a0_0 a0_1 a0_2) = some r := by rw [if_pos rfl] at H; exact H
  clear H
  have H := H1
  clear H1
  have H' := zA H
  clear H
  go_enter Try.func21, Try.ntmps21
  go_wp2_with (first | ((with_reducible refine gate_dst (N := 1) rfl ?_); refine box_event ?hg (N := 1) ?hd (cs := #[.int .i64 a0_0, .int .i64 a0_1, .int .i64 a0_2]) (t := 24) ?hr ?_; (case hd => rfl); (case hg => rfl); (case hr => first | (go_simp; done) | (go_simp; rfl)); intro gb183 hg w4 hbox hb; have BK183 := zA (hbox); have GW183 := zA ((by rw [hg]; exact bels : w.heap.size ≤ gb183)); have GE183 := zA ((by rw [hg]; exact bels : w.heap.size ≤ gb183)); replace HB := zA (belt hb); clear hb hbox hg; obtain ⟨hcz5_0, hcz5_1, hcz5_2, hfz5_0, hfz5_1, hfz5_2⟩ := box3 BK183.out) | ((with_reducible refine gate_callee (f := 61) rfl ?_); refine goesL_ (some 8) rfl rfl Try.func61 (by kernel_rfl) rfl #[.agg #[.int .i64 a0_0, .int .i64 a0_1, .int .i64 a0_2]] rfl agl ?_; (with_reducible refine (params_Params_Right.calls a0_0 a0_1 a0_2 true _ A2.out).mono ?_); rintro e w6 ⟨rfl, hb⟩; refine ⟨_, rfl, ?_⟩; replace BK183 := zA (blk_below (g := gb183) (o := .cells #[.int .i64 a0_0, .int .i64 a0_1, .int .i64 a0_2] 24 (0, 0)) (blk_g BK183.out) hb); replace HB := zA (belt hb); obtain ⟨hcz7_0, hcz7_1, hcz7_2, hfz7_0, hfz7_1, hfz7_2⟩ := box3 BK183.out))
  go_loopg [3, 12] k (fun kq v3 v12 w' => ∃ (x3_1 : List (List Int)) (x12_1 : Int), v12 = .int .i64 x12_1 ∧ Aside0 (precode_High.l0 kq x3_1 a0_2 x12_1 a0_0 a0_1 a0_2 = some r) ∧ Aside0 (kq ≤ k) ∧ Aside0 (Kd.S (Kd.slice 5 (Kd.int .u8)) 31 w' w.heap.size (fun _ => True) v3 x3_1) ∧ Aside0 (w'.heap[gb183]? = some (.cells #[.int .i64 a0_0, .int .i64 a0_1, .int .i64 a0_2] 24 (0, 0))) ∧ Aside0 (Below w.heap.size w w'))
  case atStart => exact ⟨(([] : List (List Int))), (0), frs, H', ⟨Nat.le_refl _⟩, ⟨by first | exact Kd.S_nil _ _ _ _ _ | exact Kd.N_nil _ _ _ _ _ | exact Kd.V_nil _ _ _ _ _ | exact Kd.Q_nil _ _ _ _ _ | exact Kd.R_nil _ _ _ _ _⟩, ⟨rdB BK183.out⟩, ⟨bel⟩⟩
  case round =>
   clear H'
   obtain ⟨x3_1, x12_1, rfl, HA, HK1, HO_3, BK183, HB⟩ := hrel
   cases gk with
   | zero => exact absurd HA.out (by simp [precode_High.l0])
   | succ k1 =>
    have H := HA.out
    clear HA
    simp only [precode_High.l0] at H
    by_cases c8 : x12_1 < a0_2
    ·rw [if_pos c8] at H
     have c8b0 : decide (x12_1 < a0_2) = true := decide_eq_true c8
     clear c8
     replace H := Option.bind_eq_some_iff.mp H
     obtain ⟨t185, A90, H⟩ := H
     try dsimp only at H
     have A9 := zA A90
     clear A90
     by_cases c10 : 0 ≤ t185
     ·rw [if_pos c10] at H
      have c10b0 := eq_true c10
      have c10b1 : decide (0 ≤ t185) = true := decide_eq_true c10
      clear c10
      by_cases c11 : (t185 : Int).toNat ≤ 281474976710656
      ·rw [if_pos c11] at H
       have c11b0 := eq_true c11
       have c11b1 : decide ((t185 : Int).toNat ≤ 281474976710656) = true := decide_eq_true c11
       clear c11
       obtain ⟨y186, hy186⟩ : ∃ y_ : List Int, y_ = (List.replicate (t185 : Int).toNat 0) := ⟨_, rfl⟩
       replace H : ((params_Params_W.f a0_0 a0_1 a0_2).bind fun t189 => (precode_High.l1 k1 x3_1 x12_1 y186 a0_2 x12_1 t189 0 a0_0 a0_1 a0_2)) = some r := zC H hy186
       have Ny186 := zA hy186
       clear hy186
       replace H := Option.bind_eq_some_iff.mp H
       obtain ⟨t189, A120, H⟩ := H
       try dsimp only at H
       have A12 := zA A120
       clear A120
       have H' := zA H
       clear H
       obtain ⟨hcz13_0, hcz13_1, hcz13_2, hfz13_0, hfz13_1, hfz13_2⟩ := box3 BK183.out
       go_wp2_with (first | ((with_reducible refine gate_callee (f := 22) rfl ?_); refine goesL_ (some 16) rfl rfl Try.func22 (by kernel_rfl) rfl #[.agg #[.int .i64 a0_0, .int .i64 a0_1, .int .i64 a0_2]] rfl agl ?_; (with_reducible refine (params_Params_L.calls a0_0 a0_1 a0_2 t185 _ A9.out).mono ?_); rintro e w14 ⟨rfl, hb⟩; refine ⟨_, rfl, ?_⟩; replace HO_3 := zA (Kd.S_below (S_g HO_3.out) hb); replace BK183 := zA (blk_below (g := gb183) (o := .cells #[.int .i64 a0_0, .int .i64 a0_1, .int .i64 a0_2] 24 (0, 0)) (blk_g BK183.out) hb); replace HB := zA (belt hb)) | ((with_reducible refine gate_dst (N := 17) rfl ?_); refine Kd.R_make (Kd.int .u8) _ 5 rfl (N := 17) rfl 31 _ _ rfl t185 rfl rfl Try.underlying31 (.int .u8 0) 1 info5 rfl (by decide) (by omega) 0 (ok := fun _ => True) (okp := fun _ => True) rfl (fun _ hk => hk) trivial (of_decide_eq_true asu) (Nat.le_trans (Nat.mul_le_mul_right _ (of_decide_eq_true asu : t185.toNat ≤ 281474976710656)) (by omega)) (Below.refl _ _) (Nat.le_refl _) ?_; intro v187 w15 ho16 hb hg_ hnew_; clear hg_ hnew_; (first | rw [← Ny186.out] at ho16 | (simp only [Int.reduceToNat] at ho16; rw [← Ny186.out] at ho16)); replace HO_3 := zA (Kd.S_elder' (S_g HO_3.out) (Kd.R_base ho16) hb); have HO188 := zA (Kd.R_lower ho16 bels); replace BK183 := zA (blk_below (g := gb183) (o := .cells #[.int .i64 a0_0, .int .i64 a0_1, .int .i64 a0_2] 24 (0, 0)) (blk_g BK183.out) hb); replace HB := zA (belt hb); clear hb ho16; obtain ⟨hcz17_0, hcz17_1, hcz17_2, hfz17_0, hfz17_1, hfz17_2⟩ := box3 BK183.out) | ((with_reducible refine gate_callee (f := 23) rfl ?_); refine goesL_ (some 19) rfl rfl Try.func23 (by kernel_rfl) rfl #[.agg #[.int .i64 a0_0, .int .i64 a0_1, .int .i64 a0_2]] rfl agl ?_; (with_reducible refine (params_Params_W.calls a0_0 a0_1 a0_2 t189 _ A12.out).mono ?_); rintro e w18 ⟨rfl, hb⟩; refine ⟨_, rfl, ?_⟩; replace HO_3 := zA (Kd.S_below (S_g HO_3.out) hb); replace HO188 := zA (Kd.R_below (R_g HO188.out) hb); replace BK183 := zA (blk_below (g := gb183) (o := .cells #[.int .i64 a0_0, .int .i64 a0_1, .int .i64 a0_2] 24 (0, 0)) (blk_g BK183.out) hb); replace HB := zA (belt hb)))
       go_loopg [20] k1 (fun kq v20 w' => ∃ (x5_2 : List Int) (x20_2 : Int), v20 = .int .i64 x20_2 ∧ Aside0 (precode_High.l1 kq x3_1 x12_1 x5_2 a0_2 x12_1 t189 x20_2 a0_0 a0_1 a0_2 = some r) ∧ Aside0 (kq ≤ k1) ∧ Aside0 (Kd.S (Kd.slice 5 (Kd.int .u8)) 31 w' w.heap.size (fun k_ => some k_ ≠ (v187 : Value).ownBlock) u3 x3_1) ∧ Aside0 (Kd.R (Kd.int .u8) 5 w' w.heap.size (fun _ => True) v187 x5_2) ∧ Aside0 (w'.heap[gb183]? = some (.cells #[.int .i64 a0_0, .int .i64 a0_1, .int .i64 a0_2] 24 (0, 0))) ∧ Aside0 (Below w.heap.size w w'))
       case atStart => exact ⟨(y186), (0), frs, H', ⟨Nat.le_refl _⟩, ⟨by (with_reducible repeat (first | apply Kd.S_alloc | apply Kd.S_drewN | apply Kd.S_drew)); exact Kd.S_mono HO_3.out (fun _ hk => hk.2)⟩, ⟨rdR HO188.out⟩, ⟨rdB BK183.out⟩, ⟨bel⟩⟩
       case round =>
        clear H'
        obtain ⟨x5_2, x20_2, rfl, HA, HK2, HO_3, HO_5, BK183, HB⟩ := hrel
        cases gk with
        | zero => exact absurd HA.out (by simp [precode_High.l1])
        | succ k2 =>
         have H := HA.out
         clear HA
         simp only [precode_High.l1] at H
         by_cases c19 : x20_2 < t189
         ·rw [if_pos c19] at H
          have c19b0 : decide (x20_2 < t189) = true := decide_eq_true c19
          clear c19
          replace H := Option.bind_eq_some_iff.mp H
          obtain ⟨t190, A200, H⟩ := H
          try dsimp only at H
          have A20 := zA A200
          clear A200
          replace H := Option.bind_eq_some_iff.mp H
          obtain ⟨t191, A210, H⟩ := H
          try dsimp only at H
          have A21 := zA A210
          clear A210
          by_cases c22 : 0 ≤ x20_2
          ·rw [if_pos c22] at H
           have c22b0 : decide (0 ≤ x20_2) = true := decide_eq_true c22
           clear c22
           by_cases c23 : x20_2 < (x5_2.length : Int)
           ·rw [if_pos c23] at H
            have c23b0 : decide (x20_2 < (x5_2.length : Int)) = true := decide_eq_true c23
            clear c23
            obtain ⟨y192, hy192⟩ : ∃ y_ : List Int, y_ = (x5_2.set (x20_2 : Int).toNat t191) := ⟨_, rfl⟩
            replace H : (precode_High.l1 k2 x3_1 x12_1 y192 a0_2 x12_1 t189 (wrap64 (x20_2 + 1)) a0_0 a0_1 a0_2) = some r := zC H hy192
            have Ny192 := zA hy192
            clear hy192
            have H' := zA H
            clear H
            go_wp2_with (first | ((with_reducible refine gate_callee (f := 63) rfl ?_); refine goesL_ (some 30) rfl rfl Try.func63 (by kernel_rfl) rfl #[.int .u32 ((x20_2) % 4294967296), .int .u32 ((wrap64 (x12_1 + 7)) % 4294967296), .int .i64 255] rfl agl ?_; (with_reducible refine (random_Rand.calls ((x20_2) % 4294967296) ((wrap64 (x12_1 + 7)) % 4294967296) 255 t190 _ A20.out).mono ?_); rintro e w' ⟨rfl, ⟨nd, rfl⟩⟩; refine ⟨_, rfl, ?_⟩; (try (rw [drewN_self wr]; generalize hq_ : World.drewN wr _ = wr; have n0_ : Aside0 (Kd.S (Kd.slice 5 (Kd.int .u8)) 31 wr w.heap.size (fun k_ => some k_ ≠ (v187 : Value).ownBlock) u3 x3_1) := ⟨by rw [← hq_]; exact (S_g HO_3.out)⟩; have n1_ : Aside0 (Kd.R (Kd.int .u8) 5 wr w.heap.size (fun _ => True) v187 x5_2) := ⟨by rw [← hq_]; exact (R_g HO_5.out)⟩; have n2_ : Aside0 (wr.heap[gb183]? = some (.cells #[.int .i64 a0_0, .int .i64 a0_1, .int .i64 a0_2] 24 (0, 0))) := ⟨by rw [← hq_]; exact (blk_g BK183.out)⟩; have n3_ : Aside0 (Below w.heap.size w wr) := ⟨by rw [← hq_]; exact bel⟩; clear HO_3 HO_5 BK183 HB hq_; have HO_3 := n0_; have HO_5 := n1_; have BK183 := n2_; have HB := n3_; clear n0_ n1_ n2_ n3_))) | ((with_reducible refine gate_callee (f := 62) rfl ?_); refine goesL_ (some 31) rfl rfl Try.func62 (by kernel_rfl) rfl #[.int .i64 t190] rfl agl ?_; (with_reducible refine (field_Power.calls k2 t190 t191 _ A21.out).mono ?_); rintro e w' ⟨rfl, ⟨nd, rfl⟩⟩; refine ⟨_, rfl, ?_⟩; (try (rw [drewN_self wr]; generalize hq_ : World.drewN wr _ = wr; have n0_ : Aside0 (Kd.S (Kd.slice 5 (Kd.int .u8)) 31 wr w.heap.size (fun k_ => some k_ ≠ (v187 : Value).ownBlock) u3 x3_1) := ⟨by rw [← hq_]; exact (S_g HO_3.out)⟩; have n1_ : Aside0 (Kd.R (Kd.int .u8) 5 wr w.heap.size (fun _ => True) v187 x5_2) := ⟨by rw [← hq_]; exact (R_g HO_5.out)⟩; have n2_ : Aside0 (wr.heap[gb183]? = some (.cells #[.int .i64 a0_0, .int .i64 a0_1, .int .i64 a0_2] 24 (0, 0))) := ⟨by rw [← hq_]; exact (blk_g BK183.out)⟩; have n3_ : Aside0 (Below w.heap.size w wr) := ⟨by rw [← hq_]; exact bel⟩; clear HO_3 HO_5 BK183 HB hq_; have HO_3 := n0_; have HO_5 := n1_; have BK183 := n2_; have HB := n3_; clear n0_ n1_ n2_ n3_)); have p24 : 0 ≤ (x20_2 : Int) := of_decide_eq_true asu; have q24 : (x20_2 : Int) < ((x5_2.length : Int) : Int) := of_decide_eq_true asu; obtain ⟨go24, co24, eo24, gb24, gl24, cl24, HG24⟩ := Kd.R_form HO_5.out (by omega); (first | cases eo24 | (injection eo24 with ea_ en_ ec_; (first | subst ea_ | (injection ea_ with ea_; subst ea_)); subst ec_; clear en_)); have GB24 := zA gb24; have GG24 := zA HG24; clear gb24 gl24 HG24; obtain ⟨hx24_0, hf24_0⟩ := Kd.R_celln 0 HO_5.out (x20_2 : Int) p24 q24; replace p24 := eq_true p24; replace q24 := eq_true q24; obtain ⟨hy25_, hz25_⟩ := Kd.R_celln 0 HO_5.out (x20_2 : Int) (of_decide_eq_true asu) (of_decide_eq_true asu); have HP25 := Kd.R_putg HO_5.out (x20_2 : Int) t191) | ((with_reducible refine gate_store (t := 5) (p := 32) rfl ?_); refine store_event (t := 5) (p := 32) (v := ?vo_w26) (w1 := (wr.setCell ⟨go24, (x20_2 : Int).toNat, none⟩ (.int .u8 t191))) ?hg ?ho ?hn ?hr ?_; (case ho => rfl); (case hg => rfl); (case hn => rfl); (case hr => first | (go_simp; done) | (go_simp; rfl)); intro w26 hw; have hg : wr.grownBy w26 (some go24) := (by rw [hw]; exact HP25.2); have hp_ : Kd.R (Kd.int .u8) 5 w26 w.heap.size (fun _ => True) (.slice (some ⟨go24, 0, none⟩) x5_2.length co24) y192 := (by rw [hw, Ny192.out]; exact HP25.1); clear HP25; replace HO_3 := zA (Kd.S_after (v := (.slice (some ⟨go24, 0, none⟩) x5_2.length co24)) (v1 := (.slice (some ⟨go24, 0, none⟩) x5_2.length co24)) (ok := (fun _ => True)) (S_g (Kd.S_mono HO_3.out (fun _ hk => ⟨trivial, hk⟩))) hg (.inl rfl)); replace BK183 := zA (blk_grown (g := gb183) (o := .cells #[.int .i64 a0_0, .int .i64 a0_1, .int .i64 a0_2] 24 (0, 0)) (blk_g BK183.out) hg (Kd.R_ne HO_5.out BK183.out (by decide))); replace HO_5 := zA (hp_); replace HB := zA ((by rw [hw]; exact below_set (HB.out) GB24.out : Below w.heap.size w w26)); clear hg hw hp_))
            go_roundg k2
            case measure => have := HK1.out; have := HK2.out; omega
            case rel => exact ⟨(y192), (wrap64 (x20_2 + 1)), frs, H', ⟨by have := HK1.out; have := HK2.out; omega⟩, ⟨by (with_reducible repeat (first | apply Kd.S_alloc | apply Kd.S_drewN | apply Kd.S_drew)); exact Kd.S_mono HO_3.out (fun _ hk => hk.2)⟩, ⟨rdR HO_5.out⟩, ⟨rdB BK183.out⟩, ⟨bel⟩⟩
           ·rw [if_neg c23] at H
            exact absurd H (by simp)
          ·rw [if_neg c22] at H
           exact absurd H (by simp)
         ·rw [if_neg c19] at H
          have c19b0 : decide (x20_2 < t189) = false := decide_eq_false c19
          clear c19
          replace H := Option.bind_eq_some_iff.mp H
          obtain ⟨t193, A270, H⟩ := H
          try dsimp only at H
          have A27 := zA A270
          clear A270
          obtain ⟨ji28, hji28⟩ : ∃ j_ : Int, (wrap64 (t193 + x12_1)) = j_ := ⟨_, rfl⟩
          replace H : (if 0 ≤ (ji28) then (if (ji28) < (x5_2.length : Int) then (if x3_1.length < 5864062014805 then (precode_High.l0 k2 (x3_1 ++ [(x5_2.set ((ji28) : Int).toNat 1)]) a0_2 (wrap64 (x12_1 + 1)) a0_0 a0_1 a0_2) else (none)) else (none)) else (none)) = some r := by first | (rw [hji28] at H; exact H) | (simp only [hji28] at H ⊢; exact H)
          (try rw [hji28] at A27)
          have hji28w : (IntKind.i64.wrap (t193 + x12_1)) = ji28 := (i64_w _).trans hji28
          by_cases c29 : 0 ≤ (ji28)
          ·rw [if_pos c29] at H
           have c29b0 : decide (0 ≤ (ji28)) = true := decide_eq_true c29
           clear c29
           by_cases c30 : (ji28) < (x5_2.length : Int)
           ·rw [if_pos c30] at H
            have c30b0 : decide ((ji28) < (x5_2.length : Int)) = true := decide_eq_true c30
            clear c30
            obtain ⟨y194, hy194⟩ : ∃ y_ : List Int, y_ = (x5_2.set ((ji28) : Int).toNat 1) := ⟨_, rfl⟩
            replace H : (if x3_1.length < 5864062014805 then (precode_High.l0 k2 (x3_1 ++ [y194]) a0_2 (wrap64 (x12_1 + 1)) a0_0 a0_1 a0_2) else (none)) = some r := zC H hy194
            have Ny194 := zA hy194
            clear hy194
            by_cases c32 : x3_1.length < 5864062014805
            ·rw [if_pos c32] at H
             have LMc32 := zA c32
             clear c32
             obtain ⟨y195, hy195⟩ : ∃ y_ : List (List Int), y_ = (x3_1 ++ [y194]) := ⟨_, rfl⟩
             replace H : (precode_High.l0 k2 y195 a0_2 (wrap64 (x12_1 + 1)) a0_0 a0_1 a0_2) = some r := zC H hy195
             have Ny195 := zA hy195
             clear hy195
             have H' := zA H
             clear H
             obtain ⟨hcz33_0, hcz33_1, hcz33_2, hfz33_0, hfz33_1, hfz33_2⟩ := box3 BK183.out
             go_wp2_with (first | ((with_reducible refine gate_callee (f := 23) rfl ?_); refine goesL_ (some 36) rfl rfl Try.func23 (by kernel_rfl) rfl #[.agg #[.int .i64 a0_0, .int .i64 a0_1, .int .i64 a0_2]] rfl agl ?_; (with_reducible refine (params_Params_W.calls a0_0 a0_1 a0_2 t193 _ A27.out).mono ?_); rintro e w34 ⟨rfl, hb⟩; refine ⟨_, rfl, ?_⟩; replace HO_3 := zA (Kd.S_below (S_g HO_3.out) hb); replace HO_5 := zA (Kd.R_below (R_g HO_5.out) hb); replace BK183 := zA (blk_below (g := gb183) (o := .cells #[.int .i64 a0_0, .int .i64 a0_1, .int .i64 a0_2] 24 (0, 0)) (blk_g BK183.out) hb); replace HB := zA (belt hb); have p31 : 0 ≤ ((ji28) : Int) := of_decide_eq_true asu; have q31 : ((ji28) : Int) < ((x5_2.length : Int) : Int) := of_decide_eq_true asu; obtain ⟨go31, co31, eo31, gb31, gl31, cl31, HG31⟩ := Kd.R_form HO_5.out (by omega); (first | cases eo31 | (injection eo31 with ea_ en_ ec_; (first | subst ea_ | (injection ea_ with ea_; subst ea_)); subst ec_; clear en_)); have GB31 := zA gb31; have GG31 := zA HG31; clear gb31 gl31 HG31; obtain ⟨hx31_0, hf31_0⟩ := Kd.R_celln 0 HO_5.out ((ji28) : Int) p31 q31; replace p31 := eq_true p31; replace q31 := eq_true q31; obtain ⟨hy35_, hz35_⟩ := Kd.R_celln 0 HO_5.out ((ji28) : Int) (of_decide_eq_true asu) (of_decide_eq_true asu); have HP35 := Kd.R_putg HO_5.out ((ji28) : Int) 1) | ((with_reducible refine gate_store (t := 5) (p := 39) rfl ?_); refine store_event (t := 5) (p := 39) (v := ?vo_w36) (w1 := (w34.setCell ⟨go31, ((ji28) : Int).toNat, none⟩ (.int .u8 1))) ?hg ?ho ?hn ?hr ?_; (case ho => rfl); (case hg => rfl); (case hn => rfl); (case hr => first | (go_simp; done) | (go_simp; rfl)); intro w36 hw; have hg : w34.grownBy w36 (some go31) := (by rw [hw]; exact HP35.2); have hp_ : Kd.R (Kd.int .u8) 5 w36 w.heap.size (fun _ => True) (.slice (some ⟨go31, 0, none⟩) x5_2.length co31) y194 := (by rw [hw, Ny194.out]; exact HP35.1); clear HP35; replace HO_3 := zA (Kd.S_after (v := (.slice (some ⟨go31, 0, none⟩) x5_2.length co31)) (v1 := (.slice (some ⟨go31, 0, none⟩) x5_2.length co31)) (ok := (fun _ => True)) (S_g (Kd.S_mono HO_3.out (fun _ hk => ⟨trivial, hk⟩))) hg (.inl rfl)); replace BK183 := zA (blk_grown (g := gb183) (o := .cells #[.int .i64 a0_0, .int .i64 a0_1, .int .i64 a0_2] 24 (0, 0)) (blk_g BK183.out) hg (Kd.R_ne HO_5.out BK183.out (by decide))); replace HO_5 := zA (hp_); replace HB := zA ((by rw [hw]; exact below_set (HB.out) GB31.out : Below w.heap.size w w36)); clear hg hw hp_) | ((with_reducible refine gate_builtin (b := .append) (xs := #[.tmp 40, .tmp 42]) rfl ?_); at_builtin; refine Kd.S_append (Kd.slice 5 (Kd.int .u8)) (w0 := w) w.heap.size rfl (.tmp 40) (.tmp 42) 28 31 (.slice none 0 0) 24 rfl Try.underlying28 info31 rfl (by decide) (by omega) u3 x3_1 y194 [.slice (some ⟨go31, 0, none⟩) x5_2.length co31] (fun _ => True) (fun k_ => some k_ = (.slice (some ⟨go31, 0, none⟩) x5_2.length co31 : Value).ownBlock) rfl rfl ?aP (fun k_ hk_ => ((Kd.R_mono (ok' := fun k_ => ((fun _ => True)) k_ ∧ some k_ ≠ (u3 : Value).ownBlock) (Kd.R_apart' (HO_5.out) (Kd.S_typed HO_3.out) (by decide)) (fun k_ hk => ⟨trivial, hk.2⟩))).1 k_ hk_.symm) ?aF ?aO ?aB ?aS ?aL ?_; (case aP => exact Kd.M_row (Kd.R_mono (Kd.R_tight rfl (Kd.R_mono (ok' := fun k_ => ((fun _ => True)) k_ ∧ some k_ ≠ (u3 : Value).ownBlock) (Kd.R_apart' (HO_5.out) (Kd.S_typed HO_3.out) (by decide)) (fun k_ hk => ⟨trivial, hk.2⟩))) (fun _ h_ => h_))); (case aB => exact bel); (case aF => exact (fun _ _ => trivial)); (case aO => exact (S_g (Kd.S_mono HO_3.out (fun k_ hk => ⟨trivial, fun e_ => hk.2 e_⟩)))); (case aS => exact bels); (case aL => have := LMc32.out; omega); intro v196 w37 ho hb hg hat; rw [← Ny195.out] at ho; replace BK183 := zA (blk_grown (g := gb183) (o := .cells #[.int .i64 a0_0, .int .i64 a0_1, .int .i64 a0_2] 24 (0, 0)) (blk_g BK183.out) hg (Kd.S_ne HO_3.out BK183.out (by decide))); replace HB := zA (hb); have HO197 := zA (ho); clear HO_3 HO_5; clear ho hb hg hat))
             go_roundg k2
             case measure => have := HK1.out; have := HK2.out; omega
             case rel => exact ⟨(y195), (wrap64 (x12_1 + 1)), frs, H', ⟨by have := HK1.out; have := HK2.out; omega⟩, ⟨rdS HO197.out⟩, ⟨rdB BK183.out⟩, ⟨bel⟩⟩
            ·rw [if_neg c32] at H
             exact absurd H (by simp)
           ·rw [if_neg c30] at H
            exact absurd H (by simp)
          ·rw [if_neg c29] at H
           exact absurd H (by simp)
      ·rw [if_neg c11] at H
       exact absurd H (by simp)
     ·rw [if_neg c10] at H
      exact absurd H (by simp)
    ·rw [if_neg c8] at H
     have c8b0 : decide (x12_1 < a0_2) = false := decide_eq_false c8
     clear c8
     obtain rfl := Option.some.inj H
     go_wp2
     go_ret
     exact ⟨_, by first | rfl | (simp [errW_none, errW_some] <;> rfl) | (simp [*, errW_none, errW_some] <;> rfl), rdS HO_3.out, bel⟩
 ·replace c3 := Bool.eq_false_iff.mpr c3
  subst c3
  have H1 : (some ([] : List (List Int))) = some r := by rw [if_neg (show ¬ (false = true) by decide)] at H; exact H
  clear H
  have H := H1
  clear H1
  obtain rfl := Option.some.inj H
  go_enter Try.func21, Try.ntmps21
  go_wp2_with (first | ((with_reducible refine gate_dst (N := 1) rfl ?_); refine box_event ?hg (N := 1) ?hd (cs := #[.int .i64 a0_0, .int .i64 a0_1, .int .i64 a0_2]) (t := 24) ?hr ?_; (case hd => rfl); (case hg => rfl); (case hr => first | (go_simp; done) | (go_simp; rfl)); intro gb183 hg w38 hbox hb; have BK183 := zA (hbox); have GW183 := zA ((by rw [hg]; exact bels : w.heap.size ≤ gb183)); have GE183 := zA ((by rw [hg]; exact bels : w.heap.size ≤ gb183)); replace HB := zA (belt hb); clear hb hbox hg; obtain ⟨hcz39_0, hcz39_1, hcz39_2, hfz39_0, hfz39_1, hfz39_2⟩ := box3 BK183.out) | ((with_reducible refine gate_callee (f := 61) rfl ?_); refine goesL_ (some 8) rfl rfl Try.func61 (by kernel_rfl) rfl #[.agg #[.int .i64 a0_0, .int .i64 a0_1, .int .i64 a0_2]] rfl agl ?_; (with_reducible refine (params_Params_Right.calls a0_0 a0_1 a0_2 false _ A2.out).mono ?_); rintro e w40 ⟨rfl, hb⟩; refine ⟨_, rfl, ?_⟩; replace BK183 := zA (blk_below (g := gb183) (o := .cells #[.int .i64 a0_0, .int .i64 a0_1, .int .i64 a0_2] 24 (0, 0)) (blk_g BK183.out) hb); replace HB := zA (belt hb)))
  go_ret
  exact ⟨_, by first | rfl | (simp [errW_none, errW_some] <;> rfl) | (simp [*, errW_none, errW_some] <;> rfl), by first | exact Kd.S_nil _ _ _ _ _ | exact Kd.N_nil _ _ _ _ _ | exact Kd.V_nil _ _ _ _ _ | exact Kd.Q_nil _ _ _ _ _ | exact Kd.R_nil _ _ _ _ _, bel⟩
noncomputable def random_steps.f  : Option (List Int) := some (([5243, 529531, 704294, 791675, 844104, 879057, 904023] : List Int))
theorem random_steps.calls  (r : List Int) (w : World) (h : random_steps.f  = some r) :
 Calls Try.prog 113 #[] w fun e w' => ∃ v0_ : Value, e = .returned (v0_) ∧ Kd.R (Kd.int .i64) 3 w' w.heap.size (fun _ => True) v0_ r ∧ Below w.heap.size w w' := by
 have HB := zA (Below.refl w.heap.size w)
 have H : (some (([5243, 529531, 704294, 791675, 844104, 879057, 904023] : List Int))) = some r := h
 clear h
 obtain ⟨y198, hy198⟩ : ∃ y_ : List Int, y_ = (([5243, 529531, 704294, 791675, 844104, 879057, 904023] : List Int)) := ⟨_, rfl⟩
 replace H : (some y198) = some r := zC H hy198
 have Ny198 := zA hy198
 clear hy198
 obtain rfl := Option.some.inj H
 go_enter Try.func113, Try.ntmps113
 go_wp2_with (first | ((with_reducible refine gate_dst (N := 1) rfl ?_); refine Kd.R_lit (Kd.int .i64) _ 3 ?hg (N := 1) ?hd (xs := ([5243, 529531, 704294, 791675, 844104, 879057, 904023] : List Int)) (inner := [.int .i64 5243, .int .i64 529531, .int .i64 704294, .int .i64 791675, .int .i64 844104, .int .i64 879057, .int .i64 904023]) (ok := fun _ => True) (okp := fun _ => True) ?hr ?hp (fun _ hk => hk) trivial (Below.refl _ _) (Nat.le_refl _) (by simp) ?_; (case hd => rfl); (case hg => rfl); (case hr => first | (go_simp; done) | (go_simp; rfl)); (case hp => exact (Reps.one (show Kd.M (Kd.int .i64) _ _ _ 5243 [.int .i64 5243] from rfl) (Reps.one (show Kd.M (Kd.int .i64) _ _ _ 529531 [.int .i64 529531] from rfl) (Reps.one (show Kd.M (Kd.int .i64) _ _ _ 704294 [.int .i64 704294] from rfl) (Reps.one (show Kd.M (Kd.int .i64) _ _ _ 791675 [.int .i64 791675] from rfl) (Reps.one (show Kd.M (Kd.int .i64) _ _ _ 844104 [.int .i64 844104] from rfl) (Reps.one (show Kd.M (Kd.int .i64) _ _ _ 879057 [.int .i64 879057] from rfl) (Reps.one (show Kd.M (Kd.int .i64) _ _ _ 904023 [.int .i64 904023] from rfl) (Reps.none _ _))))))))); intro v199 w1 ho2 hb hg_ hnew_; clear hg_ hnew_; (first | rw [← Ny198.out] at ho2 | (simp only [Int.reduceToNat] at ho2; rw [← Ny198.out] at ho2)); have HO200 := zA (Kd.R_lower ho2 bels); replace HB := zA (belt hb); clear hb ho2))
 go_ret
 exact ⟨_, by first | rfl | (simp [errW_none, errW_some] <;> rfl) | (simp [*, errW_none, errW_some] <;> rfl), rdR HO200.out, bel⟩
noncomputable def random_Degree.l0 : Nat → Int → Int → List Int → Int → Int → Option (Int)
 | 0, _, _, _, _, _ => none
 | k + 1, x0, x3, x9, x10, x11 => if x11 < x10 then (if 0 ≤ x11 then (if x11 < (x9.length : Int) then (if (rd x9 x11) ≤ x0 then (random_Degree.l0 k x0 (wrap64 (x3 + 1)) x9 x10 (wrap64 (x11 + 1))) else (random_Degree.l0 k x0 x3 x9 x10 (wrap64 (x11 + 1)))) else (none)) else (none)) else (some x3)
noncomputable def random_Degree.f (k : Nat) (a0 : Int) : Option (Int) := (random_steps.f).bind fun t201 => (random_Degree.l0 k (mx 0 (mn a0 1048575)) 1 t201 (t201.length : Int) 0)
theorem random_Degree.calls (k : Nat) (a0 : Int) (r : Int) (w : World) (h : random_Degree.f k a0 = some r) :
 Calls Try.prog 111 #[.int .i64 a0] w fun e w' => e = .returned (.int .i64 r) ∧ Below w.heap.size w w' := by
 have HB := zA (Below.refl w.heap.size w)
 have H : ((random_steps.f).bind fun t201 => (random_Degree.l0 k (mx 0 (mn a0 1048575)) 1 t201 (t201.length : Int) 0)) = some r := h
 clear h
 obtain ⟨ji2, hji2⟩ : ∃ j_ : Int, (mn a0 1048575) = j_ := ⟨_, rfl⟩
 replace H : ((random_steps.f).bind fun t201 => (random_Degree.l0 k (mx 0 (ji2)) 1 t201 (t201.length : Int) 0)) = some r := by first | (rw [hji2] at H; exact H) | (simp only [hji2] at H ⊢; exact H)
 (try (have hji2h : ji2 ≤ 1048575 := by (rw [← hji2]; unfold mn; (repeat' split) <;> omega)))
 (try (have hji2g : ji2 ≤ 64 := by omega))
 have hji2_ : (if 1048575 < a0 then 1048575 else a0) = ji2 := hji2
 obtain ⟨ji3, hji3⟩ : ∃ j_ : Int, (mx 0 (ji2)) = j_ := ⟨_, rfl⟩
 replace H : ((random_steps.f).bind fun t201 => (random_Degree.l0 k ji3 1 t201 (t201.length : Int) 0)) = some r := by first | (rw [hji3] at H; exact H) | (simp only [hji3] at H ⊢; exact H)
 have hji3_ : (if 0 < (ji2) then (ji2) else 0) = ji3 := hji3
 replace H := Option.bind_eq_some_iff.mp H
 obtain ⟨t201, A40, H⟩ := H
 try dsimp only at H
 have A4 := zA A40
 clear A40
 have H' := zA H
 clear H
 go_enter Try.func111, Try.ntmps111
 go_wp2_with (first | ((with_reducible refine gate_callee (f := 113) rfl ?_); refine goesL_ (some 9) rfl rfl Try.func113 (by kernel_rfl) rfl #[] rfl agl ?_; (with_reducible refine (random_steps.calls  t201 _ A4.out).mono ?_); rintro e w5 ⟨v202, rfl, ho0, hb⟩; refine ⟨_, rfl, ?_⟩; have HO203 := zA (Kd.R_lower ho0 bels); replace HB := zA (belt hb); obtain ⟨Ao6, co6, eo6⟩ := Kd.R_slice HO203.out; subst eo6))
 go_loopg [3, 11] k (fun kq v3 v11 w' => ∃ (x3_1 : Int) (x11_1 : Int), v3 = .int .i64 x3_1 ∧ v11 = .int .i64 x11_1 ∧ Aside0 (random_Degree.l0 kq ji3 x3_1 t201 (t201.length : Int) x11_1 = some r) ∧ Aside0 (kq ≤ k) ∧ Aside0 (Kd.R (Kd.int .i64) 3 w' w.heap.size (fun _ => True) (.slice Ao6 t201.length co6) t201) ∧ Aside0 (Below w.heap.size w w'))
 case atStart => exact ⟨(1), (0), frs, frs, H', ⟨Nat.le_refl _⟩, ⟨rdR HO203.out⟩, ⟨bel⟩⟩
 case round =>
  clear H'
  obtain ⟨x3_1, x11_1, rfl, rfl, HA, HK1, HO_9, HB⟩ := hrel
  cases gk with
  | zero => exact absurd HA.out (by simp [random_Degree.l0])
  | succ k1 =>
   have H := HA.out
   clear HA
   simp only [random_Degree.l0] at H
   by_cases c7 : x11_1 < (t201.length : Int)
   ·rw [if_pos c7] at H
    have c7b0 : decide (x11_1 < (t201.length : Int)) = true := decide_eq_true c7
    clear c7
    by_cases c8 : 0 ≤ x11_1
    ·rw [if_pos c8] at H
     have c8b0 : decide (0 ≤ x11_1) = true := decide_eq_true c8
     clear c8
     by_cases c9 : x11_1 < (t201.length : Int)
     ·rw [if_pos c9] at H
      have c9b0 : decide (x11_1 < (t201.length : Int)) = true := decide_eq_true c9
      clear c9
      by_cases c10 : (rd t201 x11_1) ≤ ji3
      ·rw [if_pos c10] at H
       have c10b0 : decide ((rd t201 x11_1) ≤ ji3) = true := decide_eq_true c10
       clear c10
       have H' := zA H
       clear H
       have p204 : 0 ≤ (x11_1 : Int) := of_decide_eq_true asu
       have q204 : x11_1 < (t201.length : Int) := of_decide_eq_true asu
       obtain ⟨ad204, e204, hx204_0⟩ := Kd.at_int (Kd.R_reads' HO_9.out).2.2 x11_1 p204 q204
       cases e204
       replace p204 := eq_true p204
       replace q204 := eq_true q204
       go_wp2
       go_roundg k1
       case measure => have := HK1.out; omega
       case rel => exact ⟨(wrap64 (x3_1 + 1)), (wrap64 (x11_1 + 1)), frs, frs, H', ⟨by have := HK1.out; omega⟩, ⟨rdR HO_9.out⟩, ⟨bel⟩⟩
      ·rw [if_neg c10] at H
       have c10b0 : decide ((rd t201 x11_1) ≤ ji3) = false := decide_eq_false c10
       clear c10
       have H' := zA H
       clear H
       have p204 : 0 ≤ (x11_1 : Int) := of_decide_eq_true asu
       have q204 : x11_1 < (t201.length : Int) := of_decide_eq_true asu
       obtain ⟨ad204, e204, hx204_0⟩ := Kd.at_int (Kd.R_reads' HO_9.out).2.2 x11_1 p204 q204
       cases e204
       replace p204 := eq_true p204
       replace q204 := eq_true q204
       go_wp2
       go_roundg k1
       case measure => have := HK1.out; omega
       case rel => exact ⟨(x3_1), (wrap64 (x11_1 + 1)), frs, frs, H', ⟨by have := HK1.out; omega⟩, ⟨rdR HO_9.out⟩, ⟨bel⟩⟩
     ·rw [if_neg c9] at H
      exact absurd H (by simp)
    ·rw [if_neg c8] at H
     exact absurd H (by simp)
   ·rw [if_neg c7] at H
    have c7b0 : decide (x11_1 < (t201.length : Int)) = false := decide_eq_false c7
    clear c7
    obtain rfl := Option.some.inj H
    go_wp2
    go_ret
    exact ⟨by first | rfl | (simp [errW_none, errW_some] <;> rfl) | (simp only [← hji2, ← hji3]; first | rfl | (simp [errW_none, errW_some] <;> rfl)) | (simp [*, errW_none, errW_some] <;> rfl), bel⟩
end Go.Proofs.Ytbfhinfblepidaa.PSeedTells
