/- solve.Solve: what it answers, by the contracts of fit, reduce, ContainsFunc and Clone. Conditions: those that stand in the theorems. -/
import Derived.Test.YtbfhinfblepidaaRkSolveTells
import Derived.Test.YtbfhinfblepidaaCr
namespace Go.Proofs.Ytbfhinfblepidaa.SoSolveTells
open Go.RowKit Go.Lib Go.Proofs.Ytbfhinfblepidaa.PSolveTells Go.Proofs.YtbfhinfblepidaaW.PrintWords Go.Proofs.YtbfhinfblepidaaW.PrintLast Go.Proofs.YtbfhinfblepidaaW.PrintMore Go.Proofs.Ytbfhinfblepidaa.Mt Go.Proofs.Ytbfhinfblepidaa.RdSolveTells Go.Proofs.Ytbfhinfblepidaa.RkSolveTells
set_option linter.unusedVariables false
set_option linter.unusedSimpArgs false
def loose (L : List (List Int)) : Bool := L.any Cb.any
def solve.f (k : Nat) (a0 a1 : Int) (M D : List (List Int)) : Option (List (List Int) × Int) :=
  if a0 < 1 ∨ a0 > 300 ∨ a1 < 1 ∨ a1 > 1000 ∨ M.length ≠ D.length then some ([], 1)
  else (solve_fit.f k a0 M).bind fun M1 => (solve_fit.f k a1 D).bind fun D1 =>
    if M1.length = M.length ∧ D1.length = M.length ∧ M.length < 2 ^ 40 then
      (l0 k false a0.toNat 0 0 M1 D1).bind fun R =>
        if (R.1 : Int) < a0 then some ([], 4)
        else if a0.toNat ≤ R.2.2.length then (if loose (R.2.2.drop a0.toNat) = true then some ([], 4) else some (R.2.2.take a0.toNat, 0)) else none
    else none
abbrev Post (w : World) (r : List (List Int) × Int) (e : Ending) (w' : World) : Prop := ∃ A c, e = .returned (.tuple #[.slice A r.1.length c, .int .i64 r.2]) ∧ r.1.length ≤ c ∧ (Kd.slice 5 (Kd.int .u8)).C w' A r.1.length r.1 ∧ Below w.heap.size w w'
theorem C0 (w : World) : (Kd.slice 5 (Kd.int .u8)).C w none ([] : List (List Int)).length [] := ⟨rfl, by simp, fun h => absurd h (Nat.lt_irrefl 0)⟩
theorem C_take {w : World} {A : Option Addr} {L : List (List Int)} (h : (Kd.slice 5 (Kd.int .u8)).C w A L.length L) (n : Nat) (hn : n ≤ L.length) : (Kd.slice 5 (Kd.int .u8)).C w A (L.take n).length (L.take n) := by
  refine ⟨rfl, by have := h.2.1; rw [List.length_take]; omega, fun hp => ?_⟩
  rw [List.length_take] at hp
  obtain ⟨ad, e, hc⟩ := h.2.2 (by omega)
  refine ⟨ad, e, fun j p hj => hc j p ?_⟩
  rw [List.getElem?_take] at hj
  split at hj
  · exact hj
  · cases hj
theorem loose_step (L : List (List Int)) (i : Nat) (h : i < L.length) : loose (L.drop i) = (Cb.any (ro L i) || loose (L.drop (i + 1))) := by
  unfold loose
  rw [List.drop_eq_getElem_cons h, List.any_cons]
  congr 2
  unfold ro
  rw [List.getD_eq_getElem?_getD, List.getElem?_eq_getElem h]; rfl
theorem bad (a0 a1 : Int) (A2 A3 : Option Addr) (c2 c3 m d : Nat) (w : World) (h : a0 < 1 ∨ a0 > 300 ∨ a1 < 1 ∨ a1 > 1000 ∨ m ≠ d) :
    Calls Try.prog 26 #[.int .i64 a0, .int .i64 a1, .slice A2 m c2, .slice A3 d c3] w (Post w ([], 1)) := by
  by_cases g1 : a0 < 1
  · clear h
    go_enter Try.func26, Try.ntmps26
    go_wp2
    go_ret2
    exact ⟨none, 0, rfl, Nat.le_refl _, C0 _, Below.refl _ _⟩
  by_cases g2 : 300 < a0
  · clear h
    go_enter Try.func26, Try.ntmps26
    go_wp2
    go_ret2
    exact ⟨none, 0, rfl, Nat.le_refl _, C0 _, Below.refl _ _⟩
  by_cases g3 : a1 < 1
  · clear h
    go_enter Try.func26, Try.ntmps26
    go_wp2
    go_ret2
    exact ⟨none, 0, rfl, Nat.le_refl _, C0 _, Below.refl _ _⟩
  by_cases g4 : 1000 < a1
  · clear h
    go_enter Try.func26, Try.ntmps26
    go_wp2
    go_ret2
    exact ⟨none, 0, rfl, Nat.le_refl _, C0 _, Below.refl _ _⟩
  have g5 : ((m : Int) != (d : Int)) = true := bne_iff_ne.2 (by omega)
  have g6 : ((m : Int) == (d : Int)) = false := beq_eq_false_iff_ne.2 (by omega)
  clear h
  go_enter Try.func26, Try.ntmps26
  go_wp2
  go_ret2
  exact ⟨none, 0, rfl, Nat.le_refl _, C0 _, Below.refl _ _⟩
set_option maxHeartbeats 4000000 in
set_option maxRecDepth 100000 in
theorem solve.calls (k : Nat) (a0 a1 : Int) (A2 : Option Addr) (c2 : Nat) (M : List (List Int)) (A3 : Option Addr) (c3 : Nat) (D : List (List Int)) (r : List (List Int) × Int) (w : World)
    (hM : (Kd.slice 5 (Kd.int .u8)).C w A2 M.length M) (hcM : M.length ≤ c2) (hD : (Kd.slice 5 (Kd.int .u8)).C w A3 D.length D) (hcD : D.length ≤ c3) (h : solve.f k a0 a1 M D = some r) :
    Calls Try.prog 26 #[.int .i64 a0, .int .i64 a1, .slice A2 M.length c2, .slice A3 D.length c3] w (Post w r) := by
  unfold solve.f at h
  by_cases hb : a0 < 1 ∨ a0 > 300 ∨ a1 < 1 ∨ a1 > 1000 ∨ M.length ≠ D.length
  · rw [if_pos hb] at h
    obtain rfl := Option.some.inj h
    exact bad a0 a1 A2 A3 c2 c3 _ _ w hb
  rw [if_neg hb] at h
  obtain ⟨W, rfl⟩ : ∃ W : Nat, a0 = (W : Int) := ⟨a0.toNat, by omega⟩
  rw [Int.toNat_natCast] at h
  obtain ⟨M1, f1, h⟩ := Option.bind_eq_some_iff.mp h
  obtain ⟨D1, f2, h⟩ := Option.bind_eq_some_iff.mp h
  by_cases hm : M1.length = M.length ∧ D1.length = M.length ∧ M.length < 2 ^ 40
  rotate_left
  · rw [if_neg hm] at h; cases h
  rw [if_pos hm] at h
  obtain ⟨R, hred, h⟩ := Option.bind_eq_some_iff.mp h
  have FIT1 := zA f1
  have FIT2 := zA f2
  have RED := zA hred
  have HM := zA hM
  have HD := zA hD
  have LEN := zA hm
  have g1 : ¬ (W : Int) < 1 := by omega
  have g2 : ¬ (300 : Int) < (W : Int) := by omega
  have g3 : ¬ a1 < 1 := by omega
  have g4 : ¬ (1000 : Int) < a1 := by omega
  have hlm : M.length = D.length := by omega
  have g5 : ((M.length : Int) != (D.length : Int)) = false := bne_eq_false_iff_eq.2 (by omega)
  have g6 : ((M.length : Int) == (D.length : Int)) = true := beq_iff_eq.2 (by omega)
  have W3 := zA (show W ≤ 300 by omega)
  have HLM := zA hlm
  clear f1 f2 hred hM hD hm hb hlm
  by_cases hless : (R.1 : Int) < (W : Int)
  · rw [if_pos hless] at h
    obtain rfl := Option.some.inj h
    clear h
    go_enter Try.func26, Try.ntmps26
    go_wp2_with (first | (go_at_call 64; (with_reducible refine (solve_fit.calls k (W : Int) A2 c2 M M1 _ HM.out hcM FIT1.out).mono ?_); rintro e w2 ⟨v2, rfl, ho_, hb_⟩; have H1 := zA (Kd.S_R ho_); have B1 := zA hb_; have HD2 := zA (Kd.C_below HD.out hb_); clear ho_ hb_) | (go_at_call 64; (with_reducible refine (solve_fit.calls k a1 A3 c3 D D1 _ HD2.out hcD FIT2.out).mono ?_); rintro e w3 ⟨v3, rfl, ho_, hb_⟩; have HN_ := zA (show ∀ q, v2.ownBlock = some q → v3.ownBlock ≠ some q from fun q hq e => by have h1 := Kd.R_lt H1.out q hq; have h2 := Kd.R_base (Kd.S_R ho_) q e; omega); have H1 := zA (Kd.R_below H1.out hb_); have H2 := zA (Kd.R_lower (Kd.S_R ho_) B1.out.size); have B2 := zA (below_step B1.out hb_); clear ho_ hb_ B1 HD2; obtain ⟨A5, c5, e5⟩ := Kd.R_slice H2.out; subst e5) | (go_at_call 65; (with_reducible refine (reduceAny w k v2 A5 c5 W false M1 D1 R _ B2.out H1.out H2.out HN_.out ?_ ?_ W3.out RED.out).mono ?_); (exact LEN.out.2.1.trans LEN.out.1.symm); (rw [LEN.out.1]; exact LEN.out.2.2); rintro e w4 ⟨rfl, cD_, lD_, b4_⟩; have CD := zA cD_; have LD := zA lD_; have B4 := zA b4_; clear cD_ lD_ b4_))
    go_ret2
    exact ⟨none, 0, rfl, Nat.le_refl _, C0 _, B4.out⟩
  · rw [if_neg hless] at h
    by_cases hlen : W ≤ R.2.2.length
    rotate_left
    · rw [if_neg hlen] at h; cases h
    rw [if_pos hlen] at h
    have HH := zA h
    have HW := zA hlen
    clear h hlen
    go_enter Try.func26, Try.ntmps26
    go_upto_region 6 with (first | (go_at_call 64; (with_reducible refine (solve_fit.calls k (W : Int) A2 c2 M M1 _ HM.out hcM FIT1.out).mono ?_); rintro e w2 ⟨v2, rfl, ho_, hb_⟩; have H1 := zA (Kd.S_R ho_); have B1 := zA hb_; have HD2 := zA (Kd.C_below HD.out hb_); clear ho_ hb_) | (go_at_call 64; (with_reducible refine (solve_fit.calls k a1 A3 c3 D D1 _ HD2.out hcD FIT2.out).mono ?_); rintro e w3 ⟨v3, rfl, ho_, hb_⟩; have HN_ := zA (show ∀ q, v2.ownBlock = some q → v3.ownBlock ≠ some q from fun q hq e => by have h1 := Kd.R_lt H1.out q hq; have h2 := Kd.R_base (Kd.S_R ho_) q e; omega); have H1 := zA (Kd.R_below H1.out hb_); have H2 := zA (Kd.R_lower (Kd.S_R ho_) B1.out.size); have B2 := zA (below_step B1.out hb_); clear ho_ hb_ B1 HD2; obtain ⟨A5, c5, e5⟩ := Kd.R_slice H2.out; subst e5) | (go_at_call 65; (with_reducible refine (reduceAny w k v2 A5 c5 W false M1 D1 R _ B2.out H1.out H2.out HN_.out ?_ ?_ W3.out RED.out).mono ?_); (exact LEN.out.2.1.trans LEN.out.1.symm); (rw [LEN.out.1]; exact LEN.out.2.2); rintro e w4 ⟨rfl, cD_, lD_, b4_⟩; obtain ⟨ad5, e5, _⟩ := cD_.2.2 (by have := HW.out; omega); subst e5; obtain ⟨g, eg⟩ := Kd.R_head H2.out; subst eg; have CAP := zA (Kd.R_reads' H2.out).2.1; have CD := zA cD_; have LD := zA lD_; have B4 := zA b4_; clear cD_ lD_ b4_))
    have L5 := zA (show W ≤ D1.length from by rw [← LD.out]; exact HW.out)
    have h1 : (0 : Int) ≤ (W : Int) := by omega
    have h2 : (W : Int) ≤ (D1.length : Int) := by have := L5.out; omega
    have h3 : (W : Int) ≤ (c5 : Int) := by have := L5.out; have := CAP.out; omega
    have h4 : ¬ c5 = 0 := by omega
    have hl2 : decide (R.1 < W) = false := decide_eq_false (by omega)
    try simp only [hl2]
    by_cases hcw : c5 = W
    · have h5 : D1.length - W = 0 := by have := L5.out; have := CAP.out; omega
      have hz : loose (R.2.2.drop W) = false := by rw [List.drop_eq_nil_of_le (by rw [LD.out]; omega)]; rfl
      have H := HH.out
      rw [hz, if_neg (by decide)] at H
      obtain rfl := Option.some.inj H
      clear H hz
      go_wp2
      go_loopg [49] 1 (fun gg v49 wr => v49 = .int .i64 0 ∧ Aside0 (Below w4.heap.size w4 wr))
      case atStart => exact ⟨rfl, ⟨Below.refl _ _⟩⟩
      case round =>
        obtain ⟨rfl, HB9⟩ := hrel
        have hi : ¬ (0 : Int) < ((D1.length - W : Nat) : Int) := by have := L5.out; have := CAP.out; omega
        have hi0 : D1.length = W := by have := L5.out; have := CAP.out; omega
        have hcl := Cr.clone.calls (some ⟨g, 0, none⟩) c5 (R.2.2.take W) wr (C_take (Kd.C_below CD.out HB9.out) W HW.out) (by rw [List.length_take]; have := LEN.out; have := LD.out; omega)
        have htk : (R.2.2.take W).length = W := by rw [List.length_take]; exact Nat.min_eq_left HW.out
        rw [htk, hcw] at hcl
        have HCL := zA htk
        clear htk
        go_wp2_with (go_at_call 68; refine hcl.mono ?_; rintro e w9 ⟨A9, c9, rfl, l9, C9, b9⟩)
        go_ret2
        refine ⟨A9, c9, ?_, ?_, ?_, below_step (below_step B4.out HB9.out) b9⟩
        · show _ = Ending.returned (.tuple #[.slice A9 (R.2.2.take W).length c9, .int .i64 0])
          rw [HCL.out]; rfl
        · show (R.2.2.take W).length ≤ c9
          rw [HCL.out]; exact l9
        · show (Kd.slice 5 (Kd.int .u8)).C _ A9 (R.2.2.take W).length (R.2.2.take W)
          rw [HCL.out]; exact C9
    · go_wp2
      go_loopg [49] (D1.length - W) (fun gg v49 wr => ∃ i : Nat, v49 = .int .i64 (i : Int) ∧ Aside0 (i + gg = D1.length - W) ∧ Aside0 (loose (R.2.2.drop W) = loose (R.2.2.drop (W + i))) ∧ Aside0 (Below w4.heap.size w4 wr))
      case atStart => exact ⟨0, by simp, ⟨Nat.zero_add _⟩, ⟨rfl⟩, ⟨Below.refl _ _⟩⟩
      case round =>
        obtain ⟨i, rfl, I1, I2, HB9⟩ := hrel
        cases gk with
        | zero =>
          have hi : ¬ (i : Int) < ((D1.length - W : Nat) : Int) := by have := I1.out; omega
          have hz : loose (R.2.2.drop W) = false := by rw [I2.out, List.drop_eq_nil_of_le (by rw [LD.out]; have := I1.out; omega)]; rfl
          have H := HH.out
          rw [hz, if_neg (by decide)] at H
          obtain rfl := Option.some.inj H
          have hcl := Cr.clone.calls (some ⟨g, 0, none⟩) c5 (R.2.2.take W) wr (C_take (Kd.C_below CD.out HB9.out) W HW.out) (by rw [List.length_take]; have := LEN.out; have := LD.out; omega)
          have htk : (R.2.2.take W).length = W := by rw [List.length_take]; exact Nat.min_eq_left HW.out
          rw [htk] at hcl
          have HCL := zA htk
          clear htk H hz
          go_wp2_with (go_at_call 68; refine hcl.mono ?_; rintro e w9 ⟨A9, c9, rfl, l9, C9, b9⟩)
          go_ret2
          refine ⟨A9, c9, ?_, ?_, ?_, below_step (below_step B4.out HB9.out) b9⟩
          · show _ = Ending.returned (.tuple #[.slice A9 (R.2.2.take W).length c9, .int .i64 0])
            rw [HCL.out]; rfl
          · show (R.2.2.take W).length ≤ c9
            rw [HCL.out]; exact l9
          · show (Kd.slice 5 (Kd.int .u8)).C _ A9 (R.2.2.take W).length (R.2.2.take W)
            rw [HCL.out]; exact C9
        | succ d =>
          have hi : (i : Int) < ((D1.length - W : Nat) : Int) := by have := I1.out; omega
          have hib : (i : Int) < 1099511627776 := by have := LEN.out; omega
          have hil : W + i < R.2.2.length := by have := I1.out; have := LD.out; omega
          obtain ⟨adx, A0, c0, ex, x0, l0_, C0_⟩ := Cf.at_L1 (Kd.C_below CD.out HB9.out) ((W + i : Nat) : Int) (by omega) (by omega)
          injection ex with ex
          subst ex
          rw [rd_ro, Int.toNat_natCast, add_at', Nat.zero_add] at x0
          rw [rd_ro] at C0_
          have hst := loose_step R.2.2 (W + i) hil
          have hany := Cb.any.calls A0 c0 (ro R.2.2 (W + i)) wr C0_
          have HST := zA hst
          clear l0_ C0_ hst
          cases hb : Cb.any (ro R.2.2 (W + i)) with
          | true =>
            rw [hb] at hany
            have hz : loose (R.2.2.drop W) = true := by rw [I2.out, HST.out, hb]; rfl
            have H := HH.out
            rw [hz, if_pos rfl] at H
            obtain rfl := Option.some.inj H
            clear H hz hb
            go_wp2_with (go_at_call 66; refine hany.mono ?_; rintro e w9 ⟨rfl, b9⟩)
            go_ret2
            exact ⟨none, 0, rfl, Nat.le_refl _, C0 _, below_step (below_step B4.out HB9.out) b9⟩
          | false =>
            rw [hb] at hany
            have I3 := zA (show loose (R.2.2.drop W) = loose (R.2.2.drop (W + (i + 1))) by rw [I2.out, HST.out, hb]; rfl)
            clear hb
            go_wp2_with (go_at_call 66; refine hany.mono ?_; rintro e w9 ⟨rfl, b9⟩)
            go_roundg d
            case measure => omega
            case rel => exact ⟨i + 1, by go_num, ⟨by have := I1.out; omega⟩, I3, ⟨below_step HB9.out b9⟩⟩
end Go.Proofs.Ytbfhinfblepidaa.SoSolveTells
