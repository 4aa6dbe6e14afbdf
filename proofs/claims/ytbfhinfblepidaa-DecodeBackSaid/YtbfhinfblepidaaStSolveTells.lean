/- fountainref1.steps: what it makes of a matrix, in memory. Conditions: those that stand in the theorems. -/
import Derived.Test.YtbfhinfblepidaaMt
import Derived.Test.YtbfhinfblepidaaPSolveTellsx
import Derived.Test.YtbfhinfblepidaaPq
import Derived.BigQuiet
import Derived.Deep.QuietTactic
import Derived.Deep.LoopGhost
import Derived.WalkKit
import Derived.ProofKit
set_option maxHeartbeats 8000000
set_option maxRecDepth 100000
namespace Go.Proofs.Ytbfhinfblepidaa.StSolveTells
open Go.RowKit Go.Lib Go.Proofs.Ytbfhinfblepidaa.PSolveTells Go.Proofs.YtbfhinfblepidaaW.PrintWords Go.Proofs.YtbfhinfblepidaaW.PrintLast Go.Proofs.YtbfhinfblepidaaW.PrintMore Go.Proofs.Ytbfhinfblepidaa.Mt
set_option linter.unusedVariables false
set_option linter.unusedSimpArgs false
def T22 : Bool × List (List Nat × List Nat) := (true, [([], []), ([], []), ([], []), ([], []), ([2, 3], [2, 3]), ([4], [4]), ([], []), ([5, 6], [5, 6]), ([7], [7]), ([], []), ([], []), ([], []), ([10, 11], [10, 11]), ([12], [12]), ([], []), ([13, 14], [13, 14]), ([15], [15]), ([9, 16], [9, 16]), ([8, 17], [8, 17]), ([0, 1, 0, 1, 2, 3, 4, 5, 6, 7, 8, 9, 10, 11, 12, 13, 14, 15, 16, 17, 18], [0, 1]), ([19, 18, 17, 0, 1, 2, 3, 4, 5, 6, 7, 8, 9, 10, 11, 12, 13, 14, 15, 16, 17, 18], [18, 19])])
def B22 : List Nat := [0, 0, 0, 0, 12, 28, 0, 124, 252, 0, 0, 0, 3072, 7168, 0, 31744, 64512, 130560, 262140, 524287, 1048575]
theorem tab22 : rtab .any (opsOf Try.f69 22) = T22 := by kernel_rfl
theorem bits22 : waitsOk T22.2 B22 = true := by kernel_rfl
def pv (c : Nat) (M : List (List Int)) : Nat → Nat → Option Nat
  | 0, p => some p
  | d + 1, p => if c < (ro M p).length then (if rd (ro M p) (c : Int) = 0 then pv c M d (p + 1) else some p) else none
def xl (k : Nat) (g : Int) (r q : List Int) : Nat → Nat → List Int → Option (List Int)
  | 0, _, x => some x
  | d + 1, t, x => if t < q.length then (fountainref1_Times.f k g (rd q (t : Int))).bind fun y => xl k g r q d (t + 1) (x.set t (Go.bits .xor .u8 (rd r (t : Int)) y)) else none
def sl (k c n : Nat) : Nat → Nat → List (List Int) → Option (List (List Int))
  | 0, _, M => some M
  | d + 1, i, M =>
    if c < (ro M i).length then
      if i = n then sl k c n d (i + 1) M
      else if rd (ro M i) (c : Int) = 0 then sl k c n d (i + 1) M
      else if (ro M i).length < 1099511627776 then
        (xl k (rd (ro M i) (c : Int)) (ro M i) (ro M n) (ro M i).length 0 (List.replicate (ro M i).length 0)).bind fun x => sl k c n d (i + 1) (M.set i x)
      else none
    else none
def st (k : Nat) : Nat → Nat → Nat → List (List Int) → Option (Nat × List (List Int))
  | 0, _, n, M => some (n, M)
  | f + 1, c, n, M => (pv c M (M.length - n) n).bind fun p =>
    if p = M.length then st k f (c + 1) n M
    else if c < (ro M p).length then
      (fountainref1_Inv.f k (rd (ro M p) (c : Int))).bind fun t => (fountainref1_Scale.f k t (ro M p)).bind fun a =>
      (sl k c n M.length 0 ((M.set p (ro M n)).set n a)).bind fun M2 => st k f (c + 1) (n + 1) M2
    else none
structure Hs (w0 wr : World) (gm : Nat) (M : List (List Int)) (m : Nat) : Prop where
  hM : Mat 30 wr gm M
  lm : M.length = m
  bel : Below w0.heap.size w0 wr
theorem Hs.grow {w0 wr w2 : World} {gm m : Nat} {M : List (List Int)} (h : Hs w0 wr gm M m) (hb : Below wr.heap.size wr w2) : Hs w0 w2 gm M m := ⟨h.hM.below hb, h.lm, below_step h.bel hb⟩
theorem steps.calls (w0 : World) (k : Nat) (gm cm : Nat) (width : Nat) (M : List (List Int)) (R : Nat × List (List Int)) (w : World) (hb : Below w0.heap.size w0 w)
    (hgm : w0.heap.size ≤ gm) (hM : Mat 30 w gm M) (hcm : M.length ≤ cm) (hbig : M.length < 2 ^ 40) (hw : width ≤ 300) (h : st k width 0 0 M = some R) :
    Calls Try.prog 69 #[.slice (some ⟨gm, 0, none⟩) M.length cm, .int .i64 (width : Int)] w fun e w' => e = .returned (.int .i64 (R.1 : Int)) ∧
      Mat 30 w' gm R.2 ∧ R.2.length = M.length ∧ Below w0.heap.size w0 w' := by
  obtain ⟨m, hm⟩ : ∃ m, M.length = m := ⟨_, rfl⟩
  rw [hm] at hcm hbig ⊢
  have HH := zA h
  have HI0 := zA (show Hs w0 w gm M m from ⟨hM, hm, hb⟩)
  have GM := zA hgm
  have BIG := zA hbig
  clear hM hb hm h hcm hgm hbig
  go_enter Try.func69, Try.ntmps69
  go_wp2
  go_loopg [5, 6] width (fun gg v5 v6 wr => ∃ (n c : Nat) (M1 : List (List Int)), v5 = .int .i64 (n : Int) ∧ v6 = .int .i64 (c : Int) ∧ Aside0 (c + gg = width) ∧ Aside0 (n ≤ m) ∧ Aside0 (st k gg c n M1 = some R) ∧ Aside0 (Hs w0 wr gm M1 m))
  case atStart => exact ⟨0, 0, M, by simp, by simp, ⟨Nat.zero_add _⟩, ⟨Nat.zero_le _⟩, HH, HI0⟩
  case round =>
    clear HH HI0
    obtain ⟨n, c, M1, rfl, rfl, E1, E2, HA, HI⟩ := hrel
    cases gk with
    | zero =>
      have hz : ¬ (c : Int) < (width : Int) := by have := E1.out; omega
      have hr : (n, M1) = R := Option.some.inj HA.out
      subst hr
      go_wp2
      go_ret
      exact ⟨rfl, HI.out.hM, HI.out.lm, HI.out.bel⟩
    | succ f =>
      have hz : (c : Int) < (width : Int) := by have := E1.out; omega
      have hcz : (c : Int) ≤ 300 := by omega
      have H := HA.out
      clear HA
      unfold st at H
      rw [HI.out.lm] at H
      replace H := Option.bind_eq_some_iff.mp H
      obtain ⟨p', AP_, H⟩ := H
      have AP := zA AP_
      have HN := zA H
      clear AP_ H
      go_wp2
      go_loopg [7] (m - n) (fun gg v7 wq => ∃ (p : Nat), v7 = .int .i64 (p : Int) ∧ Aside0 (p + gg = m ∧ n ≤ p) ∧ Aside0 (pv c M1 gg p = some p') ∧ Aside0 (Hs w0 wq gm M1 m))
      case atStart => exact ⟨n, rfl, ⟨by have := E2.out; omega, Nat.le_refl _⟩, AP, HI⟩
      case round =>
        clear HI AP
        obtain ⟨p, rfl, F1, HA, HI⟩ := hrel
        cases gk with
        | zero =>
          have hpz : ¬ (p : Int) < (m : Int) := by have := F1.out.1; omega
          have hpm : ((p : Int) == (m : Int)) = true := beq_iff_eq.2 (by have := F1.out.1; omega)
          have hr : p = p' := Option.some.inj HA.out
          subst hr
          have H := HN.out
          rw [if_pos (by have := F1.out.1; omega)] at H
          have HN := zA H
          clear H HA
          go_wp2
          go_roundg f
          case measure => omega
          case rel => exact ⟨n, c + 1, M1, rfl, by go_num, ⟨by have := E1.out; omega⟩, E2, HN, HI⟩
        | succ d =>
          have hp : p < m := by have := F1.out.1; omega
          have hpz : (p : Int) < (m : Int) := by omega
          have hpb : (p : Int) < 1099511627776 := by have := BIG.out; omega
          have H := HA.out
          clear HA
          unfold pv at H
          by_cases hcl : c < (ro M1 p).length
          · rw [if_pos hcl] at H
            have hclz : (c : Int) < ((ro M1 p).length : Int) := by omega
            obtain ⟨Ap, cp, xp, lp, Cp⟩ := HI.out.hM.row p (by rw [HI.out.lm]; exact hp)
            obtain ⟨ad, rfl, hz6⟩ := Kd.at_int Cp (c : Int) (by omega) hclz
            rw [Int.toNat_natCast] at hz6
            obtain ⟨z, hzz⟩ : ∃ z, rd (ro M1 p) (c : Int) = z := ⟨_, rfl⟩
            rw [hzz] at hz6 H
            have LP := zA (And.intro lp Cp)
            clear lp Cp
            by_cases z0 : z = 0
            · have z1 : (z == 0) = true := beq_iff_eq.2 z0
              rw [if_pos z0] at H
              have HA := zA H
              clear H z0 hzz LP hcl
              go_wp2
              go_roundg d
              case measure => omega
              case rel => exact ⟨p + 1, by go_num, ⟨by have := F1.out.1; omega, by have := F1.out.2; omega⟩, HA, HI⟩
            · have z1 : (z == 0) = false := beq_eq_false_iff_ne.2 z0
              rw [if_neg z0] at H
              obtain rfl : p = p' := Option.some.inj H
              clear H
              have hpm : ((p : Int) == (m : Int)) = false := beq_eq_false_iff_ne.2 (by omega)
              have H := HN.out
              rw [if_neg (by omega), if_pos hcl, hzz] at H
              replace H := Option.bind_eq_some_iff.mp H
              obtain ⟨t, A1_, H⟩ := H
              replace H := Option.bind_eq_some_iff.mp H
              obtain ⟨a, A2_, H⟩ := H
              replace H := Option.bind_eq_some_iff.mp H
              obtain ⟨M3, A3_, H⟩ := H
              have A1 := zA A1_
              have A2 := zA A2_
              have A3 := zA A3_
              have HN := zA H
              clear A1_ A2_ A3_ H z0 hcl
              have hn : n < m := by have := F1.out.2; omega
              have hnz : (n : Int) < (m : Int) := by omega
              obtain ⟨An, cn, xn, ln, Cn⟩ := HI.out.hM.row n (by rw [HI.out.lm]; exact hn)
              have fp := HI.out.hM.frozen p
              have hM4 := zA (HI.out.hM.set (i := p) (by rw [HI.out.lm]; exact hp) ln Cn)
              have HB4 := zA (below_set (j := p) (v := .slice An (ro M1 n).length cn) HI.out.bel GM.out)
              have CP4 := zA (rowC_set LP.out.2 xp (.slice An (ro M1 n).length cn))
              have LM := zA HI.out.lm
              obtain ⟨ad', e', hz7⟩ := Kd.at_int CP4.out (c : Int) (by omega) hclz
              cases e'
              rw [Int.toNat_natCast, hzz] at hz7
              clear ln Cn HI hzz
              go_upto_region 11 with (fail)
              generalize wr.setCell ⟨gm, p, none⟩ (.slice An (ro M1 n).length cn) = w4 at hM4 HB4 CP4 hz7 ⊢
              clear hz6 xp xn fp
              go_wp2_with (first | (go_at_call 101; refine (fountainref1_Inv.calls k z t _ A1.out).mono ?_; rintro e w' ⟨rfl, ⟨nd, rfl⟩⟩; have hM5 := zA (hM4.out.below (pw_below_drewN (Below.refl _ _) nd)); have HB5 := zA (pw_below_drewN HB4.out nd); have CP5 := zA (Kd.C_below CP4.out (pw_below_drewN (Below.refl _ _) nd)); clear hM4 HB4 CP4 hz7; generalize World.drewN w4 nd = w5 at hM5 HB5 CP5 ⊢) | (go_at_call 102; refine (fountainref1_Scale.calls k t (some ad) cp (ro M1 p) a _ CP5.out LP.out.1 A2.out).mono ?_; rintro e w6 ⟨v6, rfl, ho_, hb_⟩; obtain ⟨Av, cv, rfl, lv, Cv⟩ := Kd.R_reads ho_; have hM6 := zA (hM5.out.below hb_); have HB6 := zA (below_step HB5.out hb_); have CV := zA (And.intro lv Cv); clear hM5 HB5 CP5 ho_ hb_ lv Cv; obtain ⟨A6, c6, x6, l6, C6⟩ := hM6.out.row n (by rw [List.length_set, LM.out]; exact hn); have f6 := hM6.out.frozen n; clear l6 C6))
              have hlm : ((M1.set p (ro M1 n)).set n a).length = m := by rw [List.length_set, List.length_set]; exact LM.out
              have HI := zA (show Hs w0 (w6.setCell ⟨gm, n, none⟩ (.slice Av a.length cv)) gm ((M1.set p (ro M1 n)).set n a) m from ⟨hM6.out.set (i := n) (by rw [List.length_set, LM.out]; exact hn) CV.out.1 CV.out.2, hlm, below_set HB6.out GM.out⟩)
              have H3 := A3.out
              obtain ⟨M4, eM4⟩ : ∃ M4, (M1.set p (ro M1 n)).set n a = M4 := ⟨_, rfl⟩
              rw [eM4] at H3 HI
              have A3 := zA H3
              clear H3 hlm eM4 hM6 HB6 CV x6 f6 LM
              go_loopg [10] m (fun gg v10 wq => ∃ (i : Nat) (M5 : List (List Int)), v10 = .int .i64 (i : Int) ∧ Aside0 (i + gg = m) ∧ Aside0 (sl k c n gg i M5 = some M3) ∧ Aside0 (Hs w0 wq gm M5 m))
              case atStart => exact ⟨0, M4, by simp, ⟨Nat.zero_add _⟩, A3, HI⟩
              case round =>
                clear HI A3
                obtain ⟨i, M5, rfl, G1, HA2, HI2⟩ := hrel
                cases gk with
                | zero =>
                  have hi : ¬ (i : Int) < (m : Int) := by have := G1.out; omega
                  obtain rfl : M5 = M3 := Option.some.inj HA2.out
                  have hnb : (n : Int) < 1099511627776 := by have := BIG.out; omega
                  go_wp2
                  go_roundg f
                  case measure => omega
                  case rel => exact ⟨n + 1, c + 1, M5, by go_num, by go_num, ⟨by have := E1.out; omega⟩, ⟨by omega⟩, HN, HI2⟩
                | succ d2 =>
                  have hi : i < m := by have := G1.out; omega
                  have hiz : (i : Int) < (m : Int) := by omega
                  have hib : (i : Int) < 1099511627776 := by have := BIG.out; omega
                  have H := HA2.out
                  clear HA2
                  unfold sl at H
                  by_cases hc2 : c < (ro M5 i).length
                  · rw [if_pos hc2] at H
                    have hclz2 : (c : Int) < ((ro M5 i).length : Int) := by omega
                    obtain ⟨Ai, ci, xi, li, Ci⟩ := HI2.out.hM.row i (by rw [HI2.out.lm]; exact hi)
                    obtain ⟨ae, rfl, hy6⟩ := Kd.at_int Ci (c : Int) (by omega) hclz2
                    rw [Int.toNat_natCast] at hy6
                    obtain ⟨y, hyy⟩ : ∃ y, rd (ro M5 i) (c : Int) = y := ⟨_, rfl⟩
                    rw [hyy] at hy6 H
                    have LI := zA (And.intro li Ci)
                    clear li Ci hyy hc2
                    by_cases hin : i = n
                    · have h1 : ((i : Int) == (n : Int)) = true := beq_iff_eq.2 (by omega)
                      rw [if_pos hin] at H
                      have HA2 := zA H
                      clear H hin LI
                      go_wp2
                      go_roundg d2
                      case measure => omega
                      case rel => exact ⟨i + 1, M5, by go_num, ⟨by have := G1.out; omega⟩, HA2, HI2⟩
                    · have h1 : ((i : Int) == (n : Int)) = false := beq_eq_false_iff_ne.2 (by omega)
                      rw [if_neg hin] at H
                      clear hin
                      by_cases y0 : y = 0
                      · have h2 : (y == 0) = true := beq_iff_eq.2 y0
                        rw [if_pos y0] at H
                        have HA2 := zA H
                        clear H y0 LI
                        go_wp2
                        go_roundg d2
                        case measure => omega
                        case rel => exact ⟨i + 1, M5, by go_num, ⟨by have := G1.out; omega⟩, HA2, HI2⟩
                      · have h2 : (y == 0) = false := beq_eq_false_iff_ne.2 y0
                        rw [if_neg y0] at H
                        by_cases hbl : (ro M5 i).length < 1099511627776
                        · rw [if_pos hbl] at H
                          replace H := Option.bind_eq_some_iff.mp H
                          obtain ⟨x', B1_, H⟩ := H
                          have B1 := zA B1_
                          have HN2 := zA H
                          clear B1_ H y0
                          have hlz : (0 : Int) ≤ ((ro M5 i).length : Int) := by omega
                          have hl1 : ((ro M5 i).length : Int).toNat ≤ 281474976710656 := by omega
                          have HL1 := zA hl1
                          have HLZ := zA hlz
                          obtain ⟨len, hlen⟩ : ∃ len, (ro M5 i).length = len := ⟨_, rfl⟩
                          rw [hlen] at hclz2 hbl xi
                          have LEN := zA hlen
                          generalize wr = wy at HI2 xi hy6 LI ⊢
                          clear hlz hl1 hlen
                          have hlz : (0 : Int) ≤ (len : Int) := by omega
                          have hl1 : (len : Int).toNat ≤ 281474976710656 := by omega
                          go_wp2_with ((with_reducible refine gate_dst (N := 87) rfl ?_); refine Kd.R_make (Kd.int .u8) _ 5 rfl (N := 87) rfl 30 _ _ rfl (len : Int) rfl rfl Try.underlying30 (.int .u8 0) 1 info5 rfl (by decide) (by omega) 0 (ok := fun _ => True) (okp := fun _ => True) rfl (fun _ hk => hk) trivial hlz (Nat.le_trans (Nat.mul_le_mul_right _ hl1) (by omega)) (Below.refl _ _) (Nat.le_refl _) ?_; intro v5 w7 ho6 hb_ hg_ hnew_; clear hg_ hnew_; rw [Int.toNat_natCast] at ho6; obtain ⟨Ax, cx, ex⟩ := Kd.R_slice ho6; rw [List.length_replicate] at ex; subst ex; have HX := zA ho6; have HB7 := zA hb_; clear ho6 hb_)
                          have B2 := B1.out
                          rw [LEN.out] at B2
                          have B1 := zA B2
                          clear B2 hl1
                          go_loopg [13] len (fun gg v13 wz => ∃ (t : Nat) (xs : List Int), v13 = .int .i64 (t : Int) ∧ Aside0 (t + gg = len) ∧ Aside0 (xs.length = len) ∧ Aside0 (xl k y (ro M5 i) (ro M5 n) gg t xs = some x') ∧ Aside0 (Kd.R (Kd.int .u8) 5 wz wy.heap.size (fun _ => True) (.slice Ax len cx) xs) ∧ Aside0 (Below wy.heap.size wy wz))
                          case atStart => exact ⟨0, List.replicate len 0, by simp, ⟨Nat.zero_add _⟩, ⟨List.length_replicate ..⟩, B1, HX, HB7⟩
                          case round =>
                            clear HX HB7 B1
                            obtain ⟨t, xs, rfl, K1, K2, HA3, HX, HB7⟩ := hrel
                            cases gk with
                            | zero =>
                              have ht : ¬ (t : Int) < (len : Int) := by have := K1.out; omega
                              obtain rfl : xs = x' := Option.some.inj HA3.out
                              obtain ⟨Ay, cy, ey, ly, Cy⟩ := Kd.R_reads HX.out
                              injection ey with e1 e2 e3
                              subst e1
                              subst e3
                              have xi' := (HB7.out.cell (World.block_lt_of_cell? wy _ xi)).trans xi
                              have hM9 := HI2.out.hM.below HB7.out
                              have fi := hM9.frozen i
                              have hM10 := hM9.set (i := i) (by rw [HI2.out.lm]; exact hi) ly Cy
                              rw [K2.out] at hM10
                              have HI10 := zA (show Hs w0 (wr.setCell ⟨gm, i, none⟩ (.slice Ax len cx)) gm (M5.set i xs) m from ⟨hM10, by rw [List.length_set]; exact HI2.out.lm, below_set (below_step HI2.out.bel HB7.out) GM.out⟩)
                              clear hM9 hM10 e2 ly Cy xi hy6
                              go_wp2
                              go_roundg d2
                              case measure => omega
                              case rel => exact ⟨i + 1, M5.set i xs, by go_num, ⟨by have := G1.out; omega⟩, HN2, HI10⟩
                            | succ d3 =>
                              have ht : t < len := by have := K1.out; omega
                              have htz : (t : Int) < (len : Int) := by omega
                              have htb : (t : Int) < 1099511627776 := by omega
                              have H := HA3.out
                              clear HA3
                              unfold xl at H
                              by_cases hq : t < (ro M5 n).length
                              · rw [if_pos hq] at H
                                replace H := Option.bind_eq_some_iff.mp H
                                obtain ⟨y2, B2_, H⟩ := H
                                have B2 := zA B2_
                                have HA3 := zA H
                                clear B2_ H
                                have hqz : (t : Int) < ((ro M5 n).length : Int) := by omega
                                have htz2 : (t : Int) < ((ro M5 i).length : Int) := by have := LEN.out; omega
                                obtain ⟨ag, eg, hzi⟩ := Kd.at_int LI.out.2 (t : Int) (by omega) htz2
                                cases eg
                                obtain ⟨An', cn', xn', ln', Cn'⟩ := HI2.out.hM.row n (by rw [HI2.out.lm]; exact hn)
                                obtain ⟨af, rfl, hzn⟩ := Kd.at_int Cn' (t : Int) (by omega) hqz
                                rw [Int.toNat_natCast] at hzi hzn
                                obtain ⟨gx, capx, ex, bx, lx, _⟩ := Kd.R_form HX.out (by have := K2.out; omega)
                                injection ex with e1 e2 e3
                                subst e1
                                subst e3
                                have HX8 := zA (Kd.R_drew HX.out)
                                have GX := zA bx
                                clear ln' Cn' e2 lx bx HX hq htz2
                                go_wp2
                                refine start_ (n := 21) (S := fun w' => Below wy.heap.size wy w') (ds := [20]) (ms 21 0) (by kernel_rfl) rfl rfl HB7.out.drew (fun hHeld => ?_); refine with_tabW tab22 bits22 (fun HT_ HW_ => ?_)
                                generalize wr.drew = w8 at HX8 hHeld ⊢
                                refine run_ [(0, false, some 94), (1, false, some 95), (2, false, some 96), (3, false, some 97), (4, false, some 98), (6, false, some 100), (9, false, some 103), (10, false, some 104), (11, false, some 105), (12, false, some 106), (14, false, some 108), (5, true, some 99), (7, false, some 101), (8, true, some 102), (13, true, some 107), (15, false, some 109), (16, true, some 110)] (n := 17) (ms 21 131071) rfl HT_.out HW_.out (by kernel_rfl) (fun _ _ _ _ h => h) hHeld ?_
                                repeat (first | (refine Run.p (v := ?_) (a' := ?_) rfl rfl (Or.inl ⟨by rfl, ?_⟩) ?_ ?_; rotate_left; (focus intro w'; go_simp; with_reducible rfl); rotate_left; (focus simp only [Act.put, sx]; rfl)) | (refine Run.t (v := ?_) (a' := ?_) rfl rfl (Or.inl ⟨by rfl, ?_⟩) ?_ ?_; rotate_left; (focus intro w' hS; have s0 := (hS.cell (World.block_lt_of_cell? wy _ xi)).trans xi; have s1 := (hS.cell (World.block_lt_of_cell? wy _ xn')).trans xn'; have s2 := (hS.cell (World.block_lt_of_cell? wy _ hzi)).trans hzi; have s3 := (hS.cell (World.block_lt_of_cell? wy _ hzn)).trans hzn; go_simp; with_reducible rfl); rotate_left; (focus simp only [Act.put, sx]; rfl)))
                                refine Run.nil ?_
                                refine one_ (i := 17) (N := some 111) (ms 21 262143) rfl rfl (one_of HT_.out (by kernel_rfl)) (by decide) (fun K hK => ?_)
                                refine goes_ Try.func72 (by kernel_rfl) rfl #[.int .u8 y, .int .u8 (rd (ro M5 n) (t : Int))] (by rfl) rfl rfl (by (try simp only [List.map_toArray, List.map_cons, List.map_nil]); first | done | rfl) ?_
                                with_reducible refine (fountainref1_Times.calls k y (rd (ro M5 n) (t : Int)) y2 _ B2.out).mono ?_
                                rintro e w' ⟨rfl, ⟨nd, rfl⟩⟩
                                refine ⟨_, rfl, ?_⟩
                                refine hK.out _ _ (pw_below_drewN hHeld nd) (fun hHeld => ?_)
                                clear hK K
                                have HX9 := zA (Kd.R_drewN HX8.out nd)
                                generalize w8.drewN nd = w9 at hHeld HX9 ⊢
                                refine norm_ (a' := ?_) ?_ ?_
                                rotate_left
                                · show Act.put _ (some 111) _ = _
                                  simp only [Act.put, sx]
                                  rfl
                                refine pure_ (i := 18) (N := some 112) (v := ?_) (a' := ?_) (ms 21 524287) rfl rfl (any_of HT_.out (by kernel_rfl)) (fun _ _ _ h => h) (Or.inl ⟨by rfl, ?_⟩) ?_ ?_
                                rotate_left
                                · intro w'
                                  go_simp
                                  with_reducible rfl
                                rotate_left
                                · simp only [Act.put, sx]
                                  rfl
                                refine pure_ (i := 19) (N := some 113) (v := ?_) (a' := ?_) (ms 21 1048575) rfl rfl (any_of HT_.out (by kernel_rfl)) (fun _ _ _ h => h) (Or.inl ⟨by rfl, ?_⟩) ?_ ?_
                                rotate_left
                                · intro w'
                                  go_simp
                                  with_reducible rfl
                                rotate_left
                                · simp only [Act.put, sx]
                                  rfl
                                obtain ⟨hx9, hf9⟩ := Kd.R_celln 0 HX9.out (t : Int) (by omega) htz
                                rw [Int.toNat_natCast] at hx9 hf9
                                have HX10 := Kd.R_putn HX9.out (t : Int) (Go.bits .xor .u8 (rd (ro M5 i) (t : Int)) y2)
                                rw [Int.toNat_natCast] at HX10
                                have HXA := zA HX10
                                have HBA := zA (below_set (j := t) (v := .int .u8 (Go.bits .xor .u8 (rd (ro M5 i) (t : Int)) y2)) hHeld GX.out)
                                clear HX10 HX9 HX8
                                refine last_ (i := 20) (N := none) (ms 21 2097151) rfl rfl (one_of HT_.out (by kernel_rfl)) (by decide) (fun K hK => ?_)
                                refine skip_ (w1 := ?_) (by rfl) rfl ?_ ?_
                                rotate_left
                                · go_simp
                                  rfl
                                refine hK.out _ _ ?_
                                clear hK K
                                refine done_ (done_of HT_.out (by kernel_rfl)) ?_
                                clear HT_ HW_ hHeld hx9 hf9
                                generalize w9.setCell ⟨gx, t, none⟩ (.int .u8 (Go.bits .xor .u8 (rd (ro M5 i) (t : Int)) y2)) = w10 at HXA HBA ⊢
                                go_wp2
                                go_roundg d3
                                case measure => omega
                                case rel => exact ⟨t + 1, _, by go_num, ⟨by have := K1.out; omega⟩, ⟨by rw [List.length_set]; exact K2.out⟩, HA3, HXA, HBA⟩
                              · rw [if_neg hq] at H
                                cases H
                        · rw [if_neg hbl] at H
                          cases H
                  · rw [if_neg hc2] at H
                    cases H
          · rw [if_neg hcl] at H
            cases H
end Go.Proofs.Ytbfhinfblepidaa.StSolveTells
