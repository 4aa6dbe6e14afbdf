/- fountainref1.Rank: what it answers, by the contracts of Cut, Sum and steps. Conditions: those that stand in the theorems. -/
import Derived.Test.YtbfhinfblepidaaRkSolveTells
import Derived.Test.YtbfhinfblepidaaStSolveTells
import Derived.Test.YtbfhinfblepidaaPSolveTellsx
namespace Go.Proofs.Ytbfhinfblepidaa.RrSolveTells
open Go.RowKit Go.Lib Go.Proofs.Ytbfhinfblepidaa.PSolveTells Go.Proofs.YtbfhinfblepidaaW.PrintWords Go.Proofs.YtbfhinfblepidaaW.PrintLast Go.Proofs.YtbfhinfblepidaaW.PrintMore Go.Proofs.Ytbfhinfblepidaa.Mt Go.Proofs.Ytbfhinfblepidaa.StSolveTells Go.Proofs.Ytbfhinfblepidaa.RkSolveTells
set_option linter.unusedVariables false
set_option linter.unusedSimpArgs false
def sums (k : Nat) (W : Int) (M : List (List Int)) : Nat → Nat → List (List Int) → Option (List (List Int))
  | 0, _, acc => some acc
  | d + 1, i, acc => (fountainref1_Sum.f k W [ro M i]).bind fun x => sums k W M d (i + 1) (acc ++ [x])
def rrank.f (k : Nat) (a0 : Int) (M : List (List Int)) : Option Int :=
  if M.length < 2 ^ 40 then (sums k (cl a0 : Int) M M.length 0 []).bind fun L => (st k (cl a0) 0 0 L).bind fun R => some (R.1 : Int) else none
theorem cut_cl (a0 : Int) : fountainref1_Cut.f a0 0 300 = some (cl a0 : Int) := by
  unfold fountainref1_Cut.f cl
  split
  · congr 1; omega
  · split
    · congr 1; omega
    · congr 1; omega
theorem C_lit1 {w : World} {A : Option Addr} {c : Nat} {l : List Int} (hC : RowC w A l) (hc : l.length ≤ c) : (Kd.slice 5 (Kd.int .u8)).C (w.alloc (.cells #[.slice A l.length c] 30)) (some ⟨w.heap.size, 0, none⟩) [l].length [l] := by
  refine ⟨rfl, by simp, fun _ => ⟨_, rfl, fun j p hj => ?_⟩⟩
  cases j with
  | succ j => simp at hj
  | zero =>
    obtain rfl : l = p := by simpa using hj
    refine ⟨[.slice A l.length c], rfl, ⟨A, c, rfl, hc, Kd.C_below hC (below_alloc (Below.refl _ _) _)⟩, fun i u hu => ?_⟩
    cases i with
    | succ i => simp at hu
    | zero =>
      obtain rfl : Value.slice A l.length c = u := by simpa using hu
      exact (blk_cell (blk_new w _) 0).trans rfl
theorem sum1 (k : Nat) (W : Int) {w : World} {A : Option Addr} {c : Nat} {l x : List Int} (hC : RowC w A l) (hc : l.length ≤ c) (h : fountainref1_Sum.f k W [l] = some x) :
    Calls Try.prog 34 #[.int .i64 W, .slice (some ⟨w.heap.size, 0, none⟩) 1 1] (w.alloc (.cells #[.slice A l.length c] 30)) fun e w' => ∃ v0_ : Value, e = .returned (v0_) ∧ Kd.R (Kd.int .u8) 5 w' w.heap.size (fun _ => True) v0_ x ∧ Below w.heap.size w w' := by
  have hb := below_alloc (Below.refl w.heap.size w) (.cells #[.slice A l.length c] 30)
  refine (fountainref1_Sum.calls k W _ 1 [l] x _ (C_lit1 hC hc) (by simp) h).mono ?_
  rintro e w' ⟨v, rfl, h1, h2⟩
  exact ⟨v, rfl, Kd.R_lower h1 hb.size, below_step hb h2⟩
theorem st_nil (k : Nat) : ∀ f c, st k f c 0 [] = some (0, []) := by
  intro f
  induction f with
  | zero => intro c; rfl
  | succ f ih => intro c; unfold st; simp [pv, ih]
set_option maxRecDepth 100000 in
theorem steps0 (A : Option Addr) (c width : Nat) (w : World) (hw : width ≤ 300) : Calls Try.prog 69 #[.slice A 0 c, .int .i64 (width : Int)] w fun e w' => e = .returned (.int .i64 0) ∧ Below w.heap.size w w' := by
  have HB := zA (Below.refl w.heap.size w)
  go_enter Try.func69, Try.ntmps69
  go_wp2
  go_loopg [5, 6] width (fun gg v5 v6 wr => ∃ c : Nat, v5 = .int .i64 0 ∧ v6 = .int .i64 (c : Int) ∧ Aside0 (c + gg = width) ∧ Aside0 (Below w.heap.size w wr))
  case atStart => exact ⟨0, rfl, by simp, ⟨Nat.zero_add _⟩, HB⟩
  case round =>
    clear HB
    obtain ⟨c, rfl, rfl, E1, HB⟩ := hrel
    cases gk with
    | zero =>
      have hz : ¬ (c : Int) < (width : Int) := by have := E1.out; omega
      go_wp2
      go_ret
      exact ⟨rfl, HB.out⟩
    | succ f =>
      have hz : (c : Int) < (width : Int) := by have := E1.out; omega
      have hcz : (c : Int) ≤ 300 := by omega
      go_wp2
      go_loopg [7] 1 (fun gg v7 wq => v7 = .int .i64 0 ∧ Aside0 (Below w.heap.size w wq))
      case atStart => exact ⟨rfl, HB⟩
      case round =>
        clear HB
        obtain ⟨rfl, HB⟩ := hrel
        go_wp2
        go_roundg f
        case measure => omega
        case rel => exact ⟨c + 1, rfl, by go_num, ⟨by have := E1.out; omega⟩, HB⟩
set_option maxHeartbeats 4000000 in
set_option maxRecDepth 100000 in
theorem rrank.calls (k : Nat) (a0 : Int) (A1 : Option Addr) (c1 : Nat) (M : List (List Int)) (r : Int) (w : World) (hM : (Kd.slice 5 (Kd.int .u8)).C w A1 M.length M) (hcM : M.length ≤ c1) (h : rrank.f k a0 M = some r) :
    Calls Try.prog 30 #[.int .i64 a0, .slice A1 M.length c1] w fun e w' => e = .returned (.int .i64 r) ∧ Below w.heap.size w w' := by
  unfold rrank.f at h
  by_cases hm : M.length < 2 ^ 40
  rotate_left
  · rw [if_neg hm] at h; cases h
  rw [if_pos hm] at h
  obtain ⟨L, hs, h⟩ := Option.bind_eq_some_iff.mp h
  obtain ⟨R, hst, h⟩ := Option.bind_eq_some_iff.mp h
  obtain rfl : (R.1 : Int) = r := Option.some.inj h
  have HS := zA hs
  have ST := zA hst
  have HM := zA hM
  have LM := zA hm
  have CUT := zA (cut_cl a0)
  have HB := zA (Below.refl w.heap.size w)
  obtain ⟨W, hW⟩ : ∃ W, cl a0 = W := ⟨_, rfl⟩
  have W3 := zA (show W ≤ 300 by rw [← hW]; unfold cl; omega)
  rw [hW] at HS ST CUT
  clear h hs hst hM hm hW
  go_enter Try.func30, Try.ntmps30
  go_wp2_with (go_at_call 70; (with_reducible refine (fountainref1_Cut.calls a0 0 300 _ _ CUT.out).mono ?_); rintro e w' ⟨rfl, ⟨nd, rfl⟩⟩)
  go_loopg [5, 6] M.length (fun gg v5 v6 wr => ∃ (i : Nat) (acc : List (List Int)), v6 = .int .i64 (i : Int) ∧ Aside0 (i + gg = M.length ∧ acc.length = i) ∧ Aside0 (sums k (W : Int) M gg i acc = some L) ∧ Aside0 (Kd.S (Kd.slice 5 (Kd.int .u8)) 30 wr w.heap.size (fun _ => True) v5 acc) ∧ Aside0 (Below w.heap.size w wr))
  case atStart => exact ⟨0, [], by simp, ⟨Nat.zero_add _, rfl⟩, HS, ⟨Kd.S_nil _ _ _ _ _⟩, ⟨bel⟩⟩
  case round =>
    clear HS HB
    obtain ⟨i, acc, rfl, E1, HA, HO, HB⟩ := hrel
    cases gk with
    | zero =>
      have hz : ¬ (i : Int) < (M.length : Int) := by have := E1.out; omega
      obtain rfl : acc = L := Option.some.inj HA.out
      by_cases h0 : acc.length = 0
      · obtain rfl := List.length_eq_zero_iff.1 h0
        have hs0 := ST.out
        rw [st_nil] at hs0
        obtain rfl := Option.some.inj hs0
        obtain ⟨Ao, co, eo⟩ := Kd.R_slice (Kd.S_R HO.out)
        subst eo
        clear hs0
        go_wp2_with (go_at_call 69; (with_reducible refine (steps0 Ao co W _ W3.out).mono ?_); rintro e w2 ⟨rfl, b2⟩; have B2 := zA (below_step HB.out b2); clear b2)
        go_ret
        exact ⟨rfl, B2.out⟩
      · obtain ⟨g, cg, eg, k1, b1, m1⟩ := Mat.of_R (Kd.S_R HO.out) (by omega)
        have GM := zA b1
        have MT := zA m1
        have CG := zA k1
        subst eg
        clear b1 m1 k1 h0
        go_wp2_with (go_at_call 69; (with_reducible refine (steps.calls w k g cg W acc R _ HB.out GM.out MT.out CG.out (by have := E1.out; have := LM.out; omega) W3.out ST.out).mono ?_); rintro e w2 ⟨rfl, _, _, b2⟩; have B2 := zA b2; clear b2)
        go_ret
        exact ⟨rfl, B2.out⟩
    | succ d =>
      have hz : (i : Int) < (M.length : Int) := by have := E1.out; omega
      have hib : (i : Int) < 1099511627776 := by have := LM.out; omega
      have H := HA.out
      clear HA
      unfold sums at H
      obtain ⟨x, SUM_, H⟩ := Option.bind_eq_some_iff.mp H
      have SUM := zA SUM_
      have HN := zA H
      clear SUM_ H
      obtain ⟨ad, A0, c0, e, x0, l0_, C0_⟩ := Cf.at_L1 (Kd.C_below HM.out HB.out) (i : Int) (by omega) (by omega)
      cases e
      rw [rd_ro] at x0 l0_ C0_
      rw [Int.toNat_natCast] at x0
      have L0 := zA l0_
      have C0 := zA C0_
      clear l0_ C0_
      go_wp2_with (first | (go_at_call 34; (refine (sum1 k (W : Int) C0.out L0.out SUM.out).mono ?_); rintro e w2 ⟨v2, rfl, ho_, hb_⟩; have HO2 := zA (Kd.S_elder' HO.out (Kd.R_base ho_) hb_); have H2 := zA (Kd.R_lower ho_ HB.out.size); have B2 := zA (below_step HB.out hb_); clear HO HB ho_ hb_ C0; obtain ⟨A2, c2, e2⟩ := Kd.R_slice H2.out; subst e2) | ((with_reducible refine gate_builtin (b := .append) (xs := #[.tmp 15, .tmp 23]) rfl ?_); at_builtin; refine Kd.S_append (Kd.slice 5 (Kd.int .u8)) (w0 := w) w.heap.size rfl (.tmp 15) (.tmp 23) 34 30 (.slice none 0 0) 24 rfl Try.underlying34 info30 rfl (by decide) (by omega) u5 acc x [.slice A2 x.length c2] (fun _ => True) (fun k_ => some k_ = (.slice A2 x.length c2 : Value).ownBlock) rfl rfl ?aP (fun k_ hk_ => ((Kd.R_mono (ok' := fun k_ => ((fun _ => True)) k_ ∧ some k_ ≠ (u5 : Value).ownBlock) (Kd.R_apart' (H2.out) (Kd.S_typed HO2.out) (by decide)) (fun k_ hk => ⟨trivial, hk.2⟩))).1 k_ hk_.symm) ?aF ?aO ?aB ?aS ?aL ?_; (case aP => exact Kd.M_row (Kd.R_mono (Kd.R_tight rfl (Kd.R_mono (ok' := fun k_ => ((fun _ => True)) k_ ∧ some k_ ≠ (u5 : Value).ownBlock) (Kd.R_apart' (H2.out) (Kd.S_typed HO2.out) (by decide)) (fun k_ hk => ⟨trivial, hk.2⟩))) (fun _ h_ => h_))); (case aB => exact B2.out); (case aF => exact (fun _ _ => trivial)); (case aO => exact (Kd.S_mono HO2.out (fun k_ hk => ⟨trivial, fun e_ => hk.2 e_⟩))); (case aS => exact B2.out.size); (case aL => have := E1.out; have := LM.out; omega); intro v124 w9 ho hb hg hat; have HO3 := zA ho; have B3 := zA hb; clear ho hb hg hat))
      go_roundg d
      case measure => omega
      case rel => exact ⟨i + 1, acc ++ [x], by go_num, ⟨by have := E1.out; omega, by have := E1.out; simp; omega⟩, HN, HO3, B3⟩
end Go.Proofs.Ytbfhinfblepidaa.RrSolveTells
