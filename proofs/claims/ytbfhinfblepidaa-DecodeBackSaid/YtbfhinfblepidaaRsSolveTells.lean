/- fountainref1.Solve: what it answers, by the contracts of Sum and steps. Conditions: those that stand in the theorems. -/
import Derived.Test.YtbfhinfblepidaaRrSolveTells
set_option maxHeartbeats 8000000
set_option maxRecDepth 100000
namespace Go.Proofs.Ytbfhinfblepidaa.RsSolveTells
open Go.RowKit Go.Lib Go.Proofs.Ytbfhinfblepidaa.PSolveTells Go.Proofs.YtbfhinfblepidaaW.PrintWords Go.Proofs.YtbfhinfblepidaaW.PrintLast Go.Proofs.YtbfhinfblepidaaW.PrintMore Go.Proofs.Ytbfhinfblepidaa.Mt Go.Proofs.Ytbfhinfblepidaa.StSolveTells Go.Proofs.Ytbfhinfblepidaa.RkSolveTells Go.Proofs.Ytbfhinfblepidaa.RrSolveTells
set_option linter.unusedVariables false
set_option linter.unusedSimpArgs false
def nzr (l : List Int) : Bool := l.any fun x => decide (x ≠ 0)
def loose2 (W : Nat) (L : List (List Int)) : Bool := L.any fun r => nzr (r.drop W)
def rsums (k W S : Nat) (M D : List (List Int)) : Nat → Nat → List (List Int) → Option (List (List Int))
  | 0, _, acc => some acc
  | d + 1, i, acc => (fountainref1_Sum.f k (W : Int) [ro M i]).bind fun x => (fountainref1_Sum.f k (S : Int) [ro D i]).bind fun y =>
    if x.length = W ∧ y.length = S then rsums k W S M D d (i + 1) (acc ++ [x ++ y]) else none
def rsolve.f (k : Nat) (a0 a1 : Int) (M D : List (List Int)) : Option (List (List Int) × Int) :=
  if a0 < 1 ∨ a0 > 300 ∨ a1 < 1 ∨ a1 > 1000 ∨ M.length ≠ D.length then some ([], 1)
  else if M.length < 2 ^ 40 then
    (rsums k a0.toNat a1.toNat M D M.length 0 []).bind fun L => (st k a0.toNat 0 0 L).bind fun R =>
      if R.1 < a0.toNat then some ([], 4)
      else if a0.toNat ≤ R.2.length ∧ (∀ r ∈ R.2, r.length = a0.toNat + a1.toNat) then
        (if loose2 a0.toNat (R.2.drop a0.toNat) = true then some ([], 4) else some ((R.2.take a0.toNat).map (·.drop a0.toNat), 0))
      else none
  else none
abbrev Post (w : World) (r : List (List Int) × Int) (e : Ending) (w' : World) : Prop := ∃ A c, e = .returned (.tuple #[.slice A r.1.length c, .int .i64 r.2]) ∧ r.1.length ≤ c ∧ (Kd.slice 5 (Kd.int .u8)).C w' A r.1.length r.1 ∧ Below w.heap.size w w'
theorem C0 (w : World) : (Kd.slice 5 (Kd.int .u8)).C w none ([] : List (List Int)).length [] := ⟨rfl, by simp, fun h => absurd h (Nat.lt_irrefl 0)⟩
theorem any_drop {α : Type} (p : α → Bool) (L : List α) (i : Nat) (h : i < L.length) : (L.drop i).any p = (p L[i] || (L.drop (i + 1)).any p) := by
  rw [List.drop_eq_getElem_cons h, List.any_cons]
theorem loose2_step (W : Nat) (L : List (List Int)) (i : Nat) (h : i < L.length) : loose2 W (L.drop i) = (nzr ((ro L i).drop W) || loose2 W (L.drop (i + 1))) := by
  unfold loose2
  rw [any_drop _ _ _ h]
  unfold ro
  rw [List.getD_eq_getElem?_getD, List.getElem?_eq_getElem h]; rfl
theorem nzr_step (l : List Int) (i : Nat) (h : i < l.length) : nzr (l.drop i) = (decide (rd l (i : Int) ≠ 0) || nzr (l.drop (i + 1))) := by
  unfold nzr
  rw [any_drop _ _ _ h]
  unfold rd
  rw [Int.toNat_natCast, List.getD_eq_getElem?_getD, List.getElem?_eq_getElem h]; rfl
theorem map_take (W : Nat) (L : List (List Int)) (i : Nat) (h : i < L.length) : (L.take (i + 1)).map (·.drop W) = (L.take i).map (·.drop W) ++ [(ro L i).drop W] := by
  rw [List.take_add_one, List.getElem?_eq_getElem h, List.map_append]
  unfold ro
  rw [List.getD_eq_getElem?_getD, List.getElem?_eq_getElem h]; rfl
theorem bad (a0 a1 : Int) (A2 A3 : Option Addr) (c2 c3 m d : Nat) (w : World) (h : a0 < 1 ∨ a0 > 300 ∨ a1 < 1 ∨ a1 > 1000 ∨ m ≠ d) :
    Calls Try.prog 28 #[.int .i64 a0, .int .i64 a1, .slice A2 m c2, .slice A3 d c3] w (Post w ([], 1)) := by
  by_cases g1 : a0 < 1
  · clear h
    go_enter Try.func28, Try.ntmps28
    go_wp2
    go_ret2
    exact ⟨none, 0, rfl, Nat.le_refl _, C0 _, Below.refl _ _⟩
  by_cases g2 : 300 < a0
  · clear h
    go_enter Try.func28, Try.ntmps28
    go_wp2
    go_ret2
    exact ⟨none, 0, rfl, Nat.le_refl _, C0 _, Below.refl _ _⟩
  by_cases g3 : a1 < 1
  · clear h
    go_enter Try.func28, Try.ntmps28
    go_wp2
    go_ret2
    exact ⟨none, 0, rfl, Nat.le_refl _, C0 _, Below.refl _ _⟩
  by_cases g4 : 1000 < a1
  · clear h
    go_enter Try.func28, Try.ntmps28
    go_wp2
    go_ret2
    exact ⟨none, 0, rfl, Nat.le_refl _, C0 _, Below.refl _ _⟩
  have g5 : ((m : Int) != (d : Int)) = true := bne_iff_ne.2 (by omega)
  have g6 : ((m : Int) == (d : Int)) = false := beq_eq_false_iff_ne.2 (by omega)
  clear h
  go_enter Try.func28, Try.ntmps28
  go_wp2
  go_ret2
  exact ⟨none, 0, rfl, Nat.le_refl _, C0 _, Below.refl _ _⟩
theorem sumC (k : Nat) (W : Int) {w : World} {A : Option Addr} {l x : List Int} (hC : (Kd.slice 5 (Kd.int .u8)).C w A [l].length [l]) (h : fountainref1_Sum.f k W [l] = some x) :
    Calls Try.prog 34 #[.int .i64 W, .slice A 1 1] w fun e w' => ∃ v0_ : Value, e = .returned (v0_) ∧ Kd.R (Kd.int .u8) 5 w' w.heap.size (fun _ => True) v0_ x ∧ Below w.heap.size w w' :=
  fountainref1_Sum.calls k W A 1 [l] x w hC (by simp) h
def T7 : Bool × List (List Nat × List Nat) := (true, [([], []), ([], []), ([], []), ([], []), ([2, 3], [2, 3]), ([4], [4]), ([5], [5]), ([1, 6], [1, 6]), ([], []), ([], []), ([], []), ([9, 10], [9, 10]), ([11], [11]), ([12], [12]), ([8, 13, 7], [8, 13]), ([7, 14, 14], [7, 14]), ([15], [15]), ([0, 16, 15], [0, 16]), ([17, 17, 0, 1, 2, 3, 4, 5, 6, 7, 8, 9, 10, 11, 12, 13, 14, 15, 16, 17], [0, 17])])
def B7 : List Nat := [0, 0, 0, 0, 12, 28, 60, 126, 0, 0, 0, 1536, 3584, 7680, 16382, 32766, 65534, 131071, 262143]
theorem tab7 : rtab .any (opsOf Try.f28 7) = T7 := by kernel_rfl
theorem bits7 : waitsOk T7.2 B7 = true := by kernel_rfl
theorem rsolve.calls (k : Nat) (a0 a1 : Int) (A2 : Option Addr) (c2 : Nat) (M : List (List Int)) (A3 : Option Addr) (c3 : Nat) (D : List (List Int)) (r : List (List Int) × Int) (w : World)
    (hM : (Kd.slice 5 (Kd.int .u8)).C w A2 M.length M) (hcM : M.length ≤ c2) (hD : (Kd.slice 5 (Kd.int .u8)).C w A3 D.length D) (hcD : D.length ≤ c3) (h : rsolve.f k a0 a1 M D = some r) :
    Calls Try.prog 28 #[.int .i64 a0, .int .i64 a1, .slice A2 M.length c2, .slice A3 D.length c3] w (Post w r) := by
  unfold rsolve.f at h
  by_cases hb : a0 < 1 ∨ a0 > 300 ∨ a1 < 1 ∨ a1 > 1000 ∨ M.length ≠ D.length
  · rw [if_pos hb] at h
    obtain rfl := Option.some.inj h
    exact bad a0 a1 A2 A3 c2 c3 _ _ w hb
  rw [if_neg hb] at h
  obtain ⟨W, rfl⟩ : ∃ W : Nat, a0 = (W : Int) := ⟨a0.toNat, by omega⟩
  obtain ⟨S, rfl⟩ : ∃ S : Nat, a1 = (S : Int) := ⟨a1.toNat, by omega⟩
  rw [Int.toNat_natCast, Int.toNat_natCast] at h
  by_cases hm : M.length < 2 ^ 40
  rotate_left
  · rw [if_neg hm] at h; cases h
  rw [if_pos hm] at h
  obtain ⟨L, hs, h⟩ := Option.bind_eq_some_iff.mp h
  obtain ⟨R, hst, h⟩ := Option.bind_eq_some_iff.mp h
  have HS := zA hs
  have ST := zA hst
  have HM := zA hM
  have HD := zA hD
  have LM := zA hm
  have HH := zA h
  have g1 : ¬ (W : Int) < 1 := by omega
  have g2 : ¬ (300 : Int) < (W : Int) := by omega
  have g3 : ¬ (S : Int) < 1 := by omega
  have g4 : ¬ (1000 : Int) < (S : Int) := by omega
  have hlm : M.length = D.length := by omega
  have g5 : ((M.length : Int) != (D.length : Int)) = false := bne_eq_false_iff_eq.2 (by omega)
  have g6 : ((M.length : Int) == (D.length : Int)) = true := beq_iff_eq.2 (by omega)
  have WS := zA (show 1 ≤ W ∧ W ≤ 300 ∧ 1 ≤ S ∧ S ≤ 1000 by omega)
  have HLM := zA hlm
  have HB := zA (Below.refl w.heap.size w)
  clear h hs hst hM hD hm hb hlm
  go_enter Try.func28, Try.ntmps28
  go_wp2
  go_loopg [10, 11] M.length (fun gg v10 v11 wr => ∃ (i : Nat) (acc : List (List Int)), v11 = .int .i64 (i : Int) ∧ Aside0 (i + gg = M.length ∧ acc.length = i) ∧ Aside0 (rsums k W S M D gg i acc = some L) ∧ Aside0 (Kd.S (Kd.slice 5 (Kd.int .u8)) 30 wr w.heap.size (fun _ => True) v10 acc) ∧ Aside0 (Below w.heap.size w wr))
  case atStart => exact ⟨0, [], by simp, ⟨Nat.zero_add _, rfl⟩, HS, ⟨Kd.S_nil _ _ _ _ _⟩, ⟨bel⟩⟩
  case round =>
    clear HS HB
    obtain ⟨i, acc, rfl, E1, HA, HO, HB⟩ := hrel
    cases gk with
    | zero =>
      have hz : ¬ (i : Int) < (M.length : Int) := by have := E1.out; omega
      obtain rfl : acc = L := Option.some.inj HA.out
      clear HA
      by_cases h0 : acc.length = 0
      · obtain rfl := List.length_eq_zero_iff.1 h0
        have hs0 := ST.out
        rw [st_nil] at hs0
        obtain rfl := Option.some.inj hs0
        have H := HH.out
        rw [if_pos (show (0 : Nat) < W by have := WS.out; omega)] at H
        obtain rfl := Option.some.inj H
        obtain ⟨Ao, co, eo⟩ := Kd.R_slice (Kd.S_R HO.out)
        subst eo
        have h0W : (0 : Int) < (W : Int) := by omega
        clear hs0 H HH
        go_wp2_with (go_at_call 69; (with_reducible refine (steps0 Ao co W _ WS.out.2.1).mono ?_); rintro e w2 ⟨rfl, b2⟩; have B2 := zA (below_step HB.out b2); clear b2)
        go_ret2
        exact ⟨none, 0, rfl, Nat.le_refl _, C0 _, B2.out⟩
      · obtain ⟨g, cg, eg, k1, b1, m1⟩ := Mat.of_R (Kd.S_R HO.out) (by omega)
        have GM := zA b1
        have MT := zA m1
        have CG := zA k1
        have LA := zA (show acc.length < 2 ^ 40 by have := E1.out; have := LM.out; omega)
        subst eg
        clear b1 m1 k1 h0 HO
        by_cases hr : R.1 < W
        · have H := HH.out
          rw [if_pos hr] at H
          obtain rfl := Option.some.inj H
          have hrz : (R.1 : Int) < (W : Int) := by omega
          clear H HH
          go_wp2_with (go_at_call 69; (with_reducible refine (steps.calls w k g cg W acc R _ HB.out GM.out MT.out CG.out LA.out WS.out.2.1 ST.out).mono ?_); rintro e w2 ⟨rfl, _, _, b2⟩; have B2 := zA b2; clear b2)
          go_ret2
          exact ⟨none, 0, rfl, Nat.le_refl _, C0 _, B2.out⟩
        · have H := HH.out
          rw [if_neg hr] at H
          by_cases hg : W ≤ R.2.length ∧ ∀ r ∈ R.2, r.length = W + S
          rotate_left
          · rw [if_neg hg] at H; cases H
          rw [if_pos hg] at H
          have HG := zA hg
          have HF := zA H
          have hrz : ¬ (R.1 : Int) < (W : Int) := by omega
          have hrd : decide (R.1 < W) = false := decide_eq_false hr
          clear H HH hr hg
          go_wp2_with (first | (go_at_call 69; (with_reducible refine (steps.calls w k g cg W acc R _ HB.out GM.out MT.out CG.out LA.out WS.out.2.1 ST.out).mono ?_); rintro e w2 ⟨rfl, m2_, l2_, b2⟩; have B2 := zA b2; have M2 := zA m2_; have L2 := zA l2_; clear b2 m2_ l2_))
          try simp only [hrd]
          have NZ0 := zA (show ∀ j, j < R.2.length → (ro R.2 j).length = W + S from fun j hj => HG.out.2 _ (List.mem_of_mem_drop (ro_mem_drop (Nat.zero_le j) hj)))
          go_loopg [12] (R.2.length - W) (fun gg v12 wr => ∃ j : Nat, v12 = .int .i64 (j : Int) ∧ Aside0 (j + gg = R.2.length ∧ W ≤ j) ∧ Aside0 (loose2 W (R.2.drop W) = loose2 W (R.2.drop j)) ∧ Aside0 (Mat 30 wr g R.2) ∧ Aside0 (Below w.heap.size w wr))
          case atStart => exact ⟨W, rfl, ⟨by have := HG.out.1; omega, Nat.le_refl _⟩, ⟨rfl⟩, M2, B2⟩
          case round =>
            clear MT HB M2 B2
            obtain ⟨j, rfl, F1, F2, MT, HB⟩ := hrel
            cases gk with
            | zero =>
              have hjz : ¬ (j : Int) < (acc.length : Int) := by have := F1.out; have := L2.out; omega
              rename World => w5
              have hz2 : loose2 W (R.2.drop W) = false := by rw [F2.out, List.drop_eq_nil_of_le (by have := F1.out; omega)]; rfl
              have H := HF.out
              rw [hz2, if_neg (by decide)] at H
              have HR := zA H
              clear H hz2 HF
              go_wp2
              go_loopg [14, 15] W (fun gg v14 v15 wq => ∃ (q : Nat) (o : List (List Int)), v15 = .int .i64 (q : Int) ∧ Aside0 (q + gg = W ∧ o.length = q) ∧ Aside0 (o = (R.2.take q).map (·.drop W)) ∧ Aside0 (Kd.S (Kd.slice 5 (Kd.int .u8)) 30 wq w5.heap.size (fun _ => True) v14 o) ∧ Aside0 (Below w5.heap.size w5 wq))
              case atStart => exact ⟨0, [], by simp, ⟨Nat.zero_add _, rfl⟩, ⟨rfl⟩, ⟨Kd.S_nil _ _ _ _ _⟩, ⟨Below.refl _ _⟩⟩
              case round =>
                obtain ⟨q, o, rfl, G1, G2, HO, HB2⟩ := hrel
                cases gk with
                | zero =>
                  have hqz : ¬ (q : Int) < (W : Int) := by have := G1.out; omega
                  obtain ⟨Ao, co, eo⟩ := Kd.R_slice (Kd.S_R HO.out)
                  subst eo
                  obtain rfl : (o, (0 : Int)) = r := by
                    have e : q = W := by have := G1.out; omega
                    have h := HR.out
                    rw [← e] at h
                    rw [G2.out]
                    have := Option.some.inj h
                    rw [← this, e]
                  go_wp2
                  go_ret2
                  exact ⟨Ao, co, rfl, (Kd.S_reads' HO.out).2.1, (Kd.S_reads' HO.out).2.2, below_step HB.out HB2.out⟩
                | succ e =>
                  have hqz : (q : Int) < (W : Int) := by have := G1.out; omega
                  have hqb : (q : Int) ≤ 300 := by have := WS.out; omega
                  have hq : q < R.2.length := by have := G1.out; have := HG.out; omega
                  have hqa : (q : Int) < (acc.length : Int) := by have := L2.out; omega
                  obtain ⟨Aj, cj, xj, lj, Cj⟩ := MT.out.row q hq
                  have hlen := NZ0.out q hq
                  obtain ⟨ad, rfl, _⟩ := Cj.2.2 (by rw [hlen]; have := WS.out; omega)
                  have xj2 := (HB2.out.cell (World.block_lt_of_cell? w5 _ xj)).trans xj
                  have Cj2 := Kd.C_below Cj HB2.out
                  have hc1 : (W : Int) ≤ ((ro R.2 q).length : Int) := by rw [hlen]; omega
                  have hc2 : (W : Int) ≤ (cj : Int) := by rw [hlen] at lj; omega
                  have hc3 : ¬ cj = W := by rw [hlen] at lj; have := WS.out; omega
                  have hc4 : ¬ cj = 0 := by rw [hlen] at lj; have := WS.out; omega
                  have hcd := Kd.C_drop (m := W) (c := cj) Cj2 (by rw [hlen]; omega) lj
                  rw [if_neg hc3, List.length_drop] at hcd
                  obtain ⟨z, hz⟩ : ∃ z, (ro R.2 q).drop W = z := ⟨_, rfl⟩
                  have hmt := map_take W R.2 q hq
                  rw [hz] at hcd hmt
                  rw [show W * (Kd.int .u8).sz = W from Nat.mul_one W] at hcd
                  have DR := zA (show (Kd.int .u8).C wr (some (ad.add W)) ((ro R.2 q).length - W) z from hcd)
                  have HW := zA (show (ro R.2 q).length - W = S by rw [hlen]; omega)
                  have I3 := zA (show o ++ [z] = (R.2.take (q + 1)).map (·.drop W) by rw [hmt, ← G2.out])
                  have ZL := zA (show z.length ≤ 1000 by rw [← hz, List.length_drop, hlen]; have := WS.out; omega)
                  have CJ := zA lj
                  clear hcd hmt hz Cj2 Cj xj hq lj hlen
                  go_wp2_with (first | ((with_reducible refine gate_builtin (b := .append) (xs := #[.const (.slice none 0 0), .tmp 100]) rfl ?_); at_builtin; refine Kd.R_append_rows (Kd.int .u8) (w0 := wr) wr.heap.size rfl (.const (.slice none 0 0)) (.tmp 100) 30 5 (.int .u8 0) 1 rfl Try.underlying30 info5 rfl (by decide) (by omega) (.slice none 0 0) ([] : List Int) z _ _ _ (fun _ => True) (fun _ => False) rfl rfl ?aO ?aR (fun _ _ h => h) (fun _ h => h.elim) ?aF ?aB ?aS ?aL ?_; (case aR => exact DR.out); (case aB => exact Below.refl _ _); (case aF => exact (fun _ _ => trivial)); (case aO => exact ((Kd.R_nil _ _ _ _ (fun _ => True)))); (case aS => exact Nat.le_refl _); (case aL => have := HW.out; have := WS.out; simp only [List.length_nil]; omega); intro v58 w6 ho hb hg hat; rw [List.nil_append] at ho; have HO2 := zA (Kd.S_elder' HO.out (Kd.R_base ho) hb); have HZ := zA (Kd.R_lower ho HB2.out.size); have HB3 := zA (below_step HB2.out hb); obtain ⟨Az, cz, ez⟩ := Kd.R_slice HZ.out; subst ez; clear ho hb hg hat HO HB2) | ((with_reducible refine gate_builtin (b := .append) (xs := #[.tmp 94, .tmp 102]) rfl ?_); at_builtin; refine Kd.S_append (Kd.slice 5 (Kd.int .u8)) (w0 := w5) w5.heap.size rfl (.tmp 94) (.tmp 102) 34 30 (.slice none 0 0) 24 rfl Try.underlying34 info30 rfl (by decide) (by omega) u14 o z [.slice Az z.length cz] (fun _ => True) (fun k_ => some k_ = (.slice Az z.length cz : Value).ownBlock) rfl rfl ?aP (fun k_ hk_ => ((Kd.R_mono (ok' := fun k_ => ((fun _ => True)) k_ ∧ some k_ ≠ (u14 : Value).ownBlock) (Kd.R_apart' (HZ.out) (Kd.S_typed HO2.out) (by decide)) (fun k_ hk => ⟨trivial, hk.2⟩))).1 k_ hk_.symm) ?aF ?aO ?aB ?aS ?aL ?_; (case aP => exact Kd.M_row (Kd.R_mono (Kd.R_tight rfl (Kd.R_mono (ok' := fun k_ => ((fun _ => True)) k_ ∧ some k_ ≠ (u14 : Value).ownBlock) (Kd.R_apart' (HZ.out) (Kd.S_typed HO2.out) (by decide)) (fun k_ hk => ⟨trivial, hk.2⟩))) (fun _ h_ => h_))); (case aB => exact HB3.out); (case aF => exact (fun _ _ => trivial)); (case aO => exact (Kd.S_mono HO2.out (fun k_ hk => ⟨trivial, fun e_ => hk.2 e_⟩))); (case aS => exact HB3.out.size); (case aL => have := G1.out; have := WS.out; omega); intro v60 w7 ho hb hg hat; have HO4 := zA ho; have HB4 := zA hb; clear ho hb hg hat))
                  go_roundg e
                  case measure => omega
                  case rel => exact ⟨q + 1, o ++ [z], by go_num, ⟨by have := G1.out; omega, by have := G1.out; simp; omega⟩, I3, HO4, HB4⟩
            | succ d =>
              have hj : j < R.2.length := by have := F1.out; omega
              have hjz : (j : Int) < (acc.length : Int) := by have := L2.out; omega
              have hjb : (j : Int) < 1099511627776 := by have := LA.out; omega
              have hjl := NZ0.out j hj
              have LJ := zA hjl
              have WS2 := zA WS.out
              clear hj hjl
              go_wp2
              go_loopg [13] S (fun gg v13 wq => ∃ q : Nat, v13 = .int .i64 (q : Int) ∧ Aside0 (q + gg = W + S ∧ W ≤ q) ∧ Aside0 (nzr ((ro R.2 j).drop W) = nzr ((ro R.2 j).drop q)) ∧ Aside0 (Mat 30 wq g R.2) ∧ Aside0 (Below w.heap.size w wq))
              case atStart => exact ⟨W, rfl, ⟨rfl, Nat.le_refl _⟩, ⟨rfl⟩, MT, HB⟩
              case round =>
                clear MT HB
                obtain ⟨q, rfl, G1, G2, MT, HB⟩ := hrel
                have hj : j < R.2.length := by have := F1.out; omega
                cases gk with
                | zero =>
                  have hqs : ¬ (q : Int) < (W : Int) + (S : Int) := by have := G1.out; omega
                  have hnz : nzr ((ro R.2 j).drop W) = false := by rw [G2.out, List.drop_eq_nil_of_le (by rw [LJ.out]; have := G1.out; omega)]; rfl
                  have I3 := zA (show loose2 W (R.2.drop W) = loose2 W (R.2.drop (j + 1)) by rw [F2.out, loose2_step W R.2 j hj, hnz, Bool.false_or])
                  clear hnz hj
                  go_wp2
                  go_roundg d
                  case measure => omega
                  case rel => exact ⟨j + 1, by go_num, ⟨by have := F1.out; omega, by have := F1.out; omega⟩, I3, MT, HB⟩
                | succ e =>
                  have hqs : (q : Int) < (W : Int) + (S : Int) := by have := G1.out; omega
                  have hqb : (q : Int) ≤ 1300 := by have := G1.out; have := WS.out; omega
                  obtain ⟨Aj, cj, xj, lj, Cj⟩ := MT.out.row j hj
                  have hql : (q : Int) < ((ro R.2 j).length : Int) := by have := LJ.out; omega
                  obtain ⟨ad, rfl, hz6⟩ := Kd.at_int Cj (q : Int) (by omega) hql
                  rw [Int.toNat_natCast] at hz6
                  obtain ⟨z, hzz⟩ : ∃ z, rd (ro R.2 j) (q : Int) = z := ⟨_, rfl⟩
                  rw [hzz] at hz6
                  have hst := nzr_step (ro R.2 j) q (by omega)
                  rw [hzz] at hst
                  by_cases z0 : z = 0
                  · have z1 : (z == 0) = true := beq_iff_eq.2 z0
                    have z2 : (z != 0) = false := bne_eq_false_iff_eq.2 z0
                    have I3 := zA (show nzr ((ro R.2 j).drop W) = nzr ((ro R.2 j).drop (q + 1)) by rw [G2.out, hst, decide_eq_false (fun k => k z0), Bool.false_or])
                    clear hst z0 hzz lj Cj hj
                    go_wp2
                    go_roundg e
                    case measure => omega
                    case rel => exact ⟨q + 1, by go_num, ⟨by have := G1.out; omega, by have := G1.out; omega⟩, I3, MT, HB⟩
                  · have z1 : (z == 0) = false := beq_eq_false_iff_ne.2 z0
                    have z2 : (z != 0) = true := bne_iff_ne.2 z0
                    have hl : loose2 W (R.2.drop W) = true := by rw [F2.out, loose2_step W R.2 j hj, G2.out, hst, decide_eq_true z0]; rfl
                    have H := HF.out
                    rw [if_pos hl] at H
                    obtain rfl := Option.some.inj H
                    clear H hl hst z0 hzz lj Cj hj HF
                    go_wp2
                    go_ret2
                    exact ⟨none, 0, rfl, Nat.le_refl _, C0 _, HB.out⟩
    | succ d =>
      have hz : (i : Int) < (M.length : Int) := by have := E1.out; omega
      have hzd : (i : Int) < (D.length : Int) := by have := E1.out; have := HLM.out; omega
      have hib : (i : Int) < 1099511627776 := by have := LM.out; omega
      have H := HA.out
      clear HA
      unfold rsums at H
      obtain ⟨x, SX_, H⟩ := Option.bind_eq_some_iff.mp H
      obtain ⟨y, SY_, H⟩ := Option.bind_eq_some_iff.mp H
      by_cases hxy : x.length = W ∧ y.length = S
      rotate_left
      · rw [if_neg hxy] at H; cases H
      rw [if_pos hxy] at H
      have SX := zA SX_
      have SY := zA SY_
      have HN := zA H
      have XY := zA hxy
      clear SX_ SY_ H hxy
      obtain ⟨adm, Am, cm, e, xm, lm, Cm⟩ := Cf.at_L1 HM.out (i : Int) (by omega) (by omega)
      cases e
      obtain ⟨add, Ad, cd, e, xd, ld, Cd⟩ := Cf.at_L1 HD.out (i : Int) (by omega) (by omega)
      cases e
      rw [rd_ro] at xm lm Cm xd ld Cd
      rw [Int.toNat_natCast] at xm xd
      have L1 := zA (And.intro lm ld)
      have CM := zA (show RowC w Am (ro M i) from Cm)
      have CD := zA (show RowC w Ad (ro D i) from Cd)
      have HO1 := zA (Kd.S_drew HO.out)
      have HB1 := zA HB.out.drew
      clear lm ld Cm Cd HO HB
      go_upto_region 7 with (fail)
      refine start_ (n := 19) (S := fun w' => Below w.heap.size w w') (ds := []) (ms 19 0) (by kernel_rfl) rfl rfl HB1.out (fun hHeld => ?_); refine with_tabW tab7 bits7 (fun HT_ HW_ => ?_)
      generalize wr.drew = w1 at HO1 HB1 hHeld ⊢
      refine run_ [(0, false, some 43), (1, false, some 44), (2, false, some 45), (3, false, some 46), (4, false, some 47), (5, true, some 48), (8, false, some 51), (9, false, some 52), (10, false, some 53), (11, false, some 54), (12, true, some 55)] (n := 11) (ms 19 7999) rfl HT_.out HW_.out (by kernel_rfl) (fun _ _ _ _ h => h) hHeld ?_
      repeat (first | (refine Run.p (v := ?_) (a' := ?_) rfl rfl (Or.inl ⟨by rfl, ?_⟩) ?_ ?_; rotate_left; (focus intro w'; go_simp; with_reducible rfl); rotate_left; (focus simp only [Act.put, sx]; rfl)) | (refine Run.t (v := ?_) (a' := ?_) rfl rfl (Or.inl ⟨by rfl, ?_⟩) ?_ ?_; rotate_left; (focus intro w' hS; have s0 := (hS.cell (World.block_lt_of_cell? w _ xm)).trans xm; have s1 := (hS.cell (World.block_lt_of_cell? w _ xd)).trans xd; go_simp; with_reducible rfl); rotate_left; (focus simp only [Act.put, sx]; rfl)))
      refine Run.nil ?_
      clear xm xd
      refine join_ (σ := Value × Value × Value × Value) 4 (ms 19 32767) (fun s => [(49, s.1), (50, s.2.1), (56, s.2.2.1), (57, s.2.2.2)]) (fun s w' => Aside0 (Below w.heap.size w w') ∧ Aside0 (Below w1.heap.size w1 w') ∧ Aside0 ((Kd.int .u8).R 5 w' w1.heap.size (fun _ => True) s.2.1 x) ∧ Aside0 ((Kd.int .u8).R 5 w' w1.heap.size (fun _ => True) s.2.2.2 y)) ?_ ?_
      · clear hHeld
        rintro ⟨s49, s50, s56, s57⟩ w2 ⟨hHeld_, B2, X2, Y2⟩
        have hHeld := hHeld_.out
        refine norm_ (a' := ?_) ?_ ?_
        rotate_left
        · show putAll _ [_, _, _, _] = _
          simp only [putAll, Act.put, sx]
          rfl
        clear hHeld_
        obtain ⟨Ay, cy, ey⟩ := Kd.R_slice Y2.out
        subst ey
        obtain ⟨z, hz_⟩ : ∃ z, x ++ y = z := ⟨_, rfl⟩
        have HN_ := HN.out
        rw [hz_] at HN_
        have HN2 := zA HN_
        have EZ := zA hz_
        clear hz_ HN_ HN
        refine one_ (i := 15) (N := some 58) (ms 19 65535) rfl rfl (one_of HT_.out (by kernel_rfl)) (by decide) (fun K hK => ?_)
        refine Kd.R_append_rows_step (Kd.int .u8) (w0 := w1) w1.heap.size (by rfl) (.tmp 50) (.tmp 57) 30 5 (.int .u8 0) 1 rfl Try.underlying30 info5 rfl (by decide) (by omega) s50 x y _ _ _ (fun _ => True) (fun _ => False) rfl rfl ?aO ?aR (fun _ _ h => h) (fun _ h => h.elim) ?aF ?aB ?aS ?aL ?_
        (case aR => exact (Kd.R_reads' Y2.out).2.2)
        (case aB => exact B2.out)
        (case aF => exact (fun _ _ => trivial))
        (case aO => exact X2.out)
        (case aS => exact B2.out.size)
        (case aL => have := XY.out; have := WS.out; omega)
        intro v58 w3 ho hb hg hat
        rw [EZ.out] at ho
        have B3 := zA hb
        have HB3 := zA (below_step HB1.out hb)
        have HO3 := zA (Kd.S_elder' HO1.out (Kd.R_base ho) hb)
        have Z3 := zA (Kd.R_lower ho HB1.out.size)
        obtain ⟨Az, cz, ez⟩ := Kd.R_slice Z3.out
        subst ez
        refine hK.out _ _ HB3.out (fun hHeld => ?_)
        clear hK K ho hb hg hat X2 Y2 B2 HO1
        refine norm_ (a' := ?_) ?_ ?_
        rotate_left
        · show Act.put _ (some 58) _ = _
          simp only [Act.put, sx]
          rfl
        refine one_ (i := 16) (N := some 59) (ms 19 131071) rfl rfl (one_of HT_.out (by kernel_rfl)) (by decide) (fun K hK => ?_)
        refine value_ (w1 := ?_) (v := ?_) (by rfl) rfl ?_ ?_
        rotate_left 2
        · go_simp
          constructor
          · rfl
          · rfl
        refine hK.out _ _ (below_alloc HB3.out _) (fun hHeld => ?_)
        clear hK K
        refine norm_ (a' := ?_) ?_ ?_
        rotate_left
        · show Act.put _ (some 59) _ = _
          simp only [Act.put, sx]
          rfl
        refine one_ (i := 17) (N := some 60) (ms 19 262143) rfl rfl (one_of HT_.out (by kernel_rfl)) (by decide) (fun K hK => ?_)
        refine Kd.S_append_step (Kd.slice 5 (Kd.int .u8)) (w0 := w) w.heap.size (by rfl) (.tmp 43) (.tmp 59) 34 30 (.slice none 0 0) 24 rfl Try.underlying34 info30 rfl (by decide) (by omega) u10 acc z [.slice Az z.length cz] (fun _ => True) (fun k_ => some k_ = (.slice Az z.length cz : Value).ownBlock) rfl rfl ?aP (fun k_ hk_ => ((Kd.R_mono (ok' := fun k_ => ((fun _ => True)) k_ ∧ some k_ ≠ (u10 : Value).ownBlock) (Kd.R_apart' (Z3.out) (Kd.S_typed HO3.out) (by decide)) (fun k_ hk => ⟨trivial, hk.2⟩))).1 k_ hk_.symm) ?aF ?aO ?aB ?aS ?aL ?_
        (case aP => exact Kd.M_row (Kd.R_mono (Kd.R_tight rfl (Kd.R_mono (ok' := fun k_ => ((fun _ => True)) k_ ∧ some k_ ≠ (u10 : Value).ownBlock) (Kd.R_apart' (Z3.out) (Kd.S_typed HO3.out) (by decide)) (fun k_ hk => ⟨trivial, hk.2⟩))) (fun _ h_ => h_)))
        (case aB => exact HB3.out)
        (case aF => exact (fun _ _ => trivial))
        (case aO => exact (Kd.S_mono HO3.out (fun k_ hk => ⟨trivial, fun e_ => hk.2 e_⟩)))
        (case aS => exact HB3.out.size)
        (case aL => have := E1.out; have := LM.out; omega)
        intro v60 w4 ho hb hg hat
        have HO4 := zA ho
        have HB4 := zA hb
        refine hK.out _ _ HB4.out (fun hHeld => ?_)
        clear hK K ho hb hg hat HO3 Z3 B3 HB3
        refine norm_ (a' := ?_) ?_ ?_
        rotate_left
        · show Act.put _ (some 60) _ = _
          simp only [Act.put, sx]
          rfl
        refine pure_ (i := 18) (N := some 10) (v := ?_) (a' := ?_) (ms 19 524287) rfl rfl (any_of HT_.out (by kernel_rfl)) (fun _ _ _ h => h) (Or.inl ⟨by rfl, ?_⟩) ?_ ?_
        rotate_left
        · intro w'
          go_simp
          with_reducible rfl
        rotate_left
        · simp only [Act.put, sx]
          rfl
        refine done_ (done_of HT_.out (by kernel_rfl)) ?_
        clear HT_ HW_
        go_wp2
        go_roundg d
        case measure => omega
        case rel => exact ⟨i + 1, acc ++ [z], by go_num, ⟨by have := E1.out; omega, by have := E1.out; simp; omega⟩, HN2, HO4, HB4⟩
      · intro hJ
        have HJ := zA hJ
        have B1 := zA (Below.refl w1.heap.size w1)
        clear hJ
        refine two_ (i := 6) (j := 13) (Ni := some 49) (Nj := some 56) (ms 19 8063) (ms 19 16191) rfl rfl rfl rfl (two_of HT_.out (by kernel_rfl)) (by decide) (by decide) (fun K hK => ?_) (fun K hK => ?_)
        · refine value_ (w1 := ?_) (v := ?_) (by rfl) rfl ?_ ?_
          rotate_left 2
          · go_simp
            constructor
            · rfl
            · rfl
          have CLm := zA (C_lit1 (Kd.C_below CM.out hHeld) L1.out.1)
          have B1_ := zA (below_alloc B1.out (.cells #[.slice Am (ro M i).length cm] 30))
          clear B1
          have B1 := B1_
          clear B1_
          refine hK.out _ _ (below_alloc hHeld _) (fun hHeld => ?_)
          clear hK K
          refine norm_ (a' := ?_) ?_ ?_
          rotate_left
          · show Act.put _ (some 49) _ = _
            simp only [Act.put, sx]
            rfl
          generalize hG_ : (⟨w1.heap.size, 0, none⟩ : Addr) = q_ at CLm ⊢
          clear hG_
          generalize hG_ : (some q_ : Option Addr) = Gm at CLm ⊢
          clear hG_ q_
          generalize hG_ : w1.alloc (.cells #[.slice Am (ro M i).length cm] 30) = w2 at hHeld B1 CLm ⊢
          clear hG_
          refine two_ (i := 7) (j := 13) (Ni := some 50) (Nj := some 56) (ms 19 8191) (ms 19 16255) rfl rfl rfl rfl (two_of HT_.out (by kernel_rfl)) (by decide) (by decide) (fun K hK => ?_) (fun K hK => ?_)
          · refine goes_ Try.func34 (by kernel_rfl) rfl #[.int .i64 (W : Int), .slice Gm 1 1] (by rfl) rfl rfl (by (try simp only [List.map_toArray, List.map_cons, List.map_nil]); first | done | rfl) ?_
            with_reducible refine (sumC k (W : Int) CLm.out SX.out).mono ?_
            rintro e w3 ⟨vm, rfl, ho_, hb_⟩
            refine ⟨_, rfl, ?_⟩
            have Rm := zA (Kd.R_lower ho_ B1.out.size)
            have B1_ := zA (below_step B1.out hb_)
            clear B1
            have B1 := B1_
            clear B1_
            clear CLm
            refine hK.out _ _ (below_step hHeld hb_) (fun hHeld => ?_)
            clear hK K ho_ hb_
            refine norm_ (a' := ?_) ?_ ?_
            rotate_left
            · show Act.put _ (some 50) _ = _
              simp only [Act.put, sx]
              rfl
            refine one_ (i := 13) (N := some 56) (ms 19 16383) rfl rfl (one_of HT_.out (by kernel_rfl)) (by decide) (fun K hK => ?_)
            refine value_ (w1 := ?_) (v := ?_) (by rfl) rfl ?_ ?_
            rotate_left 2
            · go_simp
              constructor
              · rfl
              · rfl
            have CLd := zA (C_lit1 (Kd.C_below CD.out hHeld) L1.out.2)
            have Rm_ := zA (Kd.R_below Rm.out (below_alloc (Below.refl _ _) (.cells #[.slice Ad (ro D i).length cd] 30)))
            clear Rm
            have Rm := Rm_
            clear Rm_
            have B1_ := zA (below_alloc B1.out (.cells #[.slice Ad (ro D i).length cd] 30))
            clear B1
            have B1 := B1_
            clear B1_
            refine hK.out _ _ (below_alloc hHeld _) (fun hHeld => ?_)
            clear hK K
            refine norm_ (a' := ?_) ?_ ?_
            rotate_left
            · show Act.put _ (some 56) _ = _
              simp only [Act.put, sx]
              rfl
            generalize hG_ : (⟨w3.heap.size, 0, none⟩ : Addr) = q_ at CLd ⊢
            clear hG_
            generalize hG_ : (some q_ : Option Addr) = Gd at CLd ⊢
            clear hG_ q_
            generalize hG_ : w3.alloc (.cells #[.slice Ad (ro D i).length cd] 30) = w4 at hHeld B1 Rm CLd ⊢
            clear hG_
            refine one_ (i := 14) (N := some 57) (ms 19 32767) rfl rfl (one_of HT_.out (by kernel_rfl)) (by decide) (fun K hK => ?_)
            refine goes_ Try.func34 (by kernel_rfl) rfl #[.int .i64 (S : Int), .slice Gd 1 1] (by rfl) rfl rfl (by (try simp only [List.map_toArray, List.map_cons, List.map_nil]); first | done | rfl) ?_
            with_reducible refine (sumC k (S : Int) CLd.out SY.out).mono ?_
            rintro e w5 ⟨vd, rfl, ho_, hb_⟩
            refine ⟨_, rfl, ?_⟩
            have Rd := zA (Kd.R_lower ho_ B1.out.size)
            have Rm_ := zA (Kd.R_below Rm.out hb_)
            clear Rm
            have Rm := Rm_
            clear Rm_
            have B1_ := zA (below_step B1.out hb_)
            clear B1
            have B1 := B1_
            clear B1_
            clear CLd
            refine hK.out _ _ (below_step hHeld hb_) (fun hHeld => ?_)
            clear hK K ho_ hb_
            refine norm_ (a' := ?_) ?_ ?_
            rotate_left
            · show Act.put _ (some 57) _ = _
              simp only [Act.put, sx]
              rfl
            have hj_ := HJ.out (.slice Gm 1 1, vm, .slice Gd 1 1, vd) _ ⟨⟨hHeld⟩, B1, Rm, Rd⟩
            simp only [putAll, Act.put, sx] at hj_
            exact hj_
          · refine value_ (w1 := ?_) (v := ?_) (by rfl) rfl ?_ ?_
            rotate_left 2
            · go_simp
              constructor
              · rfl
              · rfl
            have CLd := zA (C_lit1 (Kd.C_below CD.out hHeld) L1.out.2)
            have CLm_ := zA (Kd.C_below CLm.out (below_alloc (Below.refl _ _) (.cells #[.slice Ad (ro D i).length cd] 30)))
            clear CLm
            have CLm := CLm_
            clear CLm_
            have B1_ := zA (below_alloc B1.out (.cells #[.slice Ad (ro D i).length cd] 30))
            clear B1
            have B1 := B1_
            clear B1_
            refine hK.out _ _ (below_alloc hHeld _) (fun hHeld => ?_)
            clear hK K
            refine norm_ (a' := ?_) ?_ ?_
            rotate_left
            · show Act.put _ (some 56) _ = _
              simp only [Act.put, sx]
              rfl
            generalize hG_ : (⟨w2.heap.size, 0, none⟩ : Addr) = q_ at CLd ⊢
            clear hG_
            generalize hG_ : (some q_ : Option Addr) = Gd at CLd ⊢
            clear hG_ q_
            generalize hG_ : w2.alloc (.cells #[.slice Ad (ro D i).length cd] 30) = w3 at hHeld B1 CLm CLd ⊢
            clear hG_
            refine one_ (i := 7) (N := some 50) (ms 19 16383) rfl rfl (one_of HT_.out (by kernel_rfl)) (by decide) (fun K hK => ?_)
            refine goes_ Try.func34 (by kernel_rfl) rfl #[.int .i64 (W : Int), .slice Gm 1 1] (by rfl) rfl rfl (by (try simp only [List.map_toArray, List.map_cons, List.map_nil]); first | done | rfl) ?_
            with_reducible refine (sumC k (W : Int) CLm.out SX.out).mono ?_
            rintro e w4 ⟨vm, rfl, ho_, hb_⟩
            refine ⟨_, rfl, ?_⟩
            have Rm := zA (Kd.R_lower ho_ B1.out.size)
            have CLd_ := zA (Kd.C_below CLd.out hb_)
            clear CLd
            have CLd := CLd_
            clear CLd_
            have B1_ := zA (below_step B1.out hb_)
            clear B1
            have B1 := B1_
            clear B1_
            clear CLm
            refine hK.out _ _ (below_step hHeld hb_) (fun hHeld => ?_)
            clear hK K ho_ hb_
            refine norm_ (a' := ?_) ?_ ?_
            rotate_left
            · show Act.put _ (some 50) _ = _
              simp only [Act.put, sx]
              rfl
            refine one_ (i := 14) (N := some 57) (ms 19 32767) rfl rfl (one_of HT_.out (by kernel_rfl)) (by decide) (fun K hK => ?_)
            refine goes_ Try.func34 (by kernel_rfl) rfl #[.int .i64 (S : Int), .slice Gd 1 1] (by rfl) rfl rfl (by (try simp only [List.map_toArray, List.map_cons, List.map_nil]); first | done | rfl) ?_
            with_reducible refine (sumC k (S : Int) CLd.out SY.out).mono ?_
            rintro e w5 ⟨vd, rfl, ho_, hb_⟩
            refine ⟨_, rfl, ?_⟩
            have Rd := zA (Kd.R_lower ho_ B1.out.size)
            have Rm_ := zA (Kd.R_below Rm.out hb_)
            clear Rm
            have Rm := Rm_
            clear Rm_
            have B1_ := zA (below_step B1.out hb_)
            clear B1
            have B1 := B1_
            clear B1_
            clear CLd
            refine hK.out _ _ (below_step hHeld hb_) (fun hHeld => ?_)
            clear hK K ho_ hb_
            refine norm_ (a' := ?_) ?_ ?_
            rotate_left
            · show Act.put _ (some 57) _ = _
              simp only [Act.put, sx]
              rfl
            have hj_ := HJ.out (.slice Gm 1 1, vm, .slice Gd 1 1, vd) _ ⟨⟨hHeld⟩, B1, Rm, Rd⟩
            simp only [putAll, Act.put, sx] at hj_
            exact hj_
        · refine value_ (w1 := ?_) (v := ?_) (by rfl) rfl ?_ ?_
          rotate_left 2
          · go_simp
            constructor
            · rfl
            · rfl
          have CLd := zA (C_lit1 (Kd.C_below CD.out hHeld) L1.out.2)
          have B1_ := zA (below_alloc B1.out (.cells #[.slice Ad (ro D i).length cd] 30))
          clear B1
          have B1 := B1_
          clear B1_
          refine hK.out _ _ (below_alloc hHeld _) (fun hHeld => ?_)
          clear hK K
          refine norm_ (a' := ?_) ?_ ?_
          rotate_left
          · show Act.put _ (some 56) _ = _
            simp only [Act.put, sx]
            rfl
          generalize hG_ : (⟨w1.heap.size, 0, none⟩ : Addr) = q_ at CLd ⊢
          clear hG_
          generalize hG_ : (some q_ : Option Addr) = Gd at CLd ⊢
          clear hG_ q_
          generalize hG_ : w1.alloc (.cells #[.slice Ad (ro D i).length cd] 30) = w2 at hHeld B1 CLd ⊢
          clear hG_
          refine one_ (i := 6) (N := some 49) (ms 19 16255) rfl rfl (one_of HT_.out (by kernel_rfl)) (by decide) (fun K hK => ?_)
          refine value_ (w1 := ?_) (v := ?_) (by rfl) rfl ?_ ?_
          rotate_left 2
          · go_simp
            constructor
            · rfl
            · rfl
          have CLm := zA (C_lit1 (Kd.C_below CM.out hHeld) L1.out.1)
          have CLd_ := zA (Kd.C_below CLd.out (below_alloc (Below.refl _ _) (.cells #[.slice Am (ro M i).length cm] 30)))
          clear CLd
          have CLd := CLd_
          clear CLd_
          have B1_ := zA (below_alloc B1.out (.cells #[.slice Am (ro M i).length cm] 30))
          clear B1
          have B1 := B1_
          clear B1_
          refine hK.out _ _ (below_alloc hHeld _) (fun hHeld => ?_)
          clear hK K
          refine norm_ (a' := ?_) ?_ ?_
          rotate_left
          · show Act.put _ (some 49) _ = _
            simp only [Act.put, sx]
            rfl
          generalize hG_ : (⟨w2.heap.size, 0, none⟩ : Addr) = q_ at CLm ⊢
          clear hG_
          generalize hG_ : (some q_ : Option Addr) = Gm at CLm ⊢
          clear hG_ q_
          generalize hG_ : w2.alloc (.cells #[.slice Am (ro M i).length cm] 30) = w3 at hHeld B1 CLd CLm ⊢
          clear hG_
          refine one_ (i := 7) (N := some 50) (ms 19 16383) rfl rfl (one_of HT_.out (by kernel_rfl)) (by decide) (fun K hK => ?_)
          refine goes_ Try.func34 (by kernel_rfl) rfl #[.int .i64 (W : Int), .slice Gm 1 1] (by rfl) rfl rfl (by (try simp only [List.map_toArray, List.map_cons, List.map_nil]); first | done | rfl) ?_
          with_reducible refine (sumC k (W : Int) CLm.out SX.out).mono ?_
          rintro e w4 ⟨vm, rfl, ho_, hb_⟩
          refine ⟨_, rfl, ?_⟩
          have Rm := zA (Kd.R_lower ho_ B1.out.size)
          have CLd_ := zA (Kd.C_below CLd.out hb_)
          clear CLd
          have CLd := CLd_
          clear CLd_
          have B1_ := zA (below_step B1.out hb_)
          clear B1
          have B1 := B1_
          clear B1_
          clear CLm
          refine hK.out _ _ (below_step hHeld hb_) (fun hHeld => ?_)
          clear hK K ho_ hb_
          refine norm_ (a' := ?_) ?_ ?_
          rotate_left
          · show Act.put _ (some 50) _ = _
            simp only [Act.put, sx]
            rfl
          refine one_ (i := 14) (N := some 57) (ms 19 32767) rfl rfl (one_of HT_.out (by kernel_rfl)) (by decide) (fun K hK => ?_)
          refine goes_ Try.func34 (by kernel_rfl) rfl #[.int .i64 (S : Int), .slice Gd 1 1] (by rfl) rfl rfl (by (try simp only [List.map_toArray, List.map_cons, List.map_nil]); first | done | rfl) ?_
          with_reducible refine (sumC k (S : Int) CLd.out SY.out).mono ?_
          rintro e w5 ⟨vd, rfl, ho_, hb_⟩
          refine ⟨_, rfl, ?_⟩
          have Rd := zA (Kd.R_lower ho_ B1.out.size)
          have Rm_ := zA (Kd.R_below Rm.out hb_)
          clear Rm
          have Rm := Rm_
          clear Rm_
          have B1_ := zA (below_step B1.out hb_)
          clear B1
          have B1 := B1_
          clear B1_
          clear CLd
          refine hK.out _ _ (below_step hHeld hb_) (fun hHeld => ?_)
          clear hK K ho_ hb_
          refine norm_ (a' := ?_) ?_ ?_
          rotate_left
          · show Act.put _ (some 57) _ = _
            simp only [Act.put, sx]
            rfl
          have hj_ := HJ.out (.slice Gm 1 1, vm, .slice Gd 1 1, vd) _ ⟨⟨hHeld⟩, B1, Rm, Rd⟩
          simp only [putAll, Act.put, sx] at hj_
          exact hj_
end Go.Proofs.Ytbfhinfblepidaa.RsSolveTells
