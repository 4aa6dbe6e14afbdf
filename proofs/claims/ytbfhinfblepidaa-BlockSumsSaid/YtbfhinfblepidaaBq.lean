/- What the blocks come to, in rows of elements: the program's and the document's are one. Conditions: those that stand in the theorems. -/
import Derived.Test.YtbfhinfblepidaaSm
import Derived.Test.YtbfhinfblepidaaSd
import Derived.Test.YtbfhinfblepidaaPa
import Derived.Test.YtbfhinfblepidaaBr
namespace Go.Proofs.Ytbfhinfblepidaa.Bp
open Go.RowKit Go.Proofs.Ytbfhinfblepidaa.PSolveTells Go.Proofs.Ytbfhinfblepidaa.PSeedTells Go.Proofs.Ytbfhinfblepidaa.PBlockTells Go.Proofs.YtbfhinfblepidaaW.PrintWords Go.Proofs.YtbfhinfblepidaaW.PrintLast Go.Proofs.Ytbfhinfblepidaa.Gf Go.Proofs.Ytbfhinfblepidaa.Rw Go.Proofs.Ytbfhinfblepidaa.Pc Go.Proofs.Ytbfhinfblepidaa.La Go.Proofs.Ytbfhinfblepidaa.Sv Go.Proofs.Ytbfhinfblepidaa.FSolveTells Go.Proofs.Ytbfhinfblepidaa.FSeedTells Go.Proofs.Ytbfhinfblepidaa.Sl Go.Proofs.Ytbfhinfblepidaa.Sd Go.Proofs.Ytbfhinfblepidaa.Mt Go.Proofs.Ytbfhinfblepidaa.Bs Go.Proofs.Ytbfhinfblepidaa.Bn Go.Proofs.Ytbfhinfblepidaa.Br

/-! ### a symbol -/
set_option linter.unusedVariables false
set_option linter.unusedSectionVars false
theorem rd_iN {l : List Nat} {i x : Nat} (h : l[i]? = some x) : rd (iN l) (i : Int) = (x : Int) := by
  unfold rd iN; rw [Int.toNat_natCast, List.getD_eq_getElem?_getD, List.getElem?_map, h]; rfl
theorem L1_tll (P : List (List F)) (x : Nat) : rd_L1 (tll P) (x : Int) = tl (row P x) := by
  have := ro_tll P x
  unfold rd_L1; rw [Int.toNat_natCast]; exact this
def dropR (z : Nat) (P : List (List F)) (ps : List Nat) : List F := sumR z (ps.map (row P))
theorem tl1 (L : List (List F)) (y : List F) : tll L ++ [tl y] = tll (L ++ [y]) := by unfold tll; rw [List.map_append]; rfl
section
variable (z : Nat) (hz : z ≤ 64) (P : List (List F)) (hP : ∀ r ∈ P, r.length < 2 ^ 50) (hPl : P.length < 2 ^ 30) (ps : List Nat) (hps : ∀ x ∈ ps, x < P.length) (hpl : ps.length < 2 ^ 30)
include hz hP hPl hps hpl
theorem sum_rows (L : List (List F)) (hL : L = ps.map (row P)) : Ev (fun k => rows_Sum.f k (z : Int) (tll L)) (tl (dropR z P ps)) := by
  have h := sum_ev (z : Int) L (by rw [hL, List.length_map]; omega) (fun r hr => by
    rw [hL] at hr
    obtain ⟨x, hx, rfl⟩ := List.mem_map.1 hr
    exact hP _ (row_mem (hps x hx)))
  rw [show cutN (z : Int) = z from by unfold cutN; omega, hL] at h
  rw [hL]; exact h
theorem rsum_rows (L : List (List F)) (hL : L = ps.map (row P)) : Ev (fun k => fountainref1_Sum.f k (z : Int) (tll L)) (tl (dropR z P ps)) := by
  have h := rsum_ev (z : Int) L (by rw [hL, List.length_map]; omega)
  rw [show cutN (z : Int) = z from by unfold cutN; omega, hL] at h
  rw [hL]; exact h
theorem drop_l0 (t : List Nat) : ∀ pre : List Nat, ps = pre ++ t → Ev (fun k => drops_Drop.l0 k (z : Int) (tll P) (tll (pre.map (row P))) (iN ps) (ps.length : Int) (pre.length : Int)) (tl (dropR z P ps)) := by
  induction t with
  | nil =>
    intro pre hp
    rw [List.append_nil] at hp
    refine Ev.step (fun k => by simp only [drops_Drop.l0]; rfl) ?_
    refine ev_neg (by rw [hp]; omega) (Ev.bind (sum_rows z hz P hP hPl ps hps hpl _ (by rw [hp])) (Ev.now _))
  | cons x t ih =>
    intro pre hp
    have hlen : ps.length = pre.length + (t.length + 1) := by rw [hp]; simp
    have hx : ps[pre.length]? = some x := by rw [hp, List.getElem?_append_right (Nat.le_refl _), Nat.sub_self]; rfl
    have hxl := hps x (by rw [hp]; simp)
    refine Ev.step (fun k => by simp only [drops_Drop.l0]; rfl) ?_
    refine ev_pos (by omega) (ev_pos (by omega) (ev_pos (by rw [iN_length]; omega) ?_))
    rw [rd_iN hx]
    refine ev_pos (by omega) (ev_pos (by rw [tll_length]; omega) (ev_pos (by rw [tll_length, List.length_map]; omega) ?_))
    rw [L1_tll, tl1, w64 (i := (pre.length : Int) + 1) (by omega) (by omega), show (pre.length : Int) + 1 = ((pre.length + 1 : Nat) : Int) from by omega]
    have := ih (pre ++ [x]) (by rw [hp, List.append_assoc]; rfl)
    rw [List.length_append, List.length_singleton, List.map_append] at this
    exact this
theorem rdrop_l0 (t : List Nat) : ∀ pre : List Nat, ps = pre ++ t → Ev (fun k => fountainref1_Drop.l0 k (z : Int) (tll P) (iN ps) (tll (pre.map (row P))) (pre.length : Int)) (tl (dropR z P ps)) := by
  induction t with
  | nil =>
    intro pre hp
    rw [List.append_nil] at hp
    refine Ev.step (fun k => by simp only [fountainref1_Drop.l0]; rfl) ?_
    refine ev_neg (by rw [iN_length, hp]; omega) (Ev.bind (rsum_rows z hz P hP hPl ps hps hpl _ (by rw [hp])) (Ev.now _))
  | cons x t ih =>
    intro pre hp
    have hlen : ps.length = pre.length + (t.length + 1) := by rw [hp]; simp
    have hx : ps[pre.length]? = some x := by rw [hp, List.getElem?_append_right (Nat.le_refl _), Nat.sub_self]; rfl
    have hxl := hps x (by rw [hp]; simp)
    refine Ev.step (fun k => by simp only [fountainref1_Drop.l0]; rfl) ?_
    refine ev_pos (by rw [iN_length]; omega) (ev_pos (by omega) ?_)
    rw [rd_iN hx]
    refine ev_pos (by omega) (ev_pos (by rw [tll_length]; omega) (ev_pos (by rw [tll_length, List.length_map]; omega) ?_))
    rw [L1_tll, tl1, w64 (i := (pre.length : Int) + 1) (by omega) (by omega), show (pre.length : Int) + 1 = ((pre.length + 1 : Nat) : Int) from by omega]
    have := ih (pre ++ [x]) (by rw [hp, List.append_assoc]; rfl)
    rw [List.length_append, List.length_singleton, List.map_append] at this
    exact this
end
/-- A block's symbol, of parts that are as many as they should be. -/
def symR (n j z : Nat) (P : List (List F)) (esi : Int) : List Int × Int :=
  if esi < 0 ∨ 16777216 ≤ esi then ([], 1) else if P.length = kL n then (tl (dropR z P (parts n j esi.toNat)), 0) else ([], 0)
theorem dOf_le (n j e : Nat) : dOf n j e ≤ kW n := by unfold dOf; omega
theorem kW_le {n : Nat} (h2 : n ≤ 40) : kW n ≤ 47 := by unfold kW kS; omega
theorem sym_ev {n j z : Nat} (h1 : 1 ≤ n) (h2 : n ≤ 40) (hj : j ≤ 255) (hz1 : 1 ≤ z) (hz : z ≤ 64) (P : List (List F)) (hP : ∀ r ∈ P, r.length < 2 ^ 50) (esi : Int) :
    Ev (fun k => sym.f k (n : Int) ((kS n : Nat) : Int) 2 (j : Int) (z : Int) (tll P) esi) (symR n j z P esi) ∧ Ev (fun k => rsym.f k (n : Int) (j : Int) (z : Int) (tll P) esi) (symR n j z P esi) := by
  unfold symR sym.f rsym.f
  by_cases hb : esi < 0 ∨ 16777216 ≤ esi
  · exact ⟨ev_ip hb (ev_pos hb (Ev.now _)), ev_ip hb (ev_pos hb (Ev.now _))⟩
  obtain ⟨e, rfl⟩ : ∃ e : Nat, esi = (e : Int) := ⟨esi.toNat, by omega⟩
  rw [Int.toNat_natCast]
  have he : e < 16777216 := by omega
  have hpl := parts_length n j e
  have hd := dOf_le n j e
  have hk := kW_le h2
  have hne : ¬ (((iN (parts n j e)).length : Int) = 0) := by rw [iN_length, hpl]; omega
  have hlt := parts_lt n j e
  refine ⟨ev_in hb (ev_neg hb ?_), ev_in hb (ev_neg hb ?_)⟩
  · unfold drops_Drop.f
    by_cases hl : P.length = kL n
    · refine ev_ip hl ?_
      have hx : Ev (fun k => (tuple_Parts.f k (n : Int) ((kS n : Nat) : Int) 2 (j : Int) (e : Int)).bind fun t300 => (if (t300.length : Int) = 0 then (drops_Drop.j0 k (z : Int) (tll P) t300 true) else ((params_Params_L.f (n : Int) ((kS n : Nat) : Int) 2).bind fun t303 => (if ((tll P).length : Int) = t303 then (if (z : Int) < 1 then (drops_Drop.j0 k (z : Int) (tll P) t300 true) else (drops_Drop.j0 k (z : Int) (tll P) t300 (decide ((z : Int) > 64)))) else (drops_Drop.j0 k (z : Int) (tll P) t300 true))))) (tl (dropR z P (parts n j e))) := by
        refine Ev.bind (parts_ev h1 h2 hj he) (ev_neg hne (ev_val (l_ok h2) (ev_pos (by rw [tll_length]; omega) (ev_neg (by omega) ?_))))
        rw [decide_eq_false (show ¬ (z : Int) > 64 by omega)]
        refine Ev.step (fun k => by simp only [drops_Drop.j0]; rfl) ?_
        refine ev_neg (by decide) ?_
        rw [iN_length]
        exact drop_l0 z hz P hP (by have := kL_le h2; omega) (parts n j e) (fun x hx => by rw [hl]; exact hlt x hx) (by omega) (parts n j e) [] rfl
      exact Ev.bind hx (Ev.now _)
    · refine ev_in hl ?_
      have hx : Ev (fun k => (tuple_Parts.f k (n : Int) ((kS n : Nat) : Int) 2 (j : Int) (e : Int)).bind fun t300 => (if (t300.length : Int) = 0 then (drops_Drop.j0 k (z : Int) (tll P) t300 true) else ((params_Params_L.f (n : Int) ((kS n : Nat) : Int) 2).bind fun t303 => (if ((tll P).length : Int) = t303 then (if (z : Int) < 1 then (drops_Drop.j0 k (z : Int) (tll P) t300 true) else (drops_Drop.j0 k (z : Int) (tll P) t300 (decide ((z : Int) > 64)))) else (drops_Drop.j0 k (z : Int) (tll P) t300 true))))) [] := by
        refine Ev.bind (parts_ev h1 h2 hj he) (ev_neg hne (ev_val (l_ok h2) (ev_neg (by rw [tll_length]; omega) ?_)))
        refine Ev.step (fun k => by simp only [drops_Drop.j0]; rfl) ?_
        exact ev_pos trivial (Ev.now _)
      exact Ev.bind hx (Ev.now _)
  · unfold fountainref1_Drop.f
    by_cases hl : P.length = kL n
    · refine ev_ip hl ?_
      have hx : Ev (fun k => (fountainref1_Parts.f k (n : Int) (j : Int) (e : Int)).bind fun t461 => (if (t461.length : Int) = 0 then (fountainref1_Drop.j0 k (z : Int) (tll P) t461 true) else ((fountainref1_L.f (n : Int)).bind fun t464 => (if ((tll P).length : Int) = t464 then (if (z : Int) < 1 then (fountainref1_Drop.j0 k (z : Int) (tll P) t461 true) else (fountainref1_Drop.j0 k (z : Int) (tll P) t461 (decide ((z : Int) > 64)))) else (fountainref1_Drop.j0 k (z : Int) (tll P) t461 true))))) (tl (dropR z P (parts n j e))) := by
        refine Ev.bind (rparts_ev h1 h2 hj he) (ev_neg hne (ev_val (rL_ok h2) (ev_pos (by rw [tll_length]; omega) (ev_neg (by omega) ?_))))
        rw [decide_eq_false (show ¬ (z : Int) > 64 by omega)]
        refine Ev.step (fun k => by simp only [fountainref1_Drop.j0]; rfl) ?_
        refine ev_neg (by decide) ?_
        exact rdrop_l0 z hz P hP (by have := kL_le h2; omega) (parts n j e) (fun x hx => by rw [hl]; exact hlt x hx) (by omega) (parts n j e) [] rfl
      exact Ev.bind hx (Ev.now _)
    · refine ev_in hl ?_
      have hx : Ev (fun k => (fountainref1_Parts.f k (n : Int) (j : Int) (e : Int)).bind fun t461 => (if (t461.length : Int) = 0 then (fountainref1_Drop.j0 k (z : Int) (tll P) t461 true) else ((fountainref1_L.f (n : Int)).bind fun t464 => (if ((tll P).length : Int) = t464 then (if (z : Int) < 1 then (fountainref1_Drop.j0 k (z : Int) (tll P) t461 true) else (fountainref1_Drop.j0 k (z : Int) (tll P) t461 (decide ((z : Int) > 64)))) else (fountainref1_Drop.j0 k (z : Int) (tll P) t461 true))))) [] := by
        refine Ev.bind (rparts_ev h1 h2 hj he) (ev_neg hne (ev_val (rL_ok h2) (ev_neg (by rw [tll_length]; omega) ?_)))
        refine Ev.step (fun k => by simp only [fountainref1_Drop.j0]; rfl) ?_
        exact ev_pos trivial (Ev.now _)
      exact Ev.bind hx (Ev.now _)

/-! ### a block -/
theorem odds_any (z : Int) : ∀ (L : List (List Int)) (i : Int), 0 ≤ i → decide (0 ≤ Cf.idx (odd z) L i) = L.any (odd z) := by
  intro L
  induction L with
  | nil => intro i _; rfl
  | cons r L ih =>
    intro i hi
    rw [List.any_cons]
    unfold Cf.idx
    by_cases h : odd z r = true
    · rw [if_pos h, h, Bool.true_or]; exact decide_eq_true hi
    · rw [if_neg h, (Bool.eq_false_iff.2 h : odd z r = false), Bool.false_or]; exact ih (i + 1) (by omega)
theorem fit_zero (z : Nat) : fitR z [] = List.replicate z 0 := by unfold fitR; simp
theorem fit_zeros (z : Nat) : fitR z (List.replicate z 0) = List.replicate z 0 := by unfold fitR; simp
theorem comb_congr (W S : Nat) : ∀ (M D E : List (List F)), D.map (fitR S) = E.map (fitR S) → comb W S M D = comb W S M E := by
  intro M
  induction M with
  | nil => intro D E _; cases D <;> cases E <;> rfl
  | cons m M ih =>
    intro D E h
    cases D with
    | nil => cases E with
      | nil => rfl
      | cons _ _ => simp at h
    | cons d D => cases E with
      | nil => simp at h
      | cons e E =>
        simp only [List.map_cons, List.cons.injEq] at h
        simp only [comb]
        rw [h.1, ih D E h.2]
/-- What is solved for: rows that tie, and the source. -/
def solB (n z : Nat) (j : Int) (L : List (List F)) : List (List Int) × Int := solR (kL n : Int) (z : Int) (matF n j (src n)) (List.replicate (kS n + 2) [] ++ L)
theorem solB_zero (n z : Nat) (j : Int) (L : List (List F)) : solR (kL n : Int) (z : Int) (matF n j (src n)) (List.replicate (kS n + 2) (List.replicate z 0) ++ L) = solB n z j L := by
  unfold solB solR
  rw [List.length_append, List.length_append, List.length_replicate, List.length_replicate]
  split
  · rfl
  · rw [Int.toNat_natCast, Int.toNat_natCast]
    rw [comb_congr (kL n) z (matF n j (src n)) (List.replicate (kS n + 2) (List.replicate z 0) ++ L) (List.replicate (kS n + 2) [] ++ L)]
    rw [List.map_append, List.map_append, List.map_replicate, List.map_replicate, fit_zero, fit_zeros]
theorem sol_shape (W S : Nat) (J : List (List F)) (h : ∀ r ∈ J, r.length = W + S) : ∃ P : List (List F), (sol W J).1 = tll P ∧ ∀ r ∈ P, r.length = S := by
  unfold sol
  split
  · exact ⟨[], rfl, fun r hr => by cases hr⟩
  · split
    · exact ⟨[], rfl, fun r hr => by cases hr⟩
    · refine ⟨_, rfl, fun r hr => ?_⟩
      obtain ⟨q, hq, rfl⟩ := List.mem_map.1 hr
      have := (run_facts h).2 q (List.mem_of_mem_take hq)
      rw [List.length_drop, this]; omega
theorem solB_shape (n z : Nat) (j : Int) (L : List (List F)) : ∃ P : List (List F), (solB n z j L).1 = tll P ∧ ∀ r ∈ P, r.length = z := by
  unfold solB solR
  split
  · exact ⟨[], rfl, fun r hr => by cases hr⟩
  · rw [Int.toNat_natCast, Int.toNat_natCast]
    exact sol_shape _ _ _ (comb_mem _ _ _ _)
/-- A block's numbers and parts. -/
def blockR (z : Int) (L : List (List F)) : Option (Nat × Nat × List (List Int)) × Int :=
  if z < 1 ∨ 64 < z ∨ (L.length : Int) < 1 ∨ 40 < (L.length : Int) then (none, 1) else if (tll L).any (odd z) = true then (none, 10) else
  if (seedOf (L.length : Int)).2 ≠ 0 then (none, (seedOf (L.length : Int)).2) else
  if (solB L.length z.toNat (seedOf (L.length : Int)).1 L).2 ≠ 0 then (none, (solB L.length z.toNat (seedOf (L.length : Int)).1 L).2) else
  (some (L.length, (seedOf (L.length : Int)).1.toNat, (solB L.length z.toNat (seedOf (L.length : Int)).1 L).1), 0)
theorem seed_nat (n : Int) : 0 ≤ (seedOf n).1 ∧ (seedOf n).1 ≤ 255 := by
  unfold seedOf
  split
  · exact ⟨by decide, by decide⟩
  · rcases find_says n.toNat 256 0 with e | ⟨i, g1, g2, e, _⟩
    · rw [e]; exact ⟨by decide, by decide⟩
    · rw [e]; simp only; omega
theorem parts_fn {n z : Nat} (h1 : 1 ≤ n) (h2 : n ≤ 40) (hz1 : 1 ≤ z) (hz : z ≤ 64) (j : Int) (L : List (List F)) (hL : L.length = n) (hs : ∀ r ∈ L, r.length < 2 ^ 40) :
    Ev (fun k => block_Parts.f k (n : Int) ((kS n : Nat) : Int) 2 j (z : Int) (src n) (tll L)) (solB n z j L) := by
  unfold block_Parts.f
  have hk := kS_le h2
  have e1 : wrap64 (((kS n : Nat) : Int) + 2) = ((kS n + 2 : Nat) : Int) := by rw [w64 (by omega) (by omega)]; omega
  have et : (List.replicate (kS n + 2) ([] : List Int)) = tll (List.replicate (kS n + 2) []) := by unfold tll; rw [List.map_replicate]; rfl
  have eM := mat_len h2 j (src n)
  rw [src_len] at eM
  have hq := Pz.ev_of (solve_ev (kL n : Int) (z : Int) (matF n j (src n)) (List.replicate (kS n + 2) [] ++ L) (by rw [matF_len]; omega) (fun r hr => by rw [matF_mem hr]; have := kL_le h2; omega) (fun r hr => by
    rcases List.mem_append.1 hr with h | h
    · rw [List.eq_of_mem_replicate h]; simp
    · exact hs r h))
  rw [tll_mat] at hq
  rw [e1, Int.toNat_natCast]
  refine ev_pos (by omega) (ev_pos (by omega) (ev_val rfl (ev_val (l_ok h2) ?_)))
  refine Ev.bind (matrix_ev h1 h2 j (src n) (by rw [src_len]; omega)) (ev_pos (by rw [List.length_replicate, tll_length]; omega) ?_)
  rw [et, show tll (List.replicate (kS n + 2) []) ++ tll L = tll (List.replicate (kS n + 2) [] ++ L) from by unfold tll; rw [List.map_append]]
  exact ev_val hq (Ev.now _)
theorem zero_l0 {n : Nat} (h2 : n ≤ 40) (z : Nat) (hz : z ≤ 64) (L : List (List F)) (hL : L.length < 2 ^ 40) (d : Nat) : ∀ i, i + d = kS n + 2 →
    Ev (fun k => fountainref1_zero.l0 k (n : Int) (z : Int) (tll L) (tll (List.replicate i (List.replicate z 0))) (i : Int)) (tll (List.replicate (kS n + 2) (List.replicate z 0) ++ L)) := by
  have hk := kS_le h2
  have e1 : wrap64 (((kS n : Nat) : Int) + 2) = ((kS n + 2 : Nat) : Int) := by rw [w64 (by omega) (by omega)]; omega
  induction d with
  | zero =>
    intro i hi
    refine Ev.step (fun k => by simp only [fountainref1_zero.l0]; rfl) ?_
    refine ev_val (rS_ok h2) ?_
    rw [e1]
    obtain rfl : i = kS n + 2 := by omega
    refine ev_neg (by omega) (ev_pos (by rw [tll_length, tll_length, List.length_replicate]; omega) ?_)
    rw [show tll (List.replicate (kS n + 2) (List.replicate z 0)) ++ tll L = tll (List.replicate (kS n + 2) (List.replicate z 0) ++ L) from by unfold tll; rw [List.map_append]]
    exact Ev.now _
  | succ d ih =>
    intro i hi
    refine Ev.step (fun k => by simp only [fountainref1_zero.l0]; rfl) ?_
    refine ev_val (rS_ok h2) ?_
    rw [e1]
    refine ev_pos (by omega) (ev_pos (by omega) (ev_pos (by rw [Int.toNat_natCast]; omega) (ev_pos (by rw [tll_length, List.length_replicate]; omega) ?_)))
    rw [Int.toNat_natCast, ← tl_replicate, tl1, w64 (i := (i : Int) + 1) (by omega) (by omega), show (i : Int) + 1 = ((i + 1 : Nat) : Int) from by omega]
    have := ih (i + 1) (by omega)
    rw [List.replicate_succ'] at this
    exact this
theorem new_ev (z : Int) (L : List (List F)) (hL : L.length < 2 ^ 40) (hs : ∀ r ∈ L, r.length < 2 ^ 40) :
    Ev (fun k => new.f k z (tll L)) (match blockR z L with | (none, e) => (none, e) | (some b, e) => (some ((b.1 : Int), ((kS b.1 : Nat) : Int), 2, (b.2.1 : Int), b.2.2), e)) ∧
    Ev (fun k => rnew.f k z (tll L)) (match blockR z L with | (none, e) => (none, e) | (some b, e) => (some ((b.1 : Int), (b.2.1 : Int), b.2.2), e)) := by
  unfold new.f rnew.f blockR
  rw [tll_length]
  by_cases hb : z < 1 ∨ 64 < z ∨ (L.length : Int) < 1 ∨ 40 < (L.length : Int)
  · rw [if_pos hb]
    refine ⟨?_, ev_pos hb (Ev.now _)⟩
    by_cases hn : (L.length : Int) < 1 ∨ 40 < (L.length : Int)
    · exact ev_val (of_no hn) (ev_pos (by simp) (Ev.now _))
    · exact ev_val (of_ok (by omega) (by omega)) (ev_pos (by omega) (Ev.now _))
  rw [if_neg hb]
  obtain ⟨n, hn⟩ : ∃ n, L.length = n := ⟨_, rfl⟩
  rw [hn] at hb ⊢
  obtain ⟨y, rfl⟩ : ∃ y : Nat, z = (y : Int) := ⟨z.toNat, by omega⟩
  rw [Int.toNat_natCast]
  have ho : odds (y : Int) (tll L) = (tll L).any (odd (y : Int)) := odds_any _ _ 0 (Int.le_refl _)
  obtain ⟨s1, s2⟩ := seed_nat (n : Int)
  have hof := of_ok (k := n) (by omega) (by omega)
  by_cases h10 : (tll L).any (odd (y : Int)) = true
  · rw [if_pos h10]
    exact ⟨ev_val hof (ev_neg (by simp only; omega) (ev_pos (by rw [ho]; exact h10) (Ev.now _))), ev_neg hb (ev_pos h10 (Ev.now _))⟩
  rw [if_neg h10]
  have hf := find_ev (n : Int)
  have hg := seed_ev (n : Int)
  by_cases he : (seedOf (n : Int)).2 ≠ 0
  · rw [if_pos he]
    exact ⟨ev_val hof (ev_neg (by simp only; omega) (ev_neg (by rw [ho]; exact h10) (Ev.bind hf (ev_pos he (Ev.now _))))), ev_neg hb (ev_neg h10 (Ev.bind hg (ev_pos he (Ev.now _))))⟩
  rw [if_neg he]
  have hp := parts_fn (n := n) (z := y) (by omega) (by omega) (by omega) (by omega) (seedOf (n : Int)).1 L hn hs
  have hzr := zero_l0 (n := n) (by omega) y (by omega) L hL (kS n + 2) 0 (by omega)
  have eM := mat_len (k := n) (by omega) (seedOf (n : Int)).1 (src n)
  rw [src_len] at eM
  have hr := rsolve_ev (kL n : Int) (y : Int) (matF n (seedOf (n : Int)).1 (src n)) (List.replicate (kS n + 2) (List.replicate y 0) ++ L) (by rw [matF_len]; omega)
  rw [tll_mat, solB_zero] at hr
  generalize hq : solB n y (seedOf (n : Int)).1 L = q at hp hr ⊢
  have es : ((seedOf (n : Int)).1.toNat : Int) = (seedOf (n : Int)).1 := by omega
  by_cases hq2 : q.2 ≠ 0
  · rw [if_pos hq2]
    refine ⟨ev_val hof (ev_neg (by simp only; omega) (ev_neg (by rw [ho]; exact h10) (Ev.bind hf (ev_neg he (Ev.bind (sources_ev (by omega)) (Ev.bind hp (ev_pos hq2 (Ev.now _)))))))), ?_⟩
    exact ev_neg hb (ev_neg h10 (Ev.bind hg (ev_neg he (ev_val (rL_ok (by omega)) (Ev.bind (first_ev (by omega)) (Ev.bind (rmatrix_ev (by omega) (by omega) _ _ (by rw [src_len]; omega)) (Ev.bind hzr (Ev.bind hr (ev_pos hq2 (Ev.now _))))))))))
  · rw [if_neg hq2]
    simp only
    rw [es]
    refine ⟨ev_val hof (ev_neg (by simp only; omega) (ev_neg (by rw [ho]; exact h10) (Ev.bind hf (ev_neg he (Ev.bind (sources_ev (by omega)) (Ev.bind hp (ev_neg hq2 (Ev.now _)))))))), ?_⟩
    exact ev_neg hb (ev_neg h10 (Ev.bind hg (ev_neg he (ev_val (rL_ok (by omega)) (Ev.bind (first_ev (by omega)) (Ev.bind (rmatrix_ev (by omega) (by omega) _ _ (by rw [src_len]; omega)) (Ev.bind hzr (Ev.bind hr (ev_neg hq2 (Ev.now _))))))))))
end Go.Proofs.Ytbfhinfblepidaa.Bp
namespace Go.Proofs.Ytbfhinfblepidaa.Bq
open Go.RowKit Go.Proofs.YtbfhinfblepidaaW.PrintWords Go.Proofs.Ytbfhinfblepidaa.Gf Go.Proofs.Ytbfhinfblepidaa.Rw Go.Proofs.Ytbfhinfblepidaa.Pc Go.Proofs.Ytbfhinfblepidaa.La Go.Proofs.Ytbfhinfblepidaa.Sv Go.Proofs.Ytbfhinfblepidaa.FSeedTells Go.Proofs.Ytbfhinfblepidaa.Sl Go.Proofs.Ytbfhinfblepidaa.Sd Go.Proofs.Ytbfhinfblepidaa.Bn Go.Proofs.Ytbfhinfblepidaa.Bp
set_option linter.unusedVariables false

/-! ### the first places decide -/
def tk (W : Nat) (J : List (List F)) : List (List F) := J.map (·.take W)
theorem row_tk (W : Nat) (J : List (List F)) (i : Nat) : row (tk W J) i = (row J i).take W := row_map _ List.take_nil J i
theorem piv_tk {W c : Nat} (hc : c < W) (J : List (List F)) (n : Nat) : piv (tk W J) c n = piv J c n := by
  have h : ∀ (L : List (List F)) (i : Nat), pivFrom c (tk W L) i = pivFrom c L i := by
    intro L
    induction L with
    | nil => intro i; rfl
    | cons r L ih =>
      intro i
      show (if el (r.take W) c ≠ 0 then some i else pivFrom c (tk W L) (i + 1)) = (if el r c ≠ 0 then some i else pivFrom c L (i + 1))
      rw [el_take hc, ih]
  unfold piv
  rw [show (tk W J).drop n = tk W (J.drop n) from by unfold tk; rw [List.map_drop]]
  exact h _ _
theorem clr_tk {W c : Nat} (hc : c < W) (R : List F) (n : Nat) : ∀ (L : List (List F)) (i : Nat), clr (R.take W) c n i (tk W L) = tk W (clr R c n i L) := by
  intro L
  induction L with
  | nil => intro i; rfl
  | cons x L ih =>
    intro i
    show (if i = n then x.take W else if el (x.take W) c = 0 then x.take W else addTo (x.take W) (scaleR (el (x.take W) c) (R.take W))) :: clr (R.take W) c n (i + 1) (tk W L) = (if i = n then x else if el x c = 0 then x else addTo x (scaleR (el x c) R)).take W :: tk W (clr R c n (i + 1) L)
    rw [ih, el_take hc, scaleR_take, ← addTo_take]
    congr 1
    split
    · rfl
    · split <;> rfl
theorem pstep_tk {W c : Nat} (hc : c < W) (J : List (List F)) (n p : Nat) : pstep (tk W J) c n p = tk W (pstep J c n p) := by
  unfold pstep swp
  rw [row_tk, row_tk, el_take hc, scaleR_take, ← clr_tk hc]
  congr 1
  unfold tk
  rw [List.map_set, List.map_set]
theorem run_tk (W : Nat) (all : Bool) (f : Nat) : ∀ (c n : Nat) (J : List (List F)), c + f ≤ W → run all f c n (tk W J) = ((run all f c n J).1, tk W (run all f c n J).2) := by
  induction f with
  | zero => intro c n J _; rfl
  | succ f ih =>
    intro c n J h
    cases hp : piv J c n with
    | none =>
      rw [run_none hp, run_none (by rw [piv_tk (by omega)]; exact hp)]
      split
      · exact ih _ _ _ (by omega)
      · rfl
    | some p =>
      rw [run_some hp, run_some (by rw [piv_tk (by omega)]; exact hp), pstep_tk (by omega)]
      exact ih _ _ _ (by omega)
theorem fit_id (w : Nat) (r : List F) (h : r.length = w) : fitR w r = r := by
  unfold fitR; rw [h, Nat.sub_self, List.replicate_zero, List.append_nil]; exact List.take_of_length_le (by omega)
theorem el_left {x y : List F} {k : Nat} (h : k < x.length) : el (x ++ y) k = el x k := by
  unfold el; rw [List.getD_eq_getElem?_getD, List.getD_eq_getElem?_getD, List.getElem?_append_left h]
theorem el_right (x y : List F) (k : Nat) : el (x ++ y) (x.length + k) = el y k := by
  unfold el; rw [List.getD_eq_getElem?_getD, List.getD_eq_getElem?_getD, List.getElem?_append_right (by omega), show x.length + k - x.length = k from by omega]
theorem el_zeros (n t : Nat) : el (List.replicate n 0) t = 0 := by
  unfold el; rw [List.getD_eq_getElem?_getD, List.getElem?_replicate]; split <;> rfl
theorem ext_el {a b : List F} (h : a.length = b.length) (he : ∀ t, t < a.length → el a t = el b t) : a = b := by
  refine List.ext_getElem h fun i h1 h2 => ?_
  have := he i h1
  unfold el at this
  rw [List.getD_eq_getElem?_getD, List.getD_eq_getElem?_getD, List.getElem?_eq_getElem h1, List.getElem?_eq_getElem h2] at this
  exact this

/-! ### the parts are apart -/
theorem getD_set (met : List Bool) (s x : Nat) (hs : s < met.length) : (met.set s true).getD x false = if x = s then true else met.getD x false := by
  rw [List.getD_eq_getElem?_getD, List.getElem?_set, List.getD_eq_getElem?_getD]
  by_cases e : s = x
  · subst e; rw [if_pos rfl, if_pos hs, if_pos rfl]; rfl
  · rw [if_neg e, if_neg (fun k => e k.symm)]
theorem pl_nodup (w a b : Nat) (hw : 0 < w) (n : Nat) : ∀ (i : Nat) (met : List Bool) (out : List Nat), met.length = w → met.count true ≤ i → i + n ≤ w → out.Nodup → (∀ x ∈ out, met.getD x false = true) → (pl w a b n i met out).Nodup := by
  induction n with
  | zero => intro i met out _ _ _ h _; exact h
  | succ n ih =>
    intro i met out h1 h2 h3 h4 h5
    have hs : seek w met w ((b + i * a) % w) < w := seek_lt _ _ _ _ (Nat.mod_lt _ hw)
    have hf : met.getD (seek w met w ((b + i * a) % w)) false = false := by
      have := seek_free met ((b + i * a) % w) (by rw [h1]; exact Nat.mod_lt _ hw) (by omega)
      rwa [h1] at this
    obtain ⟨s, hs_⟩ : ∃ s, seek w met w ((b + i * a) % w) = s := ⟨_, rfl⟩
    rw [hs_] at hs hf
    simp only [pl]
    rw [hs_]
    have hs' : s < met.length := by omega
    refine ih (i + 1) (met.set s true) (out ++ [s]) (by rw [List.length_set]; exact h1) (by have := count_set_le met s hs'; omega) (by omega) ?_ ?_
    · refine List.nodup_append.2 ⟨h4, by simp, fun x hx y hy e => ?_⟩
      obtain rfl := List.mem_singleton.1 hy
      have := h5 x hx
      rw [e, hf] at this
      cases this
    · intro x hx
      rw [getD_set met s x hs']
      by_cases e : x = s
      · rw [if_pos e]
      · rw [if_neg e]
        rcases List.mem_append.1 hx with h | h
        · exact h5 x h
        · exact absurd (List.mem_singleton.1 h) e
theorem parts_nodup (n j e : Nat) : (parts n j e).Nodup := by
  unfold parts
  have hw : 0 < kW n := by unfold kW kS; omega
  refine List.nodup_append.2 ⟨pl_nodup _ _ _ hw _ 0 _ [] (by simp) (by rw [List.count_replicate, if_neg (by decide)]; exact Nat.zero_le _) (by have := dOf_le n j e; omega) (by simp) (fun x hx => by cases hx), by simp, fun x hx y hy h => ?_⟩
  obtain rfl := List.mem_singleton.1 hy
  have := pl_lt (kW n) (aOf n j e) (bOf n j e) hw _ _ _ _ (by simp) x hx
  omega
theorem marks_get (ps : List Nat) : ∀ (r : List Int) (c : Nat), c < r.length → (marks ps r).getD c 0 = if c ∈ ps then 1 else r.getD c 0 := by
  induction ps with
  | nil => intro r c h; simp [marks]
  | cons x ps ih =>
    intro r c h
    show (marks ps (r.set x 1)).getD c 0 = _
    rw [ih _ _ (by rw [List.length_set]; exact h)]
    by_cases h1 : c ∈ ps
    · rw [if_pos h1, if_pos (List.mem_cons_of_mem _ h1)]
    · rw [if_neg h1]
      rw [List.getD_eq_getElem?_getD, List.getElem?_set]
      by_cases h2 : x = c
      · subst h2; rw [if_pos rfl, if_pos h, if_pos List.mem_cons_self]; rfl
      · rw [if_neg h2, if_neg (fun k => by rcases List.mem_cons.1 k with k | k; exact h2 k.symm; exact h1 k), List.getD_eq_getElem?_getD]
theorem el_byt (l : List Int) (c : Nat) : el (byt l) c = UInt8.ofNat (l.getD c 0).toNat := by
  unfold el byt; rw [List.getD_eq_getElem?_getD, List.getElem?_map, List.getD_eq_getElem?_getD]; cases l[c]? <;> rfl
theorem el_part (n j e c : Nat) (h : c < kL n) : el (byt (partRow n j e)) c = if c ∈ parts n j e then 1 else 0 := by
  rw [el_byt]
  unfold partRow
  rw [marks_get _ _ _ (by rw [List.length_replicate]; exact h)]
  split
  · rfl
  · rw [List.getD_eq_getElem?_getD, List.getElem?_replicate, if_pos h]; rfl

/-! ### sums over the parts -/
def xs (g : Nat → F) (ps : List Nat) : F := ps.foldr (fun x a => g x ^^^ a) 0
theorem sm_mem (W : Nat) (g : Nat → F) : ∀ ps : List Nat, ps.Nodup → (∀ x ∈ ps, x < W) → sm W (fun k => fm (if k ∈ ps then 1 else 0) (g k)) = xs g ps := by
  intro ps
  induction ps with
  | nil => intro _ _; exact sm_zero W (fun k _ => by rw [if_neg (by simp), zero_fm])
  | cons x ps ih =>
    intro hn hw
    obtain ⟨h1, h2⟩ := List.nodup_cons.1 hn
    have e : sm W (fun k => fm (if k ∈ x :: ps then 1 else 0) (g k)) = sm W (fun k => (if k = x then g x else 0) ^^^ fm (if k ∈ ps then 1 else 0) (g k)) := sm_congr W fun k _ => by
      by_cases hk : k = x
      · subst hk; rw [if_pos List.mem_cons_self, if_pos rfl, if_neg h1, one_fm, zero_fm, fx_zero]
      · rw [if_neg hk, zero_fx]
        congr 1
        by_cases hp : k ∈ ps
        · rw [if_pos hp, if_pos (List.mem_cons_of_mem _ hp)]
        · rw [if_neg hp, if_neg (fun q => by rcases List.mem_cons.1 q with q | q; exact hk q; exact hp q)]
    rw [e, sm_add, ih h2 (fun y hy => hw y (List.mem_cons_of_mem _ hy)), sm_one W x (hw x List.mem_cons_self) (fun k _ hne => by rw [if_neg hne]), if_pos rfl]
    rfl
theorem el_fold (z t : Nat) (P : List (List F)) : ∀ (ps : List Nat) (acc : List F), acc.length = z → (∀ x ∈ ps, (row P x).length = z) → el ((ps.map (row P)).foldl addTo acc) t = el acc t ^^^ xs (fun x => el (row P x) t) ps := by
  intro ps
  induction ps with
  | nil => intro acc _ _; show el acc t = el acc t ^^^ 0; rw [fx_zero]
  | cons x ps ih =>
    intro acc h1 h2
    show el ((ps.map (row P)).foldl addTo (addTo acc (row P x))) t = _
    rw [ih _ (by rw [addTo_length]; exact h1) (fun y hy => h2 y (List.mem_cons_of_mem _ hy)), el_add (by rw [h1, h2 x List.mem_cons_self]), fx_assoc]
    rfl
theorem el_drop' (z t : Nat) (P : List (List F)) (ps : List Nat) (h : ∀ x ∈ ps, (row P x).length = z) : el (dropR z P ps) t = xs (fun x => el (row P x) t) ps := by
  unfold dropR sumR
  rw [el_fold z t P ps _ List.length_replicate h, el_zeros, zero_fx]
theorem dropR_length (z : Nat) (P : List (List F)) (ps : List Nat) : (dropR z P ps).length = z := sumR_length _ _

/-! ### what is solved -/
structure Parts (n z : Nat) (j : Nat) (L P : List (List F)) : Prop where
  len : P.length = kL n
  row : ∀ r ∈ P, r.length = z
  sat : ∀ r ∈ comb (kL n) z (matF n (j : Int) (src n)) (List.replicate (kS n + 2) [] ++ L), Sat (kL n) z P (el r)
  full : (run true (kL n) 0 0 (comb (kL n) z (matF n (j : Int) (src n)) (List.replicate (kS n + 2) [] ++ L))).1 = kL n
theorem mat_length {n j : Nat} (h2 : n ≤ 40) (hj : j ≤ 255) : (matOf n (j : Int) (src n)).length = kL n := by
  unfold matOf
  have : (0 ≤ (j : Int) ∧ (j : Int) ≤ 255) ∧ ∀ e ∈ src n, okE e := ⟨by omega, fun e he => by
    obtain ⟨i, hi, rfl⟩ := List.mem_map.1 he
    have := List.mem_range.1 hi
    unfold okE; omega⟩
  rw [if_pos this, List.length_append]
  unfold ties esiRows
  rw [List.length_append, lowRows_length, highRows_length, List.length_map, src_len]
  unfold kL kW; omega
theorem solB_good {n z j : Nat} (h1 : 1 ≤ n) (h2 : n ≤ 40) (hz1 : 1 ≤ z) (hz : z ≤ 64) (hj : j ≤ 255) (hg : rk n (j : Int) (src n) = kL n) (L : List (List F)) (hL : L.length = n) :
    ∃ P, solB n z (j : Int) L = (tll P, 0) ∧ Parts n z j L P := by
  have hk := kL_le h2
  have hk1 : 1 ≤ kL n := by unfold kL; omega
  have hml := mat_length h2 hj
  have hmF : (matF n (j : Int) (src n)).length = kL n := by rw [matF_len]; exact hml
  have hlen : (matF n (j : Int) (src n)).length = (List.replicate (kS n + 2) ([] : List F) ++ L).length := by rw [hmF, List.length_append, List.length_replicate, hL]; unfold kL kW; omega
  unfold solB solR
  rw [if_neg (by omega), Int.toNat_natCast, Int.toNat_natCast]
  have hm := comb_mem (kL n) z (matF n (j : Int) (src n)) (List.replicate (kS n + 2) [] ++ L)
  have hcl := comb_len (kL n) z _ _ hlen
  have hlo : tk (kL n) (comb (kL n) z (matF n (j : Int) (src n)) (List.replicate (kS n + 2) [] ++ L)) = matF n (j : Int) (src n) := by
    have h := comb_lo (kL n) z _ _ hlen
    unfold lo at h
    have h' : tll (tk (kL n) (comb (kL n) z (matF n (j : Int) (src n)) (List.replicate (kS n + 2) [] ++ L))) = tll ((matF n (j : Int) (src n)).map (fitR (kL n))) := h
    have inj : ∀ A B : List (List F), tll A = tll B → A = B := by
      intro A
      induction A with
      | nil => intro B h; cases B with
        | nil => rfl
        | cons _ _ => simp [tll] at h
      | cons a A ih => intro B h; cases B with
        | nil => simp [tll] at h
        | cons b B =>
          have h0 : tl a :: tll A = tl b :: tll B := h
          obtain ⟨e1, e2⟩ := List.cons.inj h0
          rw [tl_inj e1, ih B e2]
    rw [inj _ _ h']
    conv => rhs; rw [← List.map_id (matF n (j : Int) (src n))]
    exact List.map_congr_left fun r hr => fit_id _ r (matF_mem hr)
  generalize hJ : comb (kL n) z (matF n (j : Int) (src n)) (List.replicate (kS n + 2) [] ++ L) = J at hm hcl hlo
  have hr : (run true (kL n) 0 0 J).1 = kL n := by
    have h := run_tk (kL n) true (kL n) 0 0 J (by omega)
    rw [hlo] at h
    unfold rk rankR at hg
    rw [show RkSolveTells.cl (kL n : Int) = kL n from by unfold RkSolveTells.cl; omega] at hg
    have hid : (matF n (j : Int) (src n)).map (fitR (kL n)) = matF n (j : Int) (src n) := by
      conv => rhs; rw [← List.map_id (matF n (j : Int) (src n))]
      exact List.map_congr_left fun r hr => fit_id _ r (matF_mem hr)
    rw [hid] at hg
    unfold rank at hg
    rw [h] at hg
    exact hg
  obtain ⟨b, nl, len, hd, _⟩ := run_full hm hr
  have hn : (run true (kL n) 0 0 J).2.length = kL n := by rw [b, hcl, hmF]
  unfold sol
  rw [if_neg (by omega)]
  have hnone : (run true (kL n) 0 0 J).2.drop (kL n) = [] := List.drop_eq_nil_of_le (by omega)
  rw [hnone, if_neg (show ¬ RsSolveTells.loose2 (kL n) (tll []) = true from by unfold RsSolveTells.loose2 tll; simp)]
  have htake : (run true (kL n) 0 0 J).2.take (kL n) = (run true (kL n) 0 0 J).2 := List.take_of_length_le (by omega)
  rw [htake]
  refine ⟨(run true (kL n) 0 0 J).2.map (·.drop (kL n)), rfl, by rw [List.length_map, hn], fun r hr' => ?_, ?_, by rw [hJ]; exact hr⟩
  · obtain ⟨q, hq, rfl⟩ := List.mem_map.1 hr'
    rw [List.length_drop, len q hq]; omega
  · rw [hJ]
    refine sat_of_told hm hr (fun i hi t ht => ?_) (fun i h3 h4 t ht => by rw [hcl, hmF] at h4; omega)
    rw [row_map _ List.drop_nil, el_drop]
theorem row_app_right (A B : List (List F)) (i : Nat) : row (A ++ B) (A.length + i) = row B i := by
  unfold row; rw [List.getD_eq_getElem?_getD, List.getD_eq_getElem?_getD, List.getElem?_append_right (by omega), show A.length + i - A.length = i from by omega]
theorem comb_row (W S : Nat) : ∀ (M D : List (List F)) (i : Nat), i < M.length → M.length = D.length → row (comb W S M D) i = fitR W (row M i) ++ fitR S (row D i) := by
  intro M
  induction M with
  | nil => intro D i h; simp at h
  | cons m M ih =>
    intro D i h h2
    cases D with
    | nil => simp at h2
    | cons d D =>
      cases i with
      | zero => rfl
      | succ i => exact ih D i (by simpa using h) (by simpa using h2)
theorem unique {n z j : Nat} {L P Y : List (List F)} (h : Parts n z j L P) (hY : ∀ r ∈ comb (kL n) z (matF n (j : Int) (src n)) (List.replicate (kS n + 2) [] ++ L), Sat (kL n) z Y (el r)) (i : Nat) (hi : i < kL n) (t : Nat) (ht : t < z) : el (row P i) t = el (row Y i) t := by
  have hm := comb_mem (kL n) z (matF n (j : Int) (src n)) (List.replicate (kS n + 2) [] ++ L)
  rw [← (told_of_sat hm h.full h.sat).1 i hi t ht, (told_of_sat hm h.full hY).1 i hi t ht]
/-- The first symbols are the source. -/
theorem source {n z j : Nat} (h1 : 1 ≤ n) (h2 : n ≤ 40) (hj : j ≤ 255) {L P : List (List F)} (hL : L.length = n) (hs : ∀ r ∈ L, r.length = z) (h : Parts n z j L P) (i : Nat) (hi : i < n) : dropR z P (parts n j i) = row L i := by
  have hml := mat_length h2 hj
  have hmF : (matF n (j : Int) (src n)).length = kL n := by rw [matF_len]; exact hml
  have hlen : (matF n (j : Int) (src n)).length = (List.replicate (kS n + 2) ([] : List F) ++ L).length := by rw [hmF, List.length_append, List.length_replicate, hL]; unfold kL kW; omega
  have hpr : ∀ x ∈ parts n j i, (row P x).length = z := fun x hx => h.row _ (row_mem (by rw [h.len]; exact parts_lt n j i x hx))
  have hrl : (row L i).length = z := hs _ (row_mem (by omega))
  refine ext_el (by rw [dropR_length, hrl]) fun t ht => ?_
  rw [dropR_length] at ht
  rw [el_drop' z t P _ hpr]
  have hidx : kS n + 2 + i < kL n := by unfold kL kW; omega
  have hrow : row (comb (kL n) z (matF n (j : Int) (src n)) (List.replicate (kS n + 2) [] ++ L)) (kS n + 2 + i) = byt (partRow n j i) ++ row L i := by
    rw [comb_row _ _ _ _ _ (by rw [hmF]; exact hidx) hlen]
    have e1 : row (List.replicate (kS n + 2) ([] : List F) ++ L) (kS n + 2 + i) = row L i := by
      have := row_app_right (List.replicate (kS n + 2) ([] : List F)) L i
      rwa [List.length_replicate] at this
    have e2 : row (matF n (j : Int) (src n)) (kS n + 2 + i) = byt (partRow n j i) := by
      have hok : (0 ≤ (j : Int) ∧ (j : Int) ≤ 255) ∧ ∀ e ∈ src n, okE e := ⟨by omega, fun e he => by
        obtain ⟨q, hq, rfl⟩ := List.mem_map.1 he
        have := List.mem_range.1 hq
        unfold okE; omega⟩
      unfold matF matOf
      rw [if_pos hok]
      unfold row byts
      rw [List.getD_eq_getElem?_getD, List.getElem?_map]
      have ht : (ties n).length = kS n + 2 := by unfold ties; rw [List.length_append, lowRows_length, highRows_length]
      rw [List.getElem?_append_right (by omega), show kS n + 2 + i - (ties n).length = i from by omega]
      unfold esiRows src
      rw [List.map_map, List.getElem?_map, List.getElem?_range hi]
      show byt (partRow n (j : Int).toNat (i : Int).toNat) = _
      rw [Int.toNat_natCast, Int.toNat_natCast]
    rw [e1, e2, fit_id _ _ (by unfold byt; rw [List.length_map, partRow_length]), fit_id _ _ hrl]
  have hsat := h.sat _ (row_mem (show kS n + 2 + i < (comb (kL n) z (matF n (j : Int) (src n)) (List.replicate (kS n + 2) [] ++ L)).length from by rw [comb_len _ _ _ _ hlen, hmF]; exact hidx)) t ht
  rw [hrow] at hsat
  have hbl : (byt (partRow n j i)).length = kL n := by unfold byt; rw [List.length_map, partRow_length]
  have hre : el (byt (partRow n j i) ++ row L i) (kL n + t) = el (row L i) t := by rw [← hbl]; exact el_right _ _ _
  rw [hre] at hsat
  rw [← hsat, ← sm_mem (kL n) (fun k => el (row P k) t) (parts n j i) (parts_nodup n j i) (parts_lt n j i)]
  exact sm_congr _ fun k hk => by rw [el_left (by rw [hbl]; exact hk), el_part n j i k hk]
end Go.Proofs.Ytbfhinfblepidaa.Bq
