/- What the blocks come to, in rows of elements: the program's and the document's are one. Conditions: those that stand in the theorems. -/
import Derived.Test.YtbfhinfblepidaaSm
import Derived.Test.YtbfhinfblepidaaSd
import Derived.Test.YtbfhinfblepidaaPa
import Derived.Test.YtbfhinfblepidaaBr
namespace Go.Proofs.Ytbfhinfblepidaa.Bp
open Go.RowKit Go.Proofs.Ytbfhinfblepidaa.PSolveTells Go.Proofs.Ytbfhinfblepidaa.PSeedTells Go.Proofs.Ytbfhinfblepidaa.PBlockTells Go.Proofs.YtbfhinfblepidaaW.PrintWords Go.Proofs.YtbfhinfblepidaaW.PrintLast Go.Proofs.Ytbfhinfblepidaa.Gf Go.Proofs.Ytbfhinfblepidaa.Rw Go.Proofs.Ytbfhinfblepidaa.Pc Go.Proofs.Ytbfhinfblepidaa.La Go.Proofs.Ytbfhinfblepidaa.Sv Go.Proofs.Ytbfhinfblepidaa.FSolveTells Go.Proofs.Ytbfhinfblepidaa.FSeedTells Go.Proofs.Ytbfhinfblepidaa.Sl Go.Proofs.Ytbfhinfblepidaa.Sd Go.Proofs.Ytbfhinfblepidaa.Mt Go.Proofs.Ytbfhinfblepidaa.Bs Go.Proofs.Ytbfhinfblepidaa.Bn Go.Proofs.Ytbfhinfblepidaa.Br

/-! ### a symbol -/
set_option linter.unusedVariables false
set_option linter.unusedSectionVars false
theorem rd_iN {l : List Nat} {i x : Nat} (h : l[i]? = some x) : rd (iN l) (i : Int) = (x : Int) := by
  unfold rd iN; rw [Int.toNat_natCast, List.getD_eq_getElem?_getD, List.getElem?_map, h]; rfl
theorem L1_tll (P : List (List F)) (x : Nat) : rd_L1 (tll P) (x : Int) = tl (row P x) := by
  have := ro_tll P x
  unfold rd_L1; rw [Int.toNat_natCast]; exact this
def dropR (z : Nat) (P : List (List F)) (ps : List Nat) : List F := sumR z (ps.map (row P))
theorem tl1 (L : List (List F)) (y : List F) : tll L ++ [tl y] = tll (L ++ [y]) := by unfold tll; rw [List.map_append]; rfl
section
variable (z : Nat) (hz : z ≤ 64) (P : List (List F)) (hP : ∀ r ∈ P, r.length < 2 ^ 50) (hPl : P.length < 2 ^ 30) (ps : List Nat) (hps : ∀ x ∈ ps, x < P.length) (hpl : ps.length < 2 ^ 30)
include hz hP hPl hps hpl
theorem sum_rows (L : List (List F)) (hL : L = ps.map (row P)) : Ev (fun k => rows_Sum.f k (z : Int) (tll L)) (tl (dropR z P ps)) := by
  have h := sum_ev (z : Int) L (by rw [hL, List.length_map]; omega) (fun r hr => by
    rw [hL] at hr
    obtain ⟨x, hx, rfl⟩ := List.mem_map.1 hr
    exact hP _ (row_mem (hps x hx)))
  rw [show cutN (z : Int) = z from by unfold cutN; omega, hL] at h
  rw [hL]; exact h
theorem rsum_rows (L : List (List F)) (hL : L = ps.map (row P)) : Ev (fun k => fountainref1_Sum.f k (z : Int) (tll L)) (tl (dropR z P ps)) := by
  have h := rsum_ev (z : Int) L (by rw [hL, List.length_map]; omega)
  rw [show cutN (z : Int) = z from by unfold cutN; omega, hL] at h
  rw [hL]; exact h
theorem drop_l0 (t : List Nat) : ∀ pre : List Nat, ps = pre ++ t → Ev (fun k => drops_Drop.l0 k (z : Int) (tll P) (tll (pre.map (row P))) (iN ps) (ps.length : Int) (pre.length : Int)) (tl (dropR z P ps)) := by
  induction t with
  | nil =>
    intro pre hp
    rw [List.append_nil] at hp
    refine Ev.step (fun k => by simp only [drops_Drop.l0]; rfl) ?_
    refine ev_neg (by rw [hp]; omega) (Ev.bind (sum_rows z hz P hP hPl ps hps hpl _ (by rw [hp])) (Ev.now _))
  | cons x t ih =>
    intro pre hp
    have hlen : ps.length = pre.length + (t.length + 1) := by rw [hp]; simp
    have hx : ps[pre.length]? = some x := by rw [hp, List.getElem?_append_right (Nat.le_refl _), Nat.sub_self]; rfl
    have hxl := hps x (by rw [hp]; simp)
    refine Ev.step (fun k => by simp only [drops_Drop.l0]; rfl) ?_
    refine ev_pos (by omega) (ev_pos (by omega) (ev_pos (by rw [iN_length]; omega) ?_))
    rw [rd_iN hx]
    refine ev_pos (by omega) (ev_pos (by rw [tll_length]; omega) (ev_pos (by rw [tll_length, List.length_map]; omega) ?_))
    rw [L1_tll, tl1, w64 (i := (pre.length : Int) + 1) (by omega) (by omega), show (pre.length : Int) + 1 = ((pre.length + 1 : Nat) : Int) from by omega]
    have := ih (pre ++ [x]) (by rw [hp, List.append_assoc]; rfl)
    rw [List.length_append, List.length_singleton, List.map_append] at this
    exact this
theorem rdrop_l0 (t : List Nat) : ∀ pre : List Nat, ps = pre ++ t → Ev (fun k => fountainref1_Drop.l0 k (z : Int) (tll P) (iN ps) (tll (pre.map (row P))) (pre.length : Int)) (tl (dropR z P ps)) := by
  induction t with
  | nil =>
    intro pre hp
    rw [List.append_nil] at hp
    refine Ev.step (fun k => by simp only [fountainref1_Drop.l0]; rfl) ?_
    refine ev_neg (by rw [iN_length, hp]; omega) (Ev.bind (rsum_rows z hz P hP hPl ps hps hpl _ (by rw [hp])) (Ev.now _))
  | cons x t ih =>
    intro pre hp
    have hlen : ps.length = pre.length + (t.length + 1) := by rw [hp]; simp
    have hx : ps[pre.length]? = some x := by rw [hp, List.getElem?_append_right (Nat.le_refl _), Nat.sub_self]; rfl
    have hxl := hps x (by rw [hp]; simp)
    refine Ev.step (fun k => by simp only [fountainref1_Drop.l0]; rfl) ?_
    refine ev_pos (by rw [iN_length]; omega) (ev_pos (by omega) ?_)
    rw [rd_iN hx]
    refine ev_pos (by omega) (ev_pos (by rw [tll_length]; omega) (ev_pos (by rw [tll_length, List.length_map]; omega) ?_))
    rw [L1_tll, tl1, w64 (i := (pre.length : Int) + 1) (by omega) (by omega), show (pre.length : Int) + 1 = ((pre.length + 1 : Nat) : Int) from by omega]
    have := ih (pre ++ [x]) (by rw [hp, List.append_assoc]; rfl)
    rw [List.length_append, List.length_singleton, List.map_append] at this
    exact this
end
/-- A block's symbol, of parts that are as many as they should be. -/
def symR (n j z : Nat) (P : List (List F)) (esi : Int) : List Int × Int :=
  if esi < 0 ∨ 16777216 ≤ esi then ([], 1) else if P.length = kL n then (tl (dropR z P (parts n j esi.toNat)), 0) else ([], 0)
theorem dOf_le (n j e : Nat) : dOf n j e ≤ kW n := by unfold dOf; omega
theorem kW_le {n : Nat} (h2 : n ≤ 40) : kW n ≤ 47 := by unfold kW kS; omega
theorem sym_ev {n j z : Nat} (h1 : 1 ≤ n) (h2 : n ≤ 40) (hj : j ≤ 255) (hz1 : 1 ≤ z) (hz : z ≤ 64) (P : List (List F)) (hP : ∀ r ∈ P, r.length < 2 ^ 50) (esi : Int) :
    Ev (fun k => sym.f k (n : Int) ((kS n : Nat) : Int) 2 (j : Int) (z : Int) (tll P) esi) (symR n j z P esi) ∧ Ev (fun k => rsym.f k (n : Int) (j : Int) (z : Int) (tll P) esi) (symR n j z P esi) := by
  unfold symR sym.f rsym.f
  by_cases hb : esi < 0 ∨ 16777216 ≤ esi
  · exact ⟨ev_ip hb (ev_pos hb (Ev.now _)), ev_ip hb (ev_pos hb (Ev.now _))⟩
  obtain ⟨e, rfl⟩ : ∃ e : Nat, esi = (e : Int) := ⟨esi.toNat, by omega⟩
  rw [Int.toNat_natCast]
  have he : e < 16777216 := by omega
  have hpl := parts_length n j e
  have hd := dOf_le n j e
  have hk := kW_le h2
  have hne : ¬ (((iN (parts n j e)).length : Int) = 0) := by rw [iN_length, hpl]; omega
  have hlt := parts_lt n j e
  refine ⟨ev_in hb (ev_neg hb ?_), ev_in hb (ev_neg hb ?_)⟩
  · unfold drops_Drop.f
    by_cases hl : P.length = kL n
    · refine ev_ip hl ?_
      have hx : Ev (fun k => (tuple_Parts.f k (n : Int) ((kS n : Nat) : Int) 2 (j : Int) (e : Int)).bind fun t300 => (if (t300.length : Int) = 0 then (drops_Drop.j0 k (z : Int) (tll P) t300 true) else ((params_Params_L.f (n : Int) ((kS n : Nat) : Int) 2).bind fun t303 => (if ((tll P).length : Int) = t303 then (if (z : Int) < 1 then (drops_Drop.j0 k (z : Int) (tll P) t300 true) else (drops_Drop.j0 k (z : Int) (tll P) t300 (decide ((z : Int) > 64)))) else (drops_Drop.j0 k (z : Int) (tll P) t300 true))))) (tl (dropR z P (parts n j e))) := by
        refine Ev.bind (parts_ev h1 h2 hj he) (ev_neg hne (ev_val (l_ok h2) (ev_pos (by rw [tll_length]; omega) (ev_neg (by omega) ?_))))
        rw [decide_eq_false (show ¬ (z : Int) > 64 by omega)]
        refine Ev.step (fun k => by simp only [drops_Drop.j0]; rfl) ?_
        refine ev_neg (by decide) ?_
        rw [iN_length]
        exact drop_l0 z hz P hP (by have := kL_le h2; omega) (parts n j e) (fun x hx => by rw [hl]; exact hlt x hx) (by omega) (parts n j e) [] rfl
      exact Ev.bind hx (Ev.now _)
    · refine ev_in hl ?_
      have hx : Ev (fun k => (tuple_Parts.f k (n : Int) ((kS n : Nat) : Int) 2 (j : Int) (e : Int)).bind fun t300 => (if (t300.length : Int) = 0 then (drops_Drop.j0 k (z : Int) (tll P) t300 true) else ((params_Params_L.f (n : Int) ((kS n : Nat) : Int) 2).bind fun t303 => (if ((tll P).length : Int) = t303 then (if (z : Int) < 1 then (drops_Drop.j0 k (z : Int) (tll P) t300 true) else (drops_Drop.j0 k (z : Int) (tll P) t300 (decide ((z : Int) > 64)))) else (drops_Drop.j0 k (z : Int) (tll P) t300 true))))) [] := by
        refine Ev.bind (parts_ev h1 h2 hj he) (ev_neg hne (ev_val (l_ok h2) (ev_neg (by rw [tll_length]; omega) ?_)))
        refine Ev.step (fun k => by simp only [drops_Drop.j0]; rfl) ?_
        exact ev_pos trivial (Ev.now _)
      exact Ev.bind hx (Ev.now _)
  · unfold fountainref1_Drop.f
    by_cases hl : P.length = kL n
    · refine ev_ip hl ?_
      have hx : Ev (fun k => (fountainref1_Parts.f k (n : Int) (j : Int) (e : Int)).bind fun t461 => (if (t461.length : Int) = 0 then (fountainref1_Drop.j0 k (z : Int) (tll P) t461 true) else ((fountainref1_L.f (n : Int)).bind fun t464 => (if ((tll P).length : Int) = t464 then (if (z : Int) < 1 then (fountainref1_Drop.j0 k (z : Int) (tll P) t461 true) else (fountainref1_Drop.j0 k (z : Int) (tll P) t461 (decide ((z : Int) > 64)))) else (fountainref1_Drop.j0 k (z : Int) (tll P) t461 true))))) (tl (dropR z P (parts n j e))) := by
        refine Ev.bind (rparts_ev h1 h2 hj he) (ev_neg hne (ev_val (rL_ok h2) (ev_pos (by rw [tll_length]; omega) (ev_neg (by omega) ?_))))
        rw [decide_eq_false (show ¬ (z : Int) > 64 by omega)]
        refine Ev.step (fun k => by simp only [fountainref1_Drop.j0]; rfl) ?_
        refine ev_neg (by decide) ?_
        exact rdrop_l0 z hz P hP (by have := kL_le h2; omega) (parts n j e) (fun x hx => by rw [hl]; exact hlt x hx) (by omega) (parts n j e) [] rfl
      exact Ev.bind hx (Ev.now _)
    · refine ev_in hl ?_
      have hx : Ev (fun k => (fountainref1_Parts.f k (n : Int) (j : Int) (e : Int)).bind fun t461 => (if (t461.length : Int) = 0 then (fountainref1_Drop.j0 k (z : Int) (tll P) t461 true) else ((fountainref1_L.f (n : Int)).bind fun t464 => (if ((tll P).length : Int) = t464 then (if (z : Int) < 1 then (fountainref1_Drop.j0 k (z : Int) (tll P) t461 true) else (fountainref1_Drop.j0 k (z : Int) (tll P) t461 (decide ((z : Int) > 64)))) else (fountainref1_Drop.j0 k (z : Int) (tll P) t461 true))))) [] := by
        refine Ev.bind (rparts_ev h1 h2 hj he) (ev_neg hne (ev_val (rL_ok h2) (ev_neg (by rw [tll_length]; omega) ?_)))
        refine Ev.step (fun k => by simp only [fountainref1_Drop.j0]; rfl) ?_
        exact ev_pos trivial (Ev.now _)
      exact Ev.bind hx (Ev.now _)

/-! ### a block -/
theorem odds_any (z : Int) : ∀ (L : List (List Int)) (i : Int), 0 ≤ i → decide (0 ≤ Cf.idx (odd z) L i) = L.any (odd z) := by
  intro L
  induction L with
  | nil => intro i _; rfl
  | cons r L ih =>
    intro i hi
    rw [List.any_cons]
    unfold Cf.idx
    by_cases h : odd z r = true
    · rw [if_pos h, h, Bool.true_or]; exact decide_eq_true hi
    · rw [if_neg h, (Bool.eq_false_iff.2 h : odd z r = false), Bool.false_or]; exact ih (i + 1) (by omega)
theorem fit_zero (z : Nat) : fitR z [] = List.replicate z 0 := by unfold fitR; simp
theorem fit_zeros (z : Nat) : fitR z (List.replicate z 0) = List.replicate z 0 := by unfold fitR; simp
theorem comb_congr (W S : Nat) : ∀ (M D E : List (List F)), D.map (fitR S) = E.map (fitR S) → comb W S M D = comb W S M E := by
  intro M
  induction M with
  | nil => intro D E _; cases D <;> cases E <;> rfl
  | cons m M ih =>
    intro D E h
    cases D with
    | nil => cases E with
      | nil => rfl
      | cons _ _ => simp at h
    | cons d D => cases E with
      | nil => simp at h
      | cons e E =>
        simp only [List.map_cons, List.cons.injEq] at h
        simp only [comb]
        rw [h.1, ih D E h.2]
/-- What is solved for: rows that tie, and the source. -/
def solB (n z : Nat) (j : Int) (L : List (List F)) : List (List Int) × Int := solR (kL n : Int) (z : Int) (matF n j (src n)) (List.replicate (kS n + 2) [] ++ L)
theorem solB_zero (n z : Nat) (j : Int) (L : List (List F)) : solR (kL n : Int) (z : Int) (matF n j (src n)) (List.replicate (kS n + 2) (List.replicate z 0) ++ L) = solB n z j L := by
  unfold solB solR
  rw [List.length_append, List.length_append, List.length_replicate, List.length_replicate]
  split
  · rfl
  · rw [Int.toNat_natCast, Int.toNat_natCast]
    rw [comb_congr (kL n) z (matF n j (src n)) (List.replicate (kS n + 2) (List.replicate z 0) ++ L) (List.replicate (kS n + 2) [] ++ L)]
    rw [List.map_append, List.map_append, List.map_replicate, List.map_replicate, fit_zero, fit_zeros]
theorem sol_shape (W S : Nat) (J : List (List F)) (h : ∀ r ∈ J, r.length = W + S) : ∃ P : List (List F), (sol W J).1 = tll P ∧ ∀ r ∈ P, r.length = S := by
  unfold sol
  split
  · exact ⟨[], rfl, fun r hr => by cases hr⟩
  · split
    · exact ⟨[], rfl, fun r hr => by cases hr⟩
    · refine ⟨_, rfl, fun r hr => ?_⟩
      obtain ⟨q, hq, rfl⟩ := List.mem_map.1 hr
      have := (run_facts h).2 q (List.mem_of_mem_take hq)
      rw [List.length_drop, this]; omega
theorem solB_shape (n z : Nat) (j : Int) (L : List (List F)) : ∃ P : List (List F), (solB n z j L).1 = tll P ∧ ∀ r ∈ P, r.length = z := by
  unfold solB solR
  split
  · exact ⟨[], rfl, fun r hr => by cases hr⟩
  · rw [Int.toNat_natCast, Int.toNat_natCast]
    exact sol_shape _ _ _ (comb_mem _ _ _ _)
/-- A block's numbers and parts. -/
def blockR (z : Int) (L : List (List F)) : Option (Nat × Nat × List (List Int)) × Int :=
  if z < 1 ∨ 64 < z ∨ (L.length : Int) < 1 ∨ 40 < (L.length : Int) then (none, 1) else if (tll L).any (odd z) = true then (none, 10) else
  if (seedOf (L.length : Int)).2 ≠ 0 then (none, (seedOf (L.length : Int)).2) else
  if (solB L.length z.toNat (seedOf (L.length : Int)).1 L).2 ≠ 0 then (none, (solB L.length z.toNat (seedOf (L.length : Int)).1 L).2) else
  (some (L.length, (seedOf (L.length : Int)).1.toNat, (solB L.length z.toNat (seedOf (L.length : Int)).1 L).1), 0)
theorem seed_nat (n : Int) : 0 ≤ (seedOf n).1 ∧ (seedOf n).1 ≤ 255 := by
  unfold seedOf
  split
  · exact ⟨by decide, by decide⟩
  · rcases find_says n.toNat 256 0 with e | ⟨i, g1, g2, e, _⟩
    · rw [e]; exact ⟨by decide, by decide⟩
    · rw [e]; simp only; omega
theorem parts_fn {n z : Nat} (h1 : 1 ≤ n) (h2 : n ≤ 40) (hz1 : 1 ≤ z) (hz : z ≤ 64) (j : Int) (L : List (List F)) (hL : L.length = n) (hs : ∀ r ∈ L, r.length < 2 ^ 40) :
    Ev (fun k => block_Parts.f k (n : Int) ((kS n : Nat) : Int) 2 j (z : Int) (src n) (tll L)) (solB n z j L) := by
  unfold block_Parts.f
  have hk := kS_le h2
  have e1 : wrap64 (((kS n : Nat) : Int) + 2) = ((kS n + 2 : Nat) : Int) := by rw [w64 (by omega) (by omega)]; omega
  have et : (List.replicate (kS n + 2) ([] : List Int)) = tll (List.replicate (kS n + 2) []) := by unfold tll; rw [List.map_replicate]; rfl
  have eM := mat_len h2 j (src n)
  rw [src_len] at eM
  have hq := Pz.ev_of (solve_ev (kL n : Int) (z : Int) (matF n j (src n)) (List.replicate (kS n + 2) [] ++ L) (by rw [matF_len]; omega) (fun r hr => by rw [matF_mem hr]; have := kL_le h2; omega) (fun r hr => by
    rcases List.mem_append.1 hr with h | h
    · rw [List.eq_of_mem_replicate h]; simp
    · exact hs r h))
  rw [tll_mat] at hq
  rw [e1, Int.toNat_natCast]
  refine ev_pos (by omega) (ev_pos (by omega) (ev_val rfl (ev_val (l_ok h2) ?_)))
  refine Ev.bind (matrix_ev h1 h2 j (src n) (by rw [src_len]; omega)) (ev_pos (by rw [List.length_replicate, tll_length]; omega) ?_)
  rw [et, show tll (List.replicate (kS n + 2) []) ++ tll L = tll (List.replicate (kS n + 2) [] ++ L) from by unfold tll; rw [List.map_append]]
  exact ev_val hq (Ev.now _)
theorem zero_l0 {n : Nat} (h2 : n ≤ 40) (z : Nat) (hz : z ≤ 64) (L : List (List F)) (hL : L.length < 2 ^ 40) (d : Nat) : ∀ i, i + d = kS n + 2 →
    Ev (fun k => fountainref1_zero.l0 k (n : Int) (z : Int) (tll L) (tll (List.replicate i (List.replicate z 0))) (i : Int)) (tll (List.replicate (kS n + 2) (List.replicate z 0) ++ L)) := by
  have hk := kS_le h2
  have e1 : wrap64 (((kS n : Nat) : Int) + 2) = ((kS n + 2 : Nat) : Int) := by rw [w64 (by omega) (by omega)]; omega
  induction d with
  | zero =>
    intro i hi
    refine Ev.step (fun k => by simp only [fountainref1_zero.l0]; rfl) ?_
    refine ev_val (rS_ok h2) ?_
    rw [e1]
    obtain rfl : i = kS n + 2 := by omega
    refine ev_neg (by omega) (ev_pos (by rw [tll_length, tll_length, List.length_replicate]; omega) ?_)
    rw [show tll (List.replicate (kS n + 2) (List.replicate z 0)) ++ tll L = tll (List.replicate (kS n + 2) (List.replicate z 0) ++ L) from by unfold tll; rw [List.map_append]]
    exact Ev.now _
  | succ d ih =>
    intro i hi
    refine Ev.step (fun k => by simp only [fountainref1_zero.l0]; rfl) ?_
    refine ev_val (rS_ok h2) ?_
    rw [e1]
    refine ev_pos (by omega) (ev_pos (by omega) (ev_pos (by rw [Int.toNat_natCast]; omega) (ev_pos (by rw [tll_length, List.length_replicate]; omega) ?_)))
    rw [Int.toNat_natCast, ← tl_replicate, tl1, w64 (i := (i : Int) + 1) (by omega) (by omega), show (i : Int) + 1 = ((i + 1 : Nat) : Int) from by omega]
    have := ih (i + 1) (by omega)
    rw [List.replicate_succ'] at this
    exact this
theorem new_ev (z : Int) (L : List (List F)) (hL : L.length < 2 ^ 40) (hs : ∀ r ∈ L, r.length < 2 ^ 40) :
    Ev (fun k => new.f k z (tll L)) (match blockR z L with | (none, e) => (none, e) | (some b, e) => (some ((b.1 : Int), ((kS b.1 : Nat) : Int), 2, (b.2.1 : Int), b.2.2), e)) ∧
    Ev (fun k => rnew.f k z (tll L)) (match blockR z L with | (none, e) => (none, e) | (some b, e) => (some ((b.1 : Int), (b.2.1 : Int), b.2.2), e)) := by
  unfold new.f rnew.f blockR
  rw [tll_length]
  by_cases hb : z < 1 ∨ 64 < z ∨ (L.length : Int) < 1 ∨ 40 < (L.length : Int)
  · rw [if_pos hb]
    refine ⟨?_, ev_pos hb (Ev.now _)⟩
    by_cases hn : (L.length : Int) < 1 ∨ 40 < (L.length : Int)
    · exact ev_val (of_no hn) (ev_pos (by simp) (Ev.now _))
    · exact ev_val (of_ok (by omega) (by omega)) (ev_pos (by omega) (Ev.now _))
  rw [if_neg hb]
  obtain ⟨n, hn⟩ : ∃ n, L.length = n := ⟨_, rfl⟩
  rw [hn] at hb ⊢
  obtain ⟨y, rfl⟩ : ∃ y : Nat, z = (y : Int) := ⟨z.toNat, by omega⟩
  rw [Int.toNat_natCast]
  have ho : odds (y : Int) (tll L) = (tll L).any (odd (y : Int)) := odds_any _ _ 0 (Int.le_refl _)
  obtain ⟨s1, s2⟩ := seed_nat (n : Int)
  have hof := of_ok (k := n) (by omega) (by omega)
  by_cases h10 : (tll L).any (odd (y : Int)) = true
  · rw [if_pos h10]
    exact ⟨ev_val hof (ev_neg (by simp only; omega) (ev_pos (by rw [ho]; exact h10) (Ev.now _))), ev_neg hb (ev_pos h10 (Ev.now _))⟩
  rw [if_neg h10]
  have hf := find_ev (n : Int)
  have hg := seed_ev (n : Int)
  by_cases he : (seedOf (n : Int)).2 ≠ 0
  · rw [if_pos he]
    exact ⟨ev_val hof (ev_neg (by simp only; omega) (ev_neg (by rw [ho]; exact h10) (Ev.bind hf (ev_pos he (Ev.now _))))), ev_neg hb (ev_neg h10 (Ev.bind hg (ev_pos he (Ev.now _))))⟩
  rw [if_neg he]
  have hp := parts_fn (n := n) (z := y) (by omega) (by omega) (by omega) (by omega) (seedOf (n : Int)).1 L hn hs
  have hzr := zero_l0 (n := n) (by omega) y (by omega) L hL (kS n + 2) 0 (by omega)
  have eM := mat_len (k := n) (by omega) (seedOf (n : Int)).1 (src n)
  rw [src_len] at eM
  have hr := rsolve_ev (kL n : Int) (y : Int) (matF n (seedOf (n : Int)).1 (src n)) (List.replicate (kS n + 2) (List.replicate y 0) ++ L) (by rw [matF_len]; omega)
  rw [tll_mat, solB_zero] at hr
  generalize hq : solB n y (seedOf (n : Int)).1 L = q at hp hr ⊢
  have es : ((seedOf (n : Int)).1.toNat : Int) = (seedOf (n : Int)).1 := by omega
  by_cases hq2 : q.2 ≠ 0
  · rw [if_pos hq2]
    refine ⟨ev_val hof (ev_neg (by simp only; omega) (ev_neg (by rw [ho]; exact h10) (Ev.bind hf (ev_neg he (Ev.bind (sources_ev (by omega)) (Ev.bind hp (ev_pos hq2 (Ev.now _)))))))), ?_⟩
    exact ev_neg hb (ev_neg h10 (Ev.bind hg (ev_neg he (ev_val (rL_ok (by omega)) (Ev.bind (first_ev (by omega)) (Ev.bind (rmatrix_ev (by omega) (by omega) _ _ (by rw [src_len]; omega)) (Ev.bind hzr (Ev.bind hr (ev_pos hq2 (Ev.now _))))))))))
  · rw [if_neg hq2]
    simp only
    rw [es]
    refine ⟨ev_val hof (ev_neg (by simp only; omega) (ev_neg (by rw [ho]; exact h10) (Ev.bind hf (ev_neg he (Ev.bind (sources_ev (by omega)) (Ev.bind hp (ev_neg hq2 (Ev.now _)))))))), ?_⟩
    exact ev_neg hb (ev_neg h10 (Ev.bind hg (ev_neg he (ev_val (rL_ok (by omega)) (Ev.bind (first_ev (by omega)) (Ev.bind (rmatrix_ev (by omega) (by omega) _ _ (by rw [src_len]; omega)) (Ev.bind hzr (Ev.bind hr (ev_neg hq2 (Ev.now _))))))))))
end Go.Proofs.Ytbfhinfblepidaa.Bp
