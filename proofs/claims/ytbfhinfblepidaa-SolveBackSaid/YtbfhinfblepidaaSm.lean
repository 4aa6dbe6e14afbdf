/- What the program's Solve and the document's come to: rows of elements, or why none. Conditions: those that stand in the theorems. -/
import Derived.Test.YtbfhinfblepidaaSl
import Derived.Test.YtbfhinfblepidaaRsSolveTells
import Derived.Test.YtbfhinfblepidaaSoSolveTells
namespace Go.Proofs.Ytbfhinfblepidaa.Sl
open Go.RowKit Go.Proofs.Ytbfhinfblepidaa.PSolveTells Go.Proofs.YtbfhinfblepidaaW.PrintWords Go.Proofs.YtbfhinfblepidaaW.PrintLast Go.Proofs.Ytbfhinfblepidaa.Gf Go.Proofs.Ytbfhinfblepidaa.Rw Go.Proofs.Ytbfhinfblepidaa.La Go.Proofs.Ytbfhinfblepidaa.Sv Go.Proofs.Ytbfhinfblepidaa.FSolveTells Go.Proofs.Ytbfhinfblepidaa.Mt Go.Proofs.Ytbfhinfblepidaa.RdSolveTells Go.Proofs.Ytbfhinfblepidaa.StSolveTells Go.Proofs.Ytbfhinfblepidaa.RkSolveTells Go.Proofs.Ytbfhinfblepidaa.RrSolveTells Go.Proofs.Ytbfhinfblepidaa.SoSolveTells Go.Proofs.Ytbfhinfblepidaa.RsSolveTells
theorem rsums_ev (W S : Nat) (hW : W ≤ 1000) (hS : S ≤ 1000) (M D : List (List F)) : ∀ (t u pm pd : List (List F)), M = pm ++ t → D = pd ++ u → t.length = u.length → pm.length = pd.length →
    Ev (fun k => rsums k W S (tll M) (tll D) t.length pm.length (tll (comb W S pm pd))) (tll (comb W S M D)) := by
  intro t
  induction t with
  | nil => intro u pm pd h1 h2 h3 h4
           cases u with
           | nil => subst h1; subst h2; rw [List.append_nil, List.append_nil]; exact Ev.now _
           | cons _ _ => simp at h3
  | cons m t ih =>
    intro u pm pd h1 h2 h3 h4
    cases u with
    | nil => simp at h3
    | cons d u =>
      have e1 : ro (tll M) pm.length = tl m := by rw [ro_tll, h1, row_at]
      have e2 : ro (tll D) pm.length = tl d := by rw [ro_tll, h2, h4, row_at]
      simp only [List.length_cons, rsums]
      rw [e1, e2]
      refine Ev.bind (fit1_ev W hW m) (Ev.bind (fit1_ev S hS d) (ev_pos ?_ ?_))
      · rw [tl_length, tl_length, fitR_length, fitR_length]; exact ⟨rfl, rfl⟩
      · have hc : ∀ (pm pd : List (List F)), pm.length = pd.length → comb W S (pm ++ [m]) (pd ++ [d]) = comb W S pm pd ++ [fitR W m ++ fitR S d] := by
          intro pm
          induction pm with
          | nil => intro pd h; cases pd with
            | nil => rfl
            | cons _ _ => simp at h
          | cons a pm ih => intro pd h; cases pd with
            | nil => simp at h
            | cons b pd => simp only [List.cons_append, comb, ih pd (by simpa using h)]
        have := ih u (pm ++ [m]) (pd ++ [d]) (by rw [h1, List.append_assoc]; rfl) (by rw [h2, List.append_assoc]; rfl) (by simpa using h3) (by simp [h4])
        rw [List.length_append, List.length_singleton, hc pm pd h4] at this
        rw [show tll (comb W S pm pd) ++ [tl (fitR W m) ++ tl (fitR S d)] = tll (comb W S pm pd ++ [fitR W m ++ fitR S d]) from by unfold tll; rw [List.map_append, ← tl_append]; rfl]
        exact this
theorem any_tl (r : List F) : Cb.any (tl r) = nzr (tl r) := by
  unfold Cb.any nzr
  have : ∀ (l : List Int) (i : Int), 0 ≤ i → decide (0 ≤ Cb.ix l i) = l.any fun x => decide (x ≠ 0) := by
    intro l
    induction l with
    | nil => intro i _; rfl
    | cons x l ih =>
      intro i hi
      rw [List.any_cons]
      unfold Cb.ix
      by_cases e : x = 0
      · subst e
        simp only [ne_eq, not_true_eq_false, decide_false, Bool.false_or, if_false]
        exact ih (i + 1) (by omega)
      · simp only [ne_eq, e, not_false_eq_true, decide_true, Bool.true_or, if_true]
        exact decide_eq_true hi
  exact this _ 0 (Int.le_refl _)
theorem loose_eq (W : Nat) (X : List (List F)) : loose (hi W X) = loose2 W (tll X) := by
  unfold loose loose2 hi tll
  rw [List.map_map, List.any_map, List.any_map]
  congr 1
  funext r
  show Cb.any (tl (r.drop W)) = nzr ((tl r).drop W)
  rw [any_tl, tl_drop]
/-- The rows that are told, and an error's number. -/
def sol (W : Nat) (J : List (List F)) : List (List Int) × Int :=
  if (run true W 0 0 J).1 < W then ([], 4)
  else if loose2 W (tll ((run true W 0 0 J).2.drop W)) = true then ([], 4) else (hi W ((run true W 0 0 J).2.take W), 0)
def solR (a0 a1 : Int) (M D : List (List F)) : List (List Int) × Int :=
  if a0 < 1 ∨ a0 > 300 ∨ a1 < 1 ∨ a1 > 1000 ∨ M.length ≠ D.length then ([], 1) else sol a0.toNat (comb a0.toNat a1.toNat M D)
theorem hi_drop (W : Nat) (J : List (List F)) (n : Nat) : (hi W J).drop n = hi W (J.drop n) := by unfold hi tll; rw [List.map_drop, List.map_drop]
theorem hi_take (W : Nat) (J : List (List F)) (n : Nat) : (hi W J).take n = hi W (J.take n) := by unfold hi tll; rw [List.map_take, List.map_take]
theorem ev_ip {α : Type} {c : Prop} [Decidable c] {f : Nat → Option α} {a b : α} (h : c) (e : Ev f a) : Ev f (if c then a else b) := by rw [if_pos h]; exact e
theorem ev_in {α : Type} {c : Prop} [Decidable c] {f : Nat → Option α} {a b : α} (h : ¬ c) (e : Ev f b) : Ev f (if c then a else b) := by rw [if_neg h]; exact e
theorem run_facts {W S : Nat} {J : List (List F)} (h : ∀ r ∈ J, r.length = W + S) : (run true W 0 0 J).1 ≤ (run true W 0 0 J).2.length ∧ ∀ r ∈ (run true W 0 0 J).2, r.length = W + S := by
  obtain ⟨qs, a, _⟩ := run_red W (Red.start h)
  exact ⟨a.nl, a.len⟩
theorem solve_ev (a0 a1 : Int) (M D : List (List F)) (hM : M.length < 2 ^ 40) (hs : ∀ r ∈ M, r.length < 2 ^ 40) (ht : ∀ r ∈ D, r.length < 2 ^ 40) : Ev (fun k => solve.f k a0 a1 (tll M) (tll D)) (solR a0 a1 M D) := by
  unfold solve.f solR
  rw [tll_length, tll_length]
  by_cases hb : a0 < 1 ∨ a0 > 300 ∨ a1 < 1 ∨ a1 > 1000 ∨ M.length ≠ D.length
  · refine ev_ip hb ?_; exact ev_pos hb (Ev.now _)
  · refine ev_in hb ?_
    refine ev_neg hb ?_
    have h1 : 1 ≤ a0 ∧ a0 ≤ 300 ∧ 1 ≤ a1 ∧ a1 ≤ 1000 ∧ M.length = D.length := by omega
    clear hb
    obtain ⟨b1, b2, b3, b4, b5⟩ := h1
    obtain ⟨W, rfl⟩ : ∃ W : Nat, a0 = (W : Int) := ⟨a0.toNat, by omega⟩
    obtain ⟨S, rfl⟩ : ∃ S : Nat, a1 = (S : Int) := ⟨a1.toNat, by omega⟩
    rw [Int.toNat_natCast, Int.toNat_natCast]
    refine Ev.bind (sfit_ev W (by omega) M hM hs) (Ev.bind (sfit_ev S (by omega) D (by omega) ht) (ev_pos ?_ ?_))
    · rw [tll_length, tll_length, List.length_map, List.length_map]; exact ⟨rfl, b5.symm, hM⟩
    · have hm := comb_mem W S M D
      have h := l0_ev W S (by omega) (by omega) false W 0 0 (comb W S M D) hm (by omega)
      rw [comb_lo W S M D b5, comb_hi W S M D b5] at h
      refine Ev.bind h ?_
      unfold sol
      obtain ⟨k1, k2⟩ := run_facts hm
      rcases run_false W (Red.start hm) (Nat.le_refl 0) with e | ⟨e1, e2⟩
      · rw [e]
        generalize run true W 0 0 (comb W S M D) = R at k1 k2 ⊢
        by_cases c1 : R.1 < W
        · refine ev_ip c1 ?_; exact ev_pos (by simp only; omega) (Ev.now _)
        · refine ev_in c1 ?_
          refine ev_neg (by simp only; omega) (ev_pos (by simp only; rw [hi_len]; omega) ?_)
          simp only
          rw [hi_drop, hi_take, loose_eq]
          by_cases c2 : loose2 W (tll (R.2.drop W)) = true
          · refine ev_ip c2 ?_; exact ev_pos c2 (Ev.now _)
          · refine ev_in c2 ?_; exact ev_neg c2 (Ev.now _)
      · refine ev_ip (by omega) ?_; exact ev_pos (by simp only; omega) (Ev.now _)
theorem rsolve_ev (a0 a1 : Int) (M D : List (List F)) (hM : M.length < 2 ^ 40) : Ev (fun k => rsolve.f k a0 a1 (tll M) (tll D)) (solR a0 a1 M D) := by
  unfold rsolve.f solR
  rw [tll_length, tll_length]
  by_cases hb : a0 < 1 ∨ a0 > 300 ∨ a1 < 1 ∨ a1 > 1000 ∨ M.length ≠ D.length
  · refine ev_ip hb ?_; exact ev_pos hb (Ev.now _)
  · refine ev_in hb ?_
    refine ev_neg hb (ev_pos hM ?_)
    have h1 : 1 ≤ a0 ∧ a0 ≤ 300 ∧ 1 ≤ a1 ∧ a1 ≤ 1000 ∧ M.length = D.length := by omega
    clear hb
    obtain ⟨b1, b2, b3, b4, b5⟩ := h1
    obtain ⟨W, rfl⟩ : ∃ W : Nat, a0 = (W : Int) := ⟨a0.toNat, by omega⟩
    obtain ⟨S, rfl⟩ : ∃ S : Nat, a1 = (S : Int) := ⟨a1.toNat, by omega⟩
    rw [Int.toNat_natCast, Int.toNat_natCast]
    refine Ev.bind (rsums_ev W S (by omega) (by omega) M D M D [] [] rfl rfl b5 rfl) ?_
    have hm := comb_mem W S M D
    refine Ev.bind (st_ev (W + S) (by omega) W 0 0 (comb W S M D) hm (by omega) (Nat.zero_le _)) ?_
    unfold sol
    obtain ⟨k1, k2⟩ := run_facts hm
    generalize run true W 0 0 (comb W S M D) = R at k1 k2 ⊢
    simp only
    by_cases c1 : R.1 < W
    · refine ev_ip c1 ?_; exact ev_pos c1 (Ev.now _)
    · refine ev_in c1 ?_
      refine ev_neg c1 (ev_pos ⟨by rw [tll_length]; omega, fun r hr => ?_⟩ ?_)
      · obtain ⟨q, hq, rfl⟩ := List.mem_map.1 hr
        rw [tl_length]; exact k2 q hq
      · rw [show (tll R.2).drop W = tll (R.2.drop W) from by unfold tll; rw [List.map_drop]]
        rw [show ((tll R.2).take W).map (·.drop W) = hi W (R.2.take W) from by
          unfold hi tll; rw [← List.map_take, List.map_map, List.map_map]
          exact List.map_congr_left fun r _ => tl_drop r W]
        by_cases c2 : loose2 W (tll (R.2.drop W)) = true
        · refine ev_ip c2 ?_; exact ev_pos c2 (Ev.now _)
        · refine ev_in c2 ?_; exact ev_neg c2 (Ev.now _)
end Go.Proofs.Ytbfhinfblepidaa.Sl
