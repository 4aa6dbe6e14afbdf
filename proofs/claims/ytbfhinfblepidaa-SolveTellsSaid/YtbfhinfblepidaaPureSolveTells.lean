/- Proved: SolveTells answers true: the program's ranks and answers are the document's own. Conditions: the arguments' numbers are of their kinds, and there are fewer of them than memory holds. -/
import Derived.Test.YtbfhinfblepidaaSl
import Derived.Test.YtbfhinfblepidaaTlSolveTells
namespace Go.Proofs.Ytbfhinfblepidaa.Pure
open Go.RowKit Go.Proofs.Ytbfhinfblepidaa.PSolveTells Go.Proofs.YtbfhinfblepidaaW.PrintWords Go.Proofs.YtbfhinfblepidaaW.PrintLast Go.Proofs.Ytbfhinfblepidaa.Rw Go.Proofs.Ytbfhinfblepidaa.FSolveTells Go.Proofs.Ytbfhinfblepidaa.Sl Go.Proofs.Ytbfhinfblepidaa.TlSolveTells

theorem sol_len (a0 a1 : Int) (M D : List (List F)) (h : a0 ≤ 40) : (solR a0 a1 M D).1.length ≤ 300 := by
  unfold solR
  split
  · simp
  · rename_i hb
    unfold sol
    split
    · simp
    · split
      · simp
      · simp only
        rw [hi_len, List.length_take]
        omega
theorem SolveTells (a0 : Int) (_ : -2 ^ 63 ≤ a0 ∧ a0 < 2 ^ 63) (a1 : Int) (_ : -2 ^ 63 ≤ a1 ∧ a1 < 2 ^ 63) (M : List (List Int)) (hM : M.length < 2 ^ 48 ∧ ∀ r ∈ M, r.length < 2 ^ 48 ∧ ∀ x ∈ r, 0 ≤ x ∧ x ≤ 255)
    (D : List (List Int)) (hD : D.length < 2 ^ 48 ∧ ∀ r ∈ D, r.length < 2 ^ 48 ∧ ∀ x ∈ r, 0 ≤ x ∧ x ≤ 255) : Ev (fun k => fountainlaw3_SolveTells.f k a0 a1 M D) true := by
  obtain ⟨M, rfl⟩ := tll_of M fun r hr => (hM.2 r hr).2
  obtain ⟨D, rfl⟩ := tll_of D fun r hr => (hD.2 r hr).2
  have ok : ∀ L : List (List F), ((tll L).length < 2 ^ 48 ∧ ∀ r ∈ tll L, r.length < 2 ^ 48 ∧ ∀ x ∈ r, 0 ≤ x ∧ x ≤ 255) → L.length < 2 ^ 50 ∧ ∀ r ∈ L, r.length < 2 ^ 50 := fun L h => ⟨by have := h.1; rw [tll_length] at this; omega, fun r hr => by
    have := (h.2 (tl r) (List.mem_map.2 ⟨r, hr, rfl⟩)).1
    rw [tl_length] at this; omega⟩
  obtain ⟨m1, m2⟩ := ok M hM
  obtain ⟨d1, d2⟩ := ok D hD
  clear hM hD ok
  unfold fountainlaw3_SolveTells.f
  obtain ⟨t, e, ht⟩ := few_ev M m1 m2
  refine Ev.bind e ?_
  cases t with
  | false => exact ev_pos rfl (Ev.now _)
  | true =>
    refine ev_neg (by decide) ?_
    obtain ⟨u, e2, hu⟩ := few_ev D d1 d2
    refine Ev.bind e2 ?_
    cases u with
    | false => exact ev_pos rfl (Ev.now _)
    | true =>
      refine ev_neg (by decide) ?_
      obtain ⟨_, hs⟩ := ht rfl
      obtain ⟨_, hs'⟩ := hu rfl
      have hs2 : ∀ r ∈ M, r.length < 2 ^ 40 := fun r hr => by have := hs r hr; omega
      have hs3 : ∀ r ∈ D, r.length < 2 ^ 40 := fun r hr => by have := hs' r hr; omega
      rw [tll_length, tll_length]
      by_cases g1 : 40 < a0
      · exact ev_pos g1 (Ev.now _)
      refine ev_neg g1 ?_
      by_cases g2 : (60 : Int) < (M.length : Int)
      · exact ev_pos g2 (Ev.now _)
      refine ev_neg g2 ?_
      by_cases g3 : (60 : Int) < (D.length : Int)
      · exact ev_pos g3 (Ev.now _)
      refine ev_neg g3 ?_
      by_cases g4 : 100 < a1 ∧ a1 ≤ 1000
      · exact ev_pos g4 (Ev.now _)
      refine ev_neg g4 ?_
      refine Ev.bind (to_ev M (by omega) hs2) (Ev.bind (to_ev D (by omega) hs3) ?_)
      refine Ev.bind (solve_ev a0 a1 M D (by omega) hs2 hs3) (Ev.bind (rsolve_ev a0 a1 M D (by omega)) ?_)
      refine Ev.bind (rank_ev a0 M (by omega) hs2) (Ev.bind (rrank_ev a0 M (by omega)) ?_)
      have hl := sol_len a0 a1 M D (by omega)
      generalize solR a0 a1 M D = s at hl ⊢
      refine Ev.bind (from_ev s.1 (by omega)) (Ev.bind (same_ev s.1 (by omega)) ?_)
      rw [beq_self_eq_true, beq_self_eq_true]
      exact Ev.now _
end Go.Proofs.Ytbfhinfblepidaa.Pure
