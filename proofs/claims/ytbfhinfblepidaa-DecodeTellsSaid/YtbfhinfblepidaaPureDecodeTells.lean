/- Proved: DecodeTells answers true: the program decodes what the document decodes, and finds the same numbers enough. Conditions: the arguments' numbers are of their kinds, and there are fewer of them than memory holds. -/
import Derived.Test.YtbfhinfblepidaaDw
import Derived.Test.YtbfhinfblepidaaPDecodeTellsx20
namespace Go.Proofs.Ytbfhinfblepidaa.Pure
open Go.RowKit Go.Proofs.Ytbfhinfblepidaa.PSolveTells Go.Proofs.Ytbfhinfblepidaa.PSeedTells Go.Proofs.Ytbfhinfblepidaa.PBlockTells Go.Proofs.Ytbfhinfblepidaa.PDecodeTells Go.Proofs.YtbfhinfblepidaaW.PrintWords Go.Proofs.YtbfhinfblepidaaW.PrintLast Go.Proofs.Ytbfhinfblepidaa.Rw Go.Proofs.Ytbfhinfblepidaa.FSolveTells Go.Proofs.Ytbfhinfblepidaa.FSeedTells Go.Proofs.Ytbfhinfblepidaa.Sl Go.Proofs.Ytbfhinfblepidaa.Sd Go.Proofs.Ytbfhinfblepidaa.Dr Go.Proofs.Ytbfhinfblepidaa.Dq Go.Proofs.Ytbfhinfblepidaa.Dw
theorem skip (K z : Int) (es : List Int) (ds : List (List Int)) : Ev (fun k => fountainlaw11_DecodeTells.j0 k K z es ds true true) true := by
  refine Ev.step (fun k => by simp only [fountainlaw11_DecodeTells.j0]; rfl) ?_
  exact ev_pos trivial (Ev.now _)
theorem main (K z : Int) (es : List Int) (L : List (List F)) (he : es.length ≤ 30) (hl : es.length ≤ L.length) (hs : ∀ r ∈ L, r.length ≤ 4000) : Ev (fun k => fountainlaw11_DecodeTells.j0 k K z es (tll L) true false) true := by
  refine Ev.step (fun k => by simp only [fountainlaw11_DecodeTells.j0]; rfl) ?_
  have h42 : (decR K z (zipD es (tll L))).1.length < 2 ^ 42 := by have := decR_len K z (zipD es (tll L)); omega
  refine ev_neg (by decide) (Ev.bind (symbols_ev es (tll L) (by omega) (by rw [tll_length]; exact hl) (fun r hr => by
    obtain ⟨q, hq, rfl⟩ := List.mem_map.1 hr
    have := hs q hq
    rw [tl_length]; omega)) (ev_val (dblock_at K z es L (by omega) hl) (ev_val (rdec_at K z es L (by omega) hl) ?_)))
  generalize decR K z (zipD es (tll L)) = q at h42 ⊢
  refine Ev.bind (from_ev q.1 h42) (Ev.bind (same_ev q.1 h42) (ev_pos rfl (ev_val rfl (ev_pos rfl (ev_val (denough_at K es (by omega)) (Ev.bind (renough_ev K es (by omega)) ?_))))))
  rw [beq_self_eq_true]
  exact Ev.now _
theorem DecodeTells (K : Int) (_ : -2 ^ 63 ≤ K ∧ K < 2 ^ 63) (z : Int) (_ : -2 ^ 63 ≤ z ∧ z < 2 ^ 63) (es : List Int) (hE : es.length < 2 ^ 48 ∧ ∀ x ∈ es, -2 ^ 63 ≤ x ∧ x < 2 ^ 63) (L : List (List Int)) (hL : L.length < 2 ^ 48 ∧ ∀ r ∈ L, r.length < 2 ^ 48 ∧ ∀ x ∈ r, 0 ≤ x ∧ x ≤ 255) :
    Ev (fun k => fountainlaw11_DecodeTells.f k K z es L) true := by
  obtain ⟨M, rfl⟩ := tll_of L fun r hr => (hL.2 r hr).2
  have m1 : M.length < 2 ^ 50 := by have := hL.1; rw [tll_length] at this; omega
  have m2 : ∀ r ∈ M, r.length < 2 ^ 50 := fun r hr => by
    have := (hL.2 (tl r) (List.mem_map.2 ⟨r, hr, rfl⟩)).1
    rw [tl_length] at this; omega
  unfold fountainlaw11_DecodeTells.f
  refine ev_val rfl (ev_pos rfl ?_)
  have rest : Ev (fun k => if (es.length : Int) > 30 then (fountainlaw11_DecodeTells.j0 k K z es (tll M) true true) else (if ((tll M).length : Int) < (es.length : Int) then (fountainlaw11_DecodeTells.j0 k K z es (tll M) true true) else ((fountainlaw2_Few.f k (tll M)).bind fun t550 => (fountainlaw11_DecodeTells.j0 k K z es (tll M) true (!t550))))) true := by
    by_cases c1 : (es.length : Int) > 30
    · exact ev_pos c1 (skip _ _ _ _)
    refine ev_neg c1 ?_
    by_cases c2 : ((tll M).length : Int) < (es.length : Int)
    · exact ev_pos c2 (skip _ _ _ _)
    refine ev_neg c2 ?_
    obtain ⟨t, e, ht⟩ := few_ev M m1 m2
    refine Ev.bind e ?_
    cases t with
    | false => exact skip _ _ _ _
    | true => exact main K z es M (by omega) (by rw [tll_length] at c2; omega) (ht rfl).2
  by_cases c1 : K > 14
  · refine ev_pos c1 ?_
    by_cases c2 : K ≤ 40
    · exact ev_pos c2 (skip _ _ _ _)
    · exact ev_neg c2 rest
  · exact ev_neg c1 rest
end Go.Proofs.Ytbfhinfblepidaa.Pure
