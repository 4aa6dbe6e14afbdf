/- Proved: RowsTell answers true: the program's sums, mixtures, products and scaled rows are the document's own. Conditions: the arguments' numbers are of their kinds, and there are fewer of them than memory holds. -/
import Derived.Test.YtinplhdjgjijiaaFRowsTell
namespace Go.Proofs.Ytinplhdjgjijiaa.Pure
open Go.RowKit Go.Proofs.Ytinplhdjgjijiaa.PRowsTell Go.Proofs.YtinplhdjgjijiaaW.PrintWords Go.Proofs.YtinplhdjgjijiaaW.PrintLast Go.Proofs.Ytinplhdjgjijiaa.Rw Go.Proofs.Ytinplhdjgjijiaa.FRowsTell

theorem told (n : Int) (c : List F) (L : List (List F)) (a b : List F) (y : F) (hc : c.length ≤ 300) (hL : L.length ≤ 4000) (hs : ∀ r ∈ L, r.length ≤ 4000) (ha : a.length ≤ 300) (t : Bool) :
    Ev (fun k => fountainlaw2_RowsTell.j0 k n (tl c) (tll L) (tl a) (tl b) (ti y) t false) true := by
  have hs2 : ∀ r ∈ L, r.length < 2 ^ 40 := fun r hr => by have := hs r hr; omega
  have hs3 : ∀ r ∈ L, r.length < 2 ^ 50 := fun r hr => by have := hs r hr; omega
  have hTo := to_ev L (by omega) hs2
  refine Ev.step (fun k => by simp only [fountainlaw2_RowsTell.j0]; rfl) ?_
  refine ev_neg (by decide) ?_
  refine Ev.bind hTo (Ev.bind (sum_ev n L (by omega) hs3) (Ev.bind (rsum_ev n L (by omega)) (ev_pos rfl ?_)))
  refine Ev.bind hTo (Ev.bind (mix_ev n c L (by omega) hs2) (Ev.bind (rmix_ev n c L (by omega)) (ev_pos rfl ?_)))
  refine Ev.bind (dot_ev a b (by omega)) (Ev.bind (rdot_ev a b (by omega)) (ev_pos rfl ?_))
  refine Ev.bind (scale_ev y a (by omega)) (Ev.bind (rscale_ev y a (by omega)) ?_)
  rw [beq_self_eq_true]
  exact Ev.now _
theorem away (n : Int) (c : List Int) (L : List (List Int)) (a b : List Int) (y : Int) : Ev (fun k => fountainlaw2_RowsTell.j0 k n c L a b y true true) true := by
  refine Ev.step (fun k => by simp only [fountainlaw2_RowsTell.j0]; rfl) ?_
  exact ev_pos trivial (Ev.now _)
theorem RowsTell (n : Int) (_ : -2 ^ 63 ≤ n ∧ n < 2 ^ 63) (c : List Int) (hc : c.length < 2 ^ 48 ∧ ∀ x ∈ c, 0 ≤ x ∧ x ≤ 255) (L : List (List Int)) (hL : L.length < 2 ^ 48 ∧ ∀ r ∈ L, r.length < 2 ^ 48 ∧ ∀ x ∈ r, 0 ≤ x ∧ x ≤ 255)
    (a : List Int) (ha : a.length < 2 ^ 48 ∧ ∀ x ∈ a, 0 ≤ x ∧ x ≤ 255) (b : List Int) (hb : b.length < 2 ^ 48 ∧ ∀ x ∈ b, 0 ≤ x ∧ x ≤ 255) (y : Int) (hy : 0 ≤ y ∧ y ≤ 255) : Ev (fun k => fountainlaw2_RowsTell.f k n c L a b y) true := by
  obtain ⟨c, rfl⟩ := tl_of c hc.2
  obtain ⟨a, rfl⟩ := tl_of a ha.2
  obtain ⟨b, rfl⟩ := tl_of b hb.2
  obtain ⟨M, rfl⟩ := tll_of L fun r hr => (hL.2 r hr).2
  obtain ⟨y, rfl⟩ : ∃ m : F, y = ti m := by
    obtain ⟨m, hm⟩ := tl_of [y] (by simpa using hy)
    cases m with
    | nil => simp [tl] at hm
    | cons z m => simp [tl] at hm; exact ⟨z, hm.1⟩
  have h1 : M.length < 2 ^ 50 := by have := hL.1; rw [tll_length] at this; omega
  have h2 : ∀ r ∈ M, r.length < 2 ^ 50 := fun r hr => by
    have := (hL.2 (tl r) (List.mem_map.2 ⟨r, hr, rfl⟩)).1
    rw [tl_length] at this; omega
  unfold fountainlaw2_RowsTell.f
  refine Ev.bind alive2_ev (ev_pos rfl ?_)
  obtain ⟨t, e, ht⟩ := few_ev M h1 h2
  refine Ev.bind e ?_
  by_cases k0 : t = true
  · obtain ⟨g1, g2⟩ := ht k0
    refine ev_pos k0 ?_
    rw [tl_length, tl_length, tl_length]
    by_cases k1 : c.length ≤ 300
    · refine ev_neg (by omega) ?_
      by_cases k2 : a.length ≤ 300
      · refine ev_neg (by omega) ?_
        by_cases k3 : b.length ≤ 300
        · rw [decide_eq_false (show ¬ (b.length : Int) > 300 by omega)]
          exact told n c M a b y k1 g1 g2 k2 true
        · rw [decide_eq_true (show (b.length : Int) > 300 by omega)]
          exact away ..
      · exact ev_pos (by omega) (away ..)
    · exact ev_pos (by omega) (away ..)
  · exact ev_neg k0 (away ..)
end Go.Proofs.Ytinplhdjgjijiaa.Pure
