/- Proved: SolveRank answers true: a rank is at most how many rows and places there are; a row more raises it by one or not, and one that is made of others does not. Conditions: the arguments' numbers are of their kinds, and there are fewer of them than memory holds. -/
import Derived.Test.YtbfhinfblepidaaSl
import Derived.Test.YtbfhinfblepidaaFSolveRank
namespace Go.Proofs.Ytbfhinfblepidaa.Pure
open Go.RowKit Go.Proofs.Ytbfhinfblepidaa.PSolveTells Go.Proofs.Ytbfhinfblepidaa.PSolveRank Go.Proofs.YtbfhinfblepidaaW.PrintWords Go.Proofs.YtbfhinfblepidaaW.PrintLast Go.Proofs.Ytbfhinfblepidaa.Rw Go.Proofs.Ytbfhinfblepidaa.La Go.Proofs.Ytbfhinfblepidaa.Sv Go.Proofs.Ytbfhinfblepidaa.FSolveTells Go.Proofs.Ytbfhinfblepidaa.FSolveRank Go.Proofs.Ytbfhinfblepidaa.Sl

theorem addTo_fit (w : Nat) (c : F) (o r : List F) (ho : o.length = w) : addTo o (scaleR c r) = addTo o (scaleR c (fitR w r)) := by
  have h : ∀ (o r : List F), addTo o (scaleR c r) = addTo o (scaleR c (r.take o.length ++ List.replicate (o.length - r.length) 0)) := by
    intro o
    induction o with
    | nil => intro r; cases r <;> simp [addTo, scaleR]
    | cons x o ih =>
      intro r
      cases r with
      | nil =>
        have z : ∀ (o : List F) (n : Nat), addTo o (scaleR c (List.replicate n 0)) = o := by
          intro o
          induction o with
          | nil => intro n; cases n <;> simp [addTo, scaleR, List.replicate_succ]
          | cons y o ih =>
            intro n
            cases n with
            | zero => rfl
            | succ n =>
              rw [List.replicate_succ]
              show (y ^^^ fm c 0) :: addTo o (scaleR c (List.replicate n 0)) = y :: o
              rw [fm_zero, fx_zero, ih]
        rw [List.take_nil, List.nil_append, z]; rfl
      | cons y r =>
        rw [List.length_cons, List.length_cons, List.take_succ_cons, show o.length + 1 - (r.length + 1) = o.length - r.length from by omega]
        show (x ^^^ fm c y) :: addTo o (scaleR c r) = (x ^^^ fm c y) :: addTo o (scaleR c (r.take o.length ++ List.replicate (o.length - r.length) 0))
        rw [ih]
  rw [h o r, ho]; rfl
theorem mix_span (w : Nat) (U : List V) : ∀ (c : List F) (L : List (List F)) (o : List F), o.length = w → Span U (el o) → (∀ r ∈ L, Span U (el (fitR w r))) → (mixR o c L).length = w ∧ Span U (el (mixR o c L)) := by
  intro c
  induction c with
  | nil => intro L o ho hs _; cases L <;> exact ⟨ho, hs⟩
  | cons x c ih =>
    intro L o ho hs hL
    cases L with
    | nil => exact ⟨ho, hs⟩
    | cons r L =>
      refine ih L (addTo o (scaleR x r)) (by rw [addTo_length]; exact ho) ?_ (fun q hq => hL q (List.mem_cons_of_mem _ hq))
      rw [addTo_fit w x o r ho, vec_add (by rw [scaleR_length, fitR_length, ho]), vec_scale]
      exact .add hs (.smul _ (hL r List.mem_cons_self))
theorem fit_id (w : Nat) (r : List F) (h : r.length = w) : fitR w r = r := by
  unfold fitR; rw [h, Nat.sub_self, List.replicate_zero, List.append_nil]; exact List.take_of_length_le (by omega)
theorem vecs_snoc (L : List (List F)) (r : List F) : vecs (L ++ [r]) = vecs L ++ [el r] := by unfold vecs; rw [List.map_append]; rfl
theorem told (a0 : Int) (M : List (List F)) (r by_ : List F) (h0 : 0 ≤ a0) (h1 : a0 ≤ 40) (hM : M.length ≤ 40) (hs : ∀ q ∈ M, q.length ≤ 4000) (hr : r.length ≤ 100) (t : Bool) :
    Ev (fun k => fountainlaw3_SolveRank.j0 k a0 (tll M) (tl r) (tl by_) t false) true := by
  obtain ⟨w, rfl⟩ : ∃ w : Nat, a0 = (w : Int) := ⟨a0.toNat, by omega⟩
  have hs2 : ∀ q ∈ M, q.length < 2 ^ 40 := fun q hq => by have := hs q hq; omega
  have hcl : RkSolveTells.cl (w : Int) = w := by unfold RkSolveTells.cl; omega
  have hcut : cutN (w : Int) = w := by unfold cutN; omega
  have one : ∀ L : List (List F), (tll M) ++ [tl r] = tll (M ++ [r]) := fun _ => by unfold tll; rw [List.map_append]; rfl
  have hmix := rmix_ev (w : Int) by_ M (by omega)
  rw [hcut] at hmix
  have hU : ∀ q ∈ M, Span (vecs (M.map (fitR w))) (el (fitR w q)) := fun q hq => .mem (List.mem_map_of_mem (List.mem_map_of_mem hq))
  have hz : el (List.replicate w 0) = vzero := by
    funext i
    unfold el vzero
    rw [List.getD_eq_getElem?_getD, List.getElem?_replicate]
    split <;> rfl
  obtain ⟨x1, x2⟩ := mix_span w (vecs (M.map (fitR w))) by_ M (List.replicate w 0) List.length_replicate (by rw [hz]; exact .zero) hU
  generalize mixR (List.replicate w 0) by_ M = x at hmix x1 x2
  have R : ∀ L : List (List F), rankR (w : Int) L = rank w (L.map (fitR w)) := fun L => by unfold rankR; rw [hcl]
  have ra := rank_dim (fit_mem w M)
  have rb := rank_dim (fit_mem w (M ++ [r]))
  have rc := rank_dim (fit_mem w (M ++ [x]))
  rw [List.map_append] at rb rc
  have e1 : ([r].map (fitR w)) = [fitR w r] := rfl
  have e2 : ([x].map (fitR w)) = [x] := by show [fitR w x] = [x]; rw [fit_id w x x1]
  rw [e1, vecs_snoc] at rb
  rw [e2, vecs_snoc] at rc
  have kb := dim_snoc ra.1 rb.1
  have kc := dim_same ra.1 rc.1 x2
  have Pa := Pz.ev_of (rank_ev (w : Int) M (by omega) hs2)
  have Pb := Pz.ev_of (rank_ev (w : Int) (M ++ [r]) (by simp; omega) (fun q hq => by
    rcases List.mem_append.1 hq with h | h
    · exact hs2 q h
    · obtain rfl := List.mem_singleton.1 h; omega))
  have Pc := Pz.ev_of (rank_ev (w : Int) (M ++ [x]) (by simp; omega) (fun q hq => by
    rcases List.mem_append.1 hq with h | h
    · exact hs2 q h
    · obtain rfl := List.mem_singleton.1 h; omega))
  rw [R] at Pa Pb Pc
  rw [List.map_append, e1] at Pb
  rw [List.map_append, e2] at Pc
  have la := ra.2
  have lb := rb.2
  rw [List.length_map] at la
  generalize rank w (M.map (fitR w)) = a at *
  generalize rank w (M.map (fitR w) ++ [fitR w r]) = b at *
  generalize rank w (M.map (fitR w) ++ [x]) = c at *
  subst kc
  have tl1 : ∀ y : List F, tll M ++ [tl y] = tll (M ++ [y]) := fun y => by unfold tll; rw [List.map_append]; rfl
  refine Ev.step (fun k => by simp only [fountainlaw3_SolveRank.j0]; rfl) ?_
  refine ev_neg (by decide) ?_
  refine Ev.bind (to_ev M (by omega) hs2) ?_
  refine ev_val Pa ?_
  refine ev_pos (by rw [tll_length, List.length_nil]; omega) ?_
  refine ev_val rfl ?_
  rw [List.nil_append]
  refine ev_pos (by rw [tll_length]; omega) ?_
  rw [tl1 r]
  refine ev_val Pb ?_
  refine ev_val rfl ?_
  refine Ev.bind hmix ?_
  refine ev_pos (by rw [tll_length]; omega) ?_
  rw [tl1 x]
  refine ev_val Pc ?_
  refine ev_pos (by omega) (ev_pos (by rw [tll_length]; omega) (ev_pos (by omega) ?_))
  by_cases e : b = c
  · subst e
    refine ev_pos rfl (ev_pos (by omega) ?_)
    rw [beq_self_eq_true]
    exact Ev.now _
  · refine ev_neg (by omega) (ev_pos ?_ (ev_pos (by omega) ?_))
    · rw [w64 (by omega) (by omega)]; omega
    · rw [beq_self_eq_true]
      exact Ev.now _
theorem away (n : Int) (L : List (List Int)) (a b : List Int) : Ev (fun k => fountainlaw3_SolveRank.j0 k n L a b true true) true := by
  refine Ev.step (fun k => by simp only [fountainlaw3_SolveRank.j0]; rfl) ?_
  exact ev_pos trivial (Ev.now _)
theorem SolveRank (n : Int) (_ : -2 ^ 63 ≤ n ∧ n < 2 ^ 63) (L : List (List Int)) (hL : L.length < 2 ^ 48 ∧ ∀ r ∈ L, r.length < 2 ^ 48 ∧ ∀ x ∈ r, 0 ≤ x ∧ x ≤ 255)
    (a : List Int) (ha : a.length < 2 ^ 48 ∧ ∀ x ∈ a, 0 ≤ x ∧ x ≤ 255) (b : List Int) (hb : b.length < 2 ^ 48 ∧ ∀ x ∈ b, 0 ≤ x ∧ x ≤ 255) : Ev (fun k => fountainlaw3_SolveRank.f k n L a b) true := by
  obtain ⟨a, rfl⟩ := tl_of a ha.2
  obtain ⟨b, rfl⟩ := tl_of b hb.2
  obtain ⟨M, rfl⟩ := tll_of L fun r hr => (hL.2 r hr).2
  have h1 : M.length < 2 ^ 50 := by have := hL.1; rw [tll_length] at this; omega
  have h2 : ∀ r ∈ M, r.length < 2 ^ 50 := fun r hr => by
    have := (hL.2 (tl r) (List.mem_map.2 ⟨r, hr, rfl⟩)).1
    rw [tl_length] at this; omega
  unfold fountainlaw3_SolveRank.f
  refine ev_val (a := true) rfl (ev_pos rfl ?_)
  obtain ⟨t, e, ht⟩ := few_ev M h1 h2
  refine Ev.bind e ?_
  by_cases k0 : t = true
  · obtain ⟨g1, g2⟩ := ht k0
    refine ev_pos k0 ?_
    rw [tll_length, tl_length, tl_length]
    by_cases k1 : n < 0
    · exact ev_pos k1 (away ..)
    refine ev_neg k1 ?_
    by_cases k2 : n > 40
    · exact ev_pos k2 (away ..)
    refine ev_neg k2 ?_
    by_cases k3 : (M.length : Int) > 40
    · exact ev_pos k3 (away ..)
    refine ev_neg k3 ?_
    by_cases k4 : (a.length : Int) > 100
    · exact ev_pos k4 (away ..)
    refine ev_neg k4 ?_
    by_cases k5 : b.length ≤ 100
    · rw [decide_eq_false (show ¬ (b.length : Int) > 100 by omega)]
      exact told n M a b (by omega) (by omega) (by omega) g2 (by omega) true
    · rw [decide_eq_true (show (b.length : Int) > 100 by omega)]
      exact away ..
  · exact ev_neg k0 (away ..)
end Go.Proofs.Ytbfhinfblepidaa.Pure
