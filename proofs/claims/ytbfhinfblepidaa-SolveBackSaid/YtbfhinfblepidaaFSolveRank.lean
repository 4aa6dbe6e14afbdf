/- What further printed functions come to, in rows of elements. -/
import Derived.Test.YtbfhinfblepidaaFSolveTells
import Derived.Test.YtbfhinfblepidaaSl
import Derived.Test.YtbfhinfblepidaaPSolveRankx
namespace Go.Proofs.Ytbfhinfblepidaa.FSolveRank
open Go.RowKit Go.Proofs.Ytbfhinfblepidaa.PSolveTells Go.Proofs.Ytbfhinfblepidaa.PSolveRank Go.Proofs.YtbfhinfblepidaaW.PrintWords Go.Proofs.YtbfhinfblepidaaW.PrintLast Go.Proofs.YtbfhinfblepidaaW.PrintMore Go.Proofs.Ytbfhinfblepidaa.Gf Go.Proofs.Ytbfhinfblepidaa.Rw Go.Proofs.Ytbfhinfblepidaa.FSolveTells Go.Proofs.Ytbfhinfblepidaa.Sl

theorem rmix_l1 (c : List F) (L : List (List F)) (x : F) (row : List F) (i : Nat) (hi : i < L.length) (hic : i < c.length) (hi2 : i < 2 ^ 60) (hrow : rd_L1 (tll L) (i : Int) = tl row) (hx : rd (tl c) (i : Int) = ti x) (R : List Int) (a : List F) : ∀ (pre rpre r : List F), row = rpre ++ r → (rpre.length = pre.length ∨ (r = [] ∧ rpre.length ≤ pre.length)) → pre.length + a.length < 2 ^ 60 →
    Ev (fun k => fountainref1_Mix.l0 k (tl c) (tll L) (tl (pre ++ addTo a (scaleR x r))) ((i + 1 : Nat) : Int)) R →
    Ev (fun k => fountainref1_Mix.l1 k (tl c) (tll L) (tl (pre ++ a)) (i : Int) (pre.length : Int)) R := by
  induction a with
  | nil =>
    intro pre rpre r hr h1 h2 hR
    refine Ev.step (fun k => by simp only [fountainref1_Mix.l1]; rfl) ?_
    refine ev_neg (by rw [tl_length, List.append_nil]; omega) ?_
    rw [w64 (i := (i : Int) + 1) (by omega) (by omega), show (i : Int) + 1 = ((i + 1 : Nat) : Int) from by omega]
    cases r <;> exact hR
  | cons z a ih =>
    intro pre rpre r hr h1 h2 hR
    simp only [List.length_cons] at h2
    refine Ev.step (fun k => by simp only [fountainref1_Mix.l1]; rfl) ?_
    refine ev_pos (by rw [tl_length, List.length_append, List.length_cons]; omega) (ev_pos (by omega) (ev_pos (by omega) (ev_pos (by rw [tl_length]; omega) (ev_pos (by rw [tll_length]; omega) ?_))))
    rw [hrow, hx, rd_mid, Int.toNat_natCast, w64 (i := (pre.length : Int) + 1) (by omega) (by omega), show (pre.length : Int) + 1 = ((pre.length + 1 : Nat) : Int) from by omega]
    cases r with
    | nil =>
      have hge : row.length ≤ pre.length := by rw [hr, List.append_nil]; omega
      refine ev_val (rat_ge hge) ?_
      have e0 : (0 : Int) = ti 0 := rfl
      rw [e0]
      refine Ev.bind (rtimesF_ev x 0) ?_
      rw [fm_zero, xorF, fx_zero, set_mid]
      have := ih (pre ++ [z]) rpre [] hr (.inr ⟨rfl, by rw [List.length_append]; omega⟩) (by rw [List.length_append, List.length_singleton]; omega) (by cases a <;> (rw [List.append_assoc]; exact hR))
      rw [List.length_append, List.length_singleton, List.append_assoc] at this
      exact this
    | cons y r =>
      have hl : rpre.length = pre.length := by rcases h1 with h | ⟨h, _⟩; exact h; cases h
      have hy : row[pre.length]? = some y := by rw [hr, ← hl, List.getElem?_append_right (Nat.le_refl _), Nat.sub_self]; rfl
      refine ev_val (rat_lt hy) (Ev.bind (rtimesF_ev x y) ?_)
      rw [xorF, set_mid]
      have := ih (pre ++ [z ^^^ fm x y]) (rpre ++ [y]) r (by rw [hr, List.append_assoc]; rfl) (.inl (by simp [hl])) (by rw [List.length_append, List.length_singleton]; omega) (by rw [List.append_assoc]; exact hR)
      rw [List.length_append, List.length_singleton, List.append_assoc] at this
      exact this
theorem rmix_l0 (c : List F) (L : List (List F)) (hL : L.length < 2 ^ 50) (t : List F) : ∀ (pre : List F) (pre' u : List (List F)) (o : List F), o.length < 2 ^ 50 → c = pre ++ t → L = pre' ++ u → pre'.length = pre.length →
    Ev (fun k => fountainref1_Mix.l0 k (tl c) (tll L) (tl o) (pre.length : Int)) (tl (mixR o t u)) := by
  induction t with
  | nil =>
    intro pre pre' u o ho h1 h2 h3
    have hl : c.length = pre.length := by rw [h1, List.append_nil]
    have fin : ∀ b : Bool, b = false → Ev (fun k => fountainref1_Mix.j1 k (tl c) (tll L) (tl o) (pre.length : Int) b) (tl (mixR o [] u)) := by
      intro b hb
      refine Ev.step (fun k => by simp only [fountainref1_Mix.j1]; rfl) ?_
      refine ev_neg (by rw [hb]; decide) ?_
      cases u <;> exact Ev.now _
    refine Ev.step (fun k => by simp only [fountainref1_Mix.l0]; rfl) ?_
    by_cases hlt : (pre.length : Int) < ((tll L).length : Int)
    · exact ev_pos hlt (fin _ (decide_eq_false (by rw [tl_length]; omega)))
    · exact ev_neg hlt (fin _ rfl)
  | cons x t ih =>
    intro pre pre' u o ho h1 h2 h3
    have hl : c.length = pre.length + (t.length + 1) := by rw [h1]; simp
    refine Ev.step (fun k => by simp only [fountainref1_Mix.l0]; rfl) ?_
    cases u with
    | nil =>
      have hl2 : L.length = pre.length := by rw [h2, List.append_nil, h3]
      refine ev_neg (by rw [tll_length]; omega) ?_
      refine Ev.step (fun k => by simp only [fountainref1_Mix.j1]; rfl) ?_
      exact ev_neg (by decide) (Ev.now _)
    | cons y u =>
      have hl2 : L.length = pre.length + (u.length + 1) := by rw [h2, ← h3]; simp
      have e1 : rd (tl c) (pre.length : Int) = ti x := by rw [h1]; exact rd_mid pre t x
      have hd : L.drop pre.length = y :: u := by rw [h2, ← h3, List.drop_left]
      obtain ⟨e2, _, _⟩ := rd_row hd
      refine ev_pos (by rw [tll_length]; omega) ?_
      refine Ev.step (fun k => by simp only [fountainref1_Mix.j1]; rfl) ?_
      refine ev_pos (decide_eq_true (by rw [tl_length]; omega)) ?_
      have hnext := ih (pre ++ [x]) (pre' ++ [y]) u (addTo o (scaleR x y)) (by rw [addTo_length]; exact ho) (by rw [h1, List.append_assoc]; rfl) (by rw [h2, List.append_assoc]; rfl) (by simp [h3])
      rw [List.length_append, List.length_singleton] at hnext
      exact rmix_l1 c L x y pre.length (by omega) (by omega) (by omega) e2 e1 _ o [] [] y rfl (.inl rfl) (by simp only [List.length_nil]; omega) hnext
theorem rmix_ev (n : Int) (c : List F) (L : List (List F)) (hL : L.length < 2 ^ 50) : Ev (fun k => fountainref1_Mix.f k n (tl c) (tll L)) (tl (mixR (List.replicate (cutN n) 0) c L)) := by
  unfold fountainref1_Mix.f
  have hcn := cutN_le n
  refine ev_val (rcut_eq n) (ev_pos (by omega) (ev_pos (by rw [Int.toNat_natCast]; omega) ?_))
  rw [Int.toNat_natCast, ← tl_replicate]
  exact rmix_l0 c L hL c [] [] L _ (by rw [List.length_replicate]; omega) rfl rfl rfl

end Go.Proofs.Ytbfhinfblepidaa.FSolveRank
