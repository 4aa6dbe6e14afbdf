/- Proved: SolveBack answers true: of what is mixed of some rows these are told, if the rank is their number, and else that it is too little. Conditions: the arguments' numbers are of their kinds, and there are fewer of them than memory holds. -/
import Derived.Test.YtbfhinfblepidaaSm
import Derived.Test.YtbfhinfblepidaaPa
import Derived.Test.YtbfhinfblepidaaFSolveRank
import Derived.Test.YtbfhinfblepidaaPSolveBackx
namespace Go.Proofs.Ytbfhinfblepidaa.Pure
open Go.RowKit Go.Proofs.Ytbfhinfblepidaa.PSolveTells Go.Proofs.Ytbfhinfblepidaa.PSolveRank Go.Proofs.Ytbfhinfblepidaa.PSolveBack Go.Proofs.YtbfhinfblepidaaW.PrintWords Go.Proofs.YtbfhinfblepidaaW.PrintLast Go.Proofs.Ytbfhinfblepidaa.Rw Go.Proofs.Ytbfhinfblepidaa.La Go.Proofs.Ytbfhinfblepidaa.Sv Go.Proofs.Ytbfhinfblepidaa.FSolveTells Go.Proofs.Ytbfhinfblepidaa.FSolveRank Go.Proofs.Ytbfhinfblepidaa.Sl Go.Proofs.Ytbfhinfblepidaa.RrSolveTells Go.Proofs.Ytbfhinfblepidaa.RsSolveTells

/-! ### the first places decide -/
def tk (W : Nat) (J : List (List F)) : List (List F) := J.map (·.take W)
theorem row_tk (W : Nat) (J : List (List F)) (i : Nat) : row (tk W J) i = (row J i).take W := row_map _ List.take_nil J i
theorem piv_tk {W c : Nat} (hc : c < W) (J : List (List F)) (n : Nat) : piv (tk W J) c n = piv J c n := by
  have h : ∀ (L : List (List F)) (i : Nat), pivFrom c (tk W L) i = pivFrom c L i := by
    intro L
    induction L with
    | nil => intro i; rfl
    | cons r L ih =>
      intro i
      show (if el (r.take W) c ≠ 0 then some i else pivFrom c (tk W L) (i + 1)) = (if el r c ≠ 0 then some i else pivFrom c L (i + 1))
      rw [el_take hc, ih]
  unfold piv
  rw [show (tk W J).drop n = tk W (J.drop n) from by unfold tk; rw [List.map_drop]]
  exact h _ _
theorem clr_tk {W c : Nat} (hc : c < W) (R : List F) (n : Nat) : ∀ (L : List (List F)) (i : Nat), clr (R.take W) c n i (tk W L) = tk W (clr R c n i L) := by
  intro L
  induction L with
  | nil => intro i; rfl
  | cons x L ih =>
    intro i
    show (if i = n then x.take W else if el (x.take W) c = 0 then x.take W else addTo (x.take W) (scaleR (el (x.take W) c) (R.take W))) :: clr (R.take W) c n (i + 1) (tk W L) = (if i = n then x else if el x c = 0 then x else addTo x (scaleR (el x c) R)).take W :: tk W (clr R c n (i + 1) L)
    rw [ih, el_take hc, scaleR_take, ← addTo_take]
    congr 1
    split
    · rfl
    · split <;> rfl
theorem pstep_tk {W c : Nat} (hc : c < W) (J : List (List F)) (n p : Nat) : pstep (tk W J) c n p = tk W (pstep J c n p) := by
  unfold pstep swp
  rw [row_tk, row_tk, el_take hc, scaleR_take, ← clr_tk hc]
  congr 1
  unfold tk
  rw [List.map_set, List.map_set]
theorem run_tk (W : Nat) (all : Bool) (f : Nat) : ∀ (c n : Nat) (J : List (List F)), c + f ≤ W → run all f c n (tk W J) = ((run all f c n J).1, tk W (run all f c n J).2) := by
  induction f with
  | zero => intro c n J _; rfl
  | succ f ih =>
    intro c n J h
    cases hp : piv J c n with
    | none =>
      rw [run_none hp, run_none (by rw [piv_tk (by omega)]; exact hp)]
      split
      · exact ih _ _ _ (by omega)
      · rfl
    | some p =>
      rw [run_some hp, run_some (by rw [piv_tk (by omega)]; exact hp), pstep_tk (by omega)]
      exact ih _ _ _ (by omega)

/-! ### what is mixed -/
theorem sm_head (n : Nat) (g : Nat → F) : sm (n + 1) g = g 0 ^^^ sm n (fun k => g (k + 1)) := by
  induction n with
  | zero => show (0 : F) ^^^ g 0 = g 0 ^^^ 0; rw [fx_comm]
  | succ n ih =>
    show sm (n + 1) g ^^^ g (n + 1) = g 0 ^^^ (sm n (fun k => g (k + 1)) ^^^ g (n + 1))
    rw [ih, fx_assoc]
theorem el_mix (S t : Nat) : ∀ (c : List F) (L : List (List F)) (o : List F), o.length = S → (∀ r ∈ L, r.length = S) → c.length = L.length →
    el (mixR o c L) t = el o t ^^^ sm c.length (fun k => fm (el c k) (el (row L k) t)) := by
  intro c
  induction c with
  | nil => intro L o _ _ h; cases L with
    | nil => show el o t = el o t ^^^ 0; rw [fx_zero]
    | cons _ _ => simp at h
  | cons x c ih =>
    intro L o ho hL h
    cases L with
    | nil => simp at h
    | cons r L =>
      show el (mixR (addTo o (scaleR x r)) c L) t = _
      rw [ih L _ (by rw [addTo_length]; exact ho) (fun q hq => hL q (List.mem_cons_of_mem _ hq)) (by simpa using h)]
      rw [el_add (by rw [scaleR_length, ho, hL r List.mem_cons_self]), el_scale, List.length_cons, sm_head, fx_assoc]
      rfl
theorem mixR_length : ∀ (c : List F) (L : List (List F)) (o : List F), (mixR o c L).length = o.length := by
  intro c
  induction c with
  | nil => intro L o; cases L <;> rfl
  | cons x c ih => intro L o; cases L with
    | nil => rfl
    | cons r L => show (mixR (addTo o (scaleR x r)) c L).length = _; rw [ih, addTo_length]
theorem fit_id (w : Nat) (r : List F) (h : r.length = w) : fitR w r = r := by
  unfold fitR; rw [h, Nat.sub_self, List.replicate_zero, List.append_nil]; exact List.take_of_length_le (by omega)
theorem el_left {x y : List F} {k : Nat} (h : k < x.length) : el (x ++ y) k = el x k := by
  unfold el; rw [List.getD_eq_getElem?_getD, List.getD_eq_getElem?_getD, List.getElem?_append_left h]
theorem el_right (x y : List F) (k : Nat) : el (x ++ y) (x.length + k) = el y k := by
  unfold el; rw [List.getD_eq_getElem?_getD, List.getD_eq_getElem?_getD, List.getElem?_append_right (by omega), show x.length + k - x.length = k from by omega]
theorem el_zeros (n t : Nat) : el (List.replicate n 0) t = 0 := by
  unfold el; rw [List.getD_eq_getElem?_getD, List.getElem?_replicate]; split <;> rfl
theorem ext_el {a b : List F} (h : a.length = b.length) (he : ∀ t, t < a.length → el a t = el b t) : a = b := by
  refine List.ext_getElem h fun i h1 h2 => ?_
  have := he i h1
  unfold el at this
  rw [List.getD_eq_getElem?_getD, List.getD_eq_getElem?_getD, List.getElem?_eq_getElem h1, List.getElem?_eq_getElem h2] at this
  exact this
theorem ext_row {A B : List (List F)} (h : A.length = B.length) (he : ∀ i, i < A.length → row A i = row B i) : A = B := by
  refine List.ext_getElem h fun i h1 h2 => ?_
  have := he i h1
  unfold row at this
  rw [List.getD_eq_getElem?_getD, List.getD_eq_getElem?_getD, List.getElem?_eq_getElem h1, List.getElem?_eq_getElem h2] at this
  exact this
theorem comb_fit (W S : Nat) : ∀ (M D : List (List F)), (∀ r ∈ M, r.length = W) → (∀ r ∈ D, r.length = S) → M.length = D.length → comb W S M D = List.zipWith (· ++ ·) M D := by
  intro M
  induction M with
  | nil => intro D _ _ _; rfl
  | cons m M ih => intro D h1 h2 h3; cases D with
    | nil => simp at h3
    | cons d D =>
      show (fitR W m ++ fitR S d) :: comb W S M D = (m ++ d) :: List.zipWith (· ++ ·) M D
      rw [ih D (fun r hr => h1 r (List.mem_cons_of_mem _ hr)) (fun r hr => h2 r (List.mem_cons_of_mem _ hr)) (by simpa using h3), fit_id W m (h1 m List.mem_cons_self), fit_id S d (h2 d List.mem_cons_self)]
/-- The rows that are mixed of some. -/
def dd (S : Nat) (X C : List (List F)) : List (List F) := C.map fun c => mixR (List.replicate S 0) c X
theorem mem_zip {M : List (List F)} {g : List F → List F} {r : List F} (h : r ∈ List.zipWith (· ++ ·) M (M.map g)) : ∃ m ∈ M, r = m ++ g m := by
  induction M with
  | nil => cases h
  | cons m M ih =>
    rcases List.mem_cons.1 h with rfl | h
    · exact ⟨m, List.mem_cons_self, rfl⟩
    · obtain ⟨q, hq, e⟩ := ih h; exact ⟨q, List.mem_cons_of_mem _ hq, e⟩
theorem tk_zip (W : Nat) (g : List F → List F) : ∀ (M : List (List F)), (∀ r ∈ M, r.length = W) → tk W (List.zipWith (· ++ ·) M (M.map g)) = M := by
  intro M
  induction M with
  | nil => intro _; rfl
  | cons m M ih =>
    intro h
    show (m ++ g m).take W :: tk W (List.zipWith (· ++ ·) M (M.map g)) = _
    rw [ih (fun r hr => h r (List.mem_cons_of_mem _ hr)), List.take_left' (h m List.mem_cons_self)]
theorem sol_back (W S : Nat) (X C : List (List F)) (hX : ∀ r ∈ X, r.length = S) (hXl : X.length = W) (hC : ∀ r ∈ C, r.length = W) :
    sol W (comb W S C (dd S X C)) = if rank W C < W then ([], 4) else (tll X, 0) := by
  have hD : ∀ r ∈ dd S X C, r.length = S := fun r hr => by
    obtain ⟨c, _, rfl⟩ := List.mem_map.1 hr
    rw [mixR_length, List.length_replicate]
  have hm := comb_mem W S C (dd S X C)
  rw [comb_fit W S C (dd S X C) hC hD (by unfold dd; rw [List.length_map])] at hm ⊢
  have hrk : (run true W 0 0 (List.zipWith (· ++ ·) C (dd S X C))).1 = rank W C := by
    have h := run_tk W true W 0 0 (List.zipWith (· ++ ·) C (dd S X C)) (by omega)
    unfold dd at h ⊢
    rw [tk_zip W _ C hC] at h
    unfold rank; rw [h]
  unfold sol
  rw [hrk]
  by_cases c1 : rank W C < W
  · rw [if_pos c1, if_pos c1]
  · rw [if_neg c1, if_neg c1]
    have hr : (run true W 0 0 (List.zipWith (· ++ ·) C (dd S X C))).1 = W := by
      rw [hrk]
      have := (rank_dim hC).2.1
      omega
    have hs : ∀ r ∈ List.zipWith (· ++ ·) C (dd S X C), Sat W S X (el r) := by
      intro r hr' t ht
      obtain ⟨c, hc, rfl⟩ := mem_zip hr'
      have hcl := hC c hc
      rw [show W + t = c.length + t from by rw [hcl], el_right, el_mix S t c X _ List.length_replicate hX (by rw [hcl, hXl]), el_zeros, zero_fx, hcl]
      exact sm_congr W fun k hk => by rw [el_left (by omega)]
    obtain ⟨b, nl, len, hd, _⟩ := run_full hm hr
    obtain ⟨t1, t2⟩ := told_of_sat hm hr hs
    generalize run true W 0 0 (List.zipWith (· ++ ·) C (dd S X C)) = R at *
    have hlo : loose2 W (tll (R.2.drop W)) = false := by
      unfold loose2 tll
      rw [List.any_map]
      refine List.any_eq_false.2 fun r hr' => ?_
      obtain ⟨j, hj, rfl⟩ := of_mem hr'
      rw [List.length_drop] at hj
      rw [row_drop]
      show ¬ nzr ((tl (row R.2 (W + j))).drop W) = true
      rw [tl_drop]
      unfold nzr tl
      rw [List.any_map]
      intro hany
      obtain ⟨x, hx, hne⟩ := List.any_eq_true.1 hany
      obtain ⟨i, hi, rfl⟩ := List.getElem_of_mem hx
      have hlen : (row R.2 (W + j)).length = W + S := len _ (row_mem (by omega))
      rw [List.length_drop, hlen] at hi
      have h0 := t2 (W + j) (by omega) (by omega) i (by omega)
      rw [← el_drop] at h0
      unfold el at h0
      rw [List.getD_eq_getElem?_getD, List.getElem?_eq_getElem (by rw [List.length_drop, hlen]; omega)] at h0
      have h0' : ((row R.2 (W + j)).drop W)[i]'(by rw [List.length_drop, hlen]; omega) = 0 := h0
      have hne' := of_decide_eq_true hne
      exact hne' (by rw [h0']; rfl)
    rw [if_neg (by rw [hlo]; decide)]
    congr 1
    unfold hi
    congr 1
    refine ext_row (by rw [List.length_map, List.length_take]; omega) fun i hi' => ?_
    rw [List.length_map, List.length_take] at hi'
    rw [row_map _ List.drop_nil]
    have e : row (R.2.take W) i = row R.2 i := by
      unfold row; rw [List.getD_eq_getElem?_getD, List.getD_eq_getElem?_getD, List.getElem?_take, if_pos (by omega)]
    have hlen : (row R.2 i).length = W + S := len _ (row_mem (by omega))
    rw [e]
    refine ext_el (by rw [List.length_drop, hlen, hX _ (row_mem (by omega))]; omega) fun t ht => ?_
    rw [List.length_drop, hlen] at ht
    rw [el_drop]
    exact t1 i (by omega) t (by omega)

/-! ### the law -/
theorem tl1 (L : List (List F)) (y : List F) : tll L ++ [tl y] = tll (L ++ [y]) := by unfold tll; rw [List.map_append]; rfl
theorem end_ev (M X : List (List F)) (S : Nat) (h1 : 1 ≤ X.length) (h2 : X.length ≤ 20) (hM : M.length ≤ 40) (hS1 : 1 ≤ S) (hS2 : S ≤ 20) :
    Ev (fun k => fountainlaw3_SolveBack.l1 k (tll M) (tll X) (S : Int) (tll (X.map (fitR S))) (tll (dd S (X.map (fitR S)) (M.map (fitR X.length)))) (tll (M.map (fitR X.length))) (M.length : Int)) true := by
  have w3 : ∀ (w : Nat) (L : List (List F)), w ≤ 1000 → ∀ r ∈ L.map (fitR w), r.length < 2 ^ 40 := fun w L hw r hr => by have := fit_mem w L r hr; omega
  have hdl : ∀ r ∈ dd S (X.map (fitR S)) (M.map (fitR X.length)), r.length = S := fun r hr => by
    obtain ⟨c, _, rfl⟩ := List.mem_map.1 hr
    rw [mixR_length, List.length_replicate]
  have hdn : (dd S (X.map (fitR S)) (M.map (fitR X.length))).length = M.length := by unfold dd; rw [List.length_map, List.length_map]
  have hCn : (M.map (fitR X.length)).length = M.length := List.length_map ..
  have hCm := fit_mem X.length M
  have hb := sol_back X.length S (X.map (fitR S)) (M.map (fitR X.length)) (fit_mem S X) (List.length_map ..) hCm
  have hq := Pz.ev_of (solve_ev (X.length : Int) (S : Int) (M.map (fitR X.length)) (dd S (X.map (fitR S)) (M.map (fitR X.length))) (by omega) (w3 _ _ (by omega)) (fun r hr => by have := hdl r hr; omega))
  have hrr := Pz.ev_of (rrank_ev (X.length : Int) (M.map (fitR X.length)) (by omega))
  have hsol : solR (X.length : Int) (S : Int) (M.map (fitR X.length)) (dd S (X.map (fitR S)) (M.map (fitR X.length))) = if rank X.length (M.map (fitR X.length)) < X.length then ([], 4) else (tll (X.map (fitR S)), 0) := by
    unfold solR
    rw [if_neg (by rw [hdn, hCn]; omega), Int.toNat_natCast, Int.toNat_natCast]
    exact hb
  have hrk : rankR (X.length : Int) (M.map (fitR X.length)) = rank X.length (M.map (fitR X.length)) := by
    unfold rankR
    rw [show RkSolveTells.cl (X.length : Int) = X.length from by unfold RkSolveTells.cl; omega]
    congr 1
    conv => rhs; rw [← List.map_id (M.map (fitR X.length))]
    exact List.map_congr_left fun r hr => fit_id _ r (hCm r hr)
  rw [hsol] at hq
  rw [hrk] at hrr
  refine Ev.step (fun k => by simp only [fountainlaw3_SolveBack.l1]; rfl) ?_
  refine ev_neg (by rw [tll_length]; omega) ?_
  refine Ev.bind (to_ev _ (by omega) (w3 _ _ (by omega))) (Ev.bind (to_ev _ (by omega) (fun r hr => by have := hdl r hr; omega)) ?_)
  rw [tll_length X]
  refine ev_val hq (ev_val hrr ?_)
  by_cases c : rank X.length (M.map (fitR X.length)) < X.length
  · rw [if_pos c]
    refine ev_pos (by omega) (ev_val (a := (4 : Int)) rfl (ev_pos rfl ?_))
    exact Ev.now _
  · rw [if_neg c]
    refine ev_neg (by omega) (ev_val (a := (0 : Int)) rfl (ev_pos rfl ?_))
    have hl : (tll (X.map (fitR S))).length < 2 ^ 42 := by rw [tll_length, List.length_map]; omega
    exact Ev.bind (from_ev _ hl) (Ev.bind (same_ev _ hl) (Ev.now _))
theorem l1_ev' (M X : List (List F)) (S : Nat) (h1 : 1 ≤ X.length) (h2 : X.length ≤ 20) (hM : M.length ≤ 40) (hS1 : 1 ≤ S) (hS2 : S ≤ 20) (t : List (List F)) : ∀ (pre : List (List F)), M = pre ++ t →
    Ev (fun k => fountainlaw3_SolveBack.l1 k (tll M) (tll X) (S : Int) (tll (X.map (fitR S))) (tll (dd S (X.map (fitR S)) (pre.map (fitR X.length)))) (tll (pre.map (fitR X.length))) (pre.length : Int)) true := by
  induction t with
  | nil => intro pre hp; rw [List.append_nil] at hp; subst hp; exact end_ev _ X S h1 h2 hM hS1 hS2
  | cons m t ih =>
    intro pre hp
    have hlen : M.length = pre.length + (t.length + 1) := by rw [hp]; simp
    obtain ⟨e, _, _⟩ := rd_row (show M.drop pre.length = m :: t by rw [hp, List.drop_left])
    refine Ev.step (fun k => by simp only [fountainlaw3_SolveBack.l1]; rfl) ?_
    refine ev_pos (by rw [tll_length]; omega) (ev_pos (by omega) ?_)
    rw [e, tll_length X]
    refine Ev.bind (fit1_ev X.length (by omega) m) (ev_pos (by rw [tll_length, List.length_map]; omega) ?_)
    have hx := rmix_ev (S : Int) (fitR X.length m) (X.map (fitR S)) (by rw [List.length_map]; omega)
    rw [show cutN (S : Int) = S from by unfold cutN; omega] at hx
    refine Ev.bind hx (ev_pos (by unfold dd; rw [tll_length, List.length_map, List.length_map]; omega) ?_)
    rw [tl1, tl1, w64 (i := (pre.length : Int) + 1) (by omega) (by omega), show (pre.length : Int) + 1 = ((pre.length + 1 : Nat) : Int) from by omega]
    have := ih (pre ++ [m]) (by rw [hp, List.append_assoc]; rfl)
    rw [List.length_append, List.length_singleton, List.map_append] at this
    have ed : dd S (X.map (fitR S)) (pre.map (fitR X.length) ++ [m].map (fitR X.length)) = dd S (X.map (fitR S)) (pre.map (fitR X.length)) ++ [mixR (List.replicate S 0) (fitR X.length m) (X.map (fitR S))] := by unfold dd; rw [List.map_append]; rfl
    rw [ed] at this
    exact this
theorem l0_ev' (M X : List (List F)) (S : Nat) (h1 : 1 ≤ X.length) (h2 : X.length ≤ 20) (hM : M.length ≤ 40) (hS1 : 1 ≤ S) (hS2 : S ≤ 20) (t : List (List F)) : ∀ (pre : List (List F)), X = pre ++ t →
    Ev (fun k => fountainlaw3_SolveBack.l0 k (tll M) (tll X) (S : Int) (tll (pre.map (fitR S))) (pre.length : Int)) true := by
  induction t with
  | nil =>
    intro pre hp
    rw [List.append_nil] at hp
    subst hp
    refine Ev.step (fun k => by simp only [fountainlaw3_SolveBack.l0]; rfl) ?_
    exact ev_neg (by rw [tll_length]; omega) (l1_ev' M _ S h1 h2 hM hS1 hS2 M [] rfl)
  | cons x t ih =>
    intro pre hp
    have hlen : X.length = pre.length + (t.length + 1) := by rw [hp]; simp
    obtain ⟨e, _, _⟩ := rd_row (show X.drop pre.length = x :: t by rw [hp, List.drop_left])
    refine Ev.step (fun k => by simp only [fountainlaw3_SolveBack.l0]; rfl) ?_
    refine ev_pos (by rw [tll_length]; omega) (ev_pos (by omega) ?_)
    rw [e]
    refine Ev.bind (fit1_ev S (by omega) x) (ev_pos (by rw [tll_length, List.length_map]; omega) ?_)
    rw [tl1, w64 (i := (pre.length : Int) + 1) (by omega) (by omega), show (pre.length : Int) + 1 = ((pre.length + 1 : Nat) : Int) from by omega]
    have := ih (pre ++ [x]) (by rw [hp, List.append_assoc]; rfl)
    rw [List.length_append, List.length_singleton, List.map_append] at this
    exact this
theorem SolveBack (L : List (List Int)) (hL : L.length < 2 ^ 48 ∧ ∀ r ∈ L, r.length < 2 ^ 48 ∧ ∀ x ∈ r, 0 ≤ x ∧ x ≤ 255) (Y : List (List Int)) (hY : Y.length < 2 ^ 48 ∧ ∀ r ∈ Y, r.length < 2 ^ 48 ∧ ∀ x ∈ r, 0 ≤ x ∧ x ≤ 255)
    (a2 : Int) (_ : -2 ^ 63 ≤ a2 ∧ a2 < 2 ^ 63) : Ev (fun k => fountainlaw3_SolveBack.f k L Y a2) true := by
  obtain ⟨M, rfl⟩ := tll_of L fun r hr => (hL.2 r hr).2
  obtain ⟨X, rfl⟩ := tll_of Y fun r hr => (hY.2 r hr).2
  have ok : ∀ L : List (List F), ((tll L).length < 2 ^ 48 ∧ ∀ r ∈ tll L, r.length < 2 ^ 48 ∧ ∀ x ∈ r, 0 ≤ x ∧ x ≤ 255) → L.length < 2 ^ 50 ∧ ∀ r ∈ L, r.length < 2 ^ 50 := fun L h => ⟨by have := h.1; rw [tll_length] at this; omega, fun r hr => by
    have := (h.2 (tl r) (List.mem_map.2 ⟨r, hr, rfl⟩)).1
    rw [tl_length] at this; omega⟩
  obtain ⟨m1, m2⟩ := ok M hL
  obtain ⟨d1, d2⟩ := ok X hY
  have away : ∀ b : Bool, b = true → Ev (fun q => fountainlaw3_SolveBack.j0 q (tll M) (tll X) a2 true b) true := by
    intro b hb
    refine Ev.step (fun q => by simp only [fountainlaw3_SolveBack.j0]; rfl) ?_
    exact ev_pos hb (Ev.now _)
  unfold fountainlaw3_SolveBack.f
  refine ev_val (a := true) rfl (ev_pos rfl ?_)
  obtain ⟨t, e, ht⟩ := few_ev M m1 m2
  refine Ev.bind e ?_
  by_cases k0 : t = true
  · refine ev_pos k0 ?_
    obtain ⟨u, e2, hu⟩ := few_ev X d1 d2
    refine Ev.bind e2 ?_
    by_cases k1 : u = true
    · refine ev_pos k1 ?_
      rw [tll_length, tll_length]
      by_cases c1 : (X.length : Int) < 1
      · exact ev_pos c1 (away _ rfl)
      refine ev_neg c1 ?_
      by_cases c2 : (X.length : Int) > 20
      · exact ev_pos c2 (away _ rfl)
      refine ev_neg c2 ?_
      by_cases c3 : (M.length : Int) > 40
      · exact ev_pos c3 (away _ rfl)
      refine ev_neg c3 ?_
      by_cases c4 : a2 < 1
      · exact ev_pos c4 (away _ rfl)
      refine ev_neg c4 ?_
      by_cases c5 : a2 > 20
      · exact away _ (decide_eq_true c5)
      rw [decide_eq_false c5]
      obtain ⟨S, rfl⟩ : ∃ S : Nat, a2 = (S : Int) := ⟨a2.toNat, by omega⟩
      refine Ev.step (fun q => by simp only [fountainlaw3_SolveBack.j0]; rfl) ?_
      exact ev_neg (by decide) (l0_ev' M X S (by omega) (by omega) (by omega) (by omega) (by omega) X [] rfl)
    · exact ev_neg k1 (away _ rfl)
  · exact ev_neg k0 (away _ rfl)
end Go.Proofs.Ytbfhinfblepidaa.Pure
