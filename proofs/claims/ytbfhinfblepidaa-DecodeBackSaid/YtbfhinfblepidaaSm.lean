/- What the loops of solve.reduce and fountainref1.steps come to: the elimination of Sv, over rows of elements. Conditions: those that stand in the theorems. -/
import Derived.Test.YtbfhinfblepidaaSv
import Derived.Test.YtbfhinfblepidaaFSeedTells
import Derived.Test.YtbfhinfblepidaaRrSolveTells
import Derived.Test.YtbfhinfblepidaaRsSolveTells
import Derived.Test.YtbfhinfblepidaaSoSolveTells
namespace Go.Proofs.Ytbfhinfblepidaa.Sl
open Go.RowKit Go.Proofs.Ytbfhinfblepidaa.PSolveTells Go.Proofs.YtbfhinfblepidaaW.PrintWords Go.Proofs.YtbfhinfblepidaaW.PrintLast Go.Proofs.Ytbfhinfblepidaa.Gf Go.Proofs.Ytbfhinfblepidaa.Rw Go.Proofs.Ytbfhinfblepidaa.La Go.Proofs.Ytbfhinfblepidaa.Sv Go.Proofs.Ytbfhinfblepidaa.FSolveTells Go.Proofs.Ytbfhinfblepidaa.Mt Go.Proofs.Ytbfhinfblepidaa.RdSolveTells Go.Proofs.Ytbfhinfblepidaa.StSolveTells Go.Proofs.Ytbfhinfblepidaa.RkSolveTells Go.Proofs.Ytbfhinfblepidaa.RrSolveTells
theorem ro_tll (L : List (List F)) (i : Nat) : ro (tll L) i = tl (row L i) := by
  unfold ro tll row; rw [List.getD_eq_getElem?_getD, List.getD_eq_getElem?_getD, List.getElem?_map]; cases L[i]? <;> rfl
theorem rd_el (r : List F) (c : Nat) : rd (tl r) (c : Int) = ti (el r c) := by
  unfold rd tl el; rw [Int.toNat_natCast, List.getD_eq_getElem?_getD, List.getD_eq_getElem?_getD, List.getElem?_map]; cases r[c]? <;> rfl
theorem row_map (g : List F → List F) (hg : g [] = []) (L : List (List F)) (i : Nat) : row (L.map g) i = g (row L i) := by
  unfold row; rw [List.getD_eq_getElem?_getD, List.getD_eq_getElem?_getD, List.getElem?_map]; cases L[i]? with
  | none => exact hg.symm
  | some _ => rfl
theorem el_take {r : List F} {c W : Nat} (h : c < W) : el (r.take W) c = el r c := by
  unfold el; rw [List.getD_eq_getElem?_getD, List.getD_eq_getElem?_getD, List.getElem?_take, if_pos h]
theorem el_drop (r : List F) (c W : Nat) : el (r.drop W) c = el r (W + c) := by
  unfold el; rw [List.getD_eq_getElem?_getD, List.getD_eq_getElem?_getD, List.getElem?_drop]
theorem addTo_nil (x : List F) : addTo x [] = x := by cases x <;> rfl
theorem addTo_take (x : List F) : ∀ (y : List F) (n : Nat), (addTo x y).take n = addTo (x.take n) (y.take n) := by
  induction x with
  | nil => intro y n; cases y with
    | nil => simp [addTo]
    | cons _ _ => cases n <;> simp [addTo]
  | cons a x ih => intro y n; cases y with
    | nil => rw [addTo_nil, List.take_nil, addTo_nil]
    | cons b y => cases n with
      | zero => rfl
      | succ n => simp only [addTo, List.take_succ_cons, ih]
theorem addTo_drop (x : List F) : ∀ (y : List F) (n : Nat), (addTo x y).drop n = addTo (x.drop n) (y.drop n) := by
  induction x with
  | nil => intro y n; cases y with
    | nil => simp [addTo]
    | cons b y =>
      rw [List.drop_nil]
      cases h : (b :: y).drop n <;> simp [addTo]
  | cons a x ih => intro y n; cases y with
    | nil => rw [addTo_nil, List.drop_nil, addTo_nil]
    | cons b y => cases n with
      | zero => rfl
      | succ n => simp only [addTo, List.drop_succ_cons, ih]
theorem scaleR_take (g : F) (x : List F) (n : Nat) : scaleR g (x.take n) = (scaleR g x).take n := List.map_take ..
theorem scaleR_drop (g : F) (x : List F) (n : Nat) : scaleR g (x.drop n) = (scaleR g x).drop n := List.map_drop ..
theorem sumR_two (x z : List F) : sumR x.length [x, z] = addTo x z := by
  show addTo (addTo (List.replicate x.length 0) x) z = _
  rw [addTo_zero, List.take_length, Nat.sub_self, List.replicate_zero, List.append_nil]
theorem invF_ev (a : F) : Ev (fun k => field_Inv.f k (ti a)) (ti (fi a)) := by
  have h := inv_ev (toNat_lt a)
  unfold ti; rw [fi_toNat]; exact h
theorem rinvF_ev (a : F) : Ev (fun k => fountainref1_Inv.f k (ti a)) (ti (fi a)) := by
  have h := rinv_ev (toNat_lt a)
  unfold ti; rw [fi_toNat]; exact h
theorem without_ev (x : List F) (g : F) (y : List F) (hx : x.length ≤ 1000) (hy : y.length < 2 ^ 40) : Ev (fun k => solve_without.f k (tl x) (ti g) (tl y)) (tl (addTo x (scaleR g y))) := by
  unfold solve_without.f
  refine Ev.bind (scale_ev g y hy) ?_
  have h := sum_ev (x.length : Int) [x, scaleR g y] (by simp) (fun r hr => by
    simp only [List.mem_cons, List.not_mem_nil, or_false] at hr
    rcases hr with rfl | rfl
    · omega
    · rw [scaleR_length]; omega)
  rw [show cutN (x.length : Int) = x.length from by unfold cutN; omega, sumR_two] at h
  rw [tl_length]
  exact Ev.bind h (Ev.now _)
def lo (W : Nat) (J : List (List F)) : List (List Int) := tll (J.map (·.take W))
def hi (W : Nat) (J : List (List F)) : List (List Int) := tll (J.map (·.drop W))
theorem lo_len (W : Nat) (J : List (List F)) : (lo W J).length = J.length := by unfold lo; rw [tll_length, List.length_map]
theorem hi_len (W : Nat) (J : List (List F)) : (hi W J).length = J.length := by unfold hi; rw [tll_length, List.length_map]
theorem ro_lo (W : Nat) (J : List (List F)) (i : Nat) : ro (lo W J) i = tl ((row J i).take W) := by unfold lo; rw [ro_tll, row_map _ List.take_nil]
theorem ro_hi (W : Nat) (J : List (List F)) (i : Nat) : ro (hi W J) i = tl ((row J i).drop W) := by unfold hi; rw [ro_tll, row_map _ List.drop_nil]
theorem lo_set (W : Nat) (J : List (List F)) (i : Nat) (r : List F) : (lo W J).set i (tl (r.take W)) = lo W (J.set i r) := by unfold lo tll; rw [List.map_set, List.map_set]
theorem hi_set (W : Nat) (J : List (List F)) (i : Nat) (r : List F) : (hi W J).set i (tl (r.drop W)) = hi W (J.set i r) := by unfold hi tll; rw [List.map_set, List.map_set]
theorem lo_drop (W : Nat) (J : List (List F)) (n : Nat) : (lo W J).drop n = lo W (J.drop n) := by unfold lo tll; rw [List.map_drop, List.map_drop]
theorem row_at (pre L : List (List F)) (x : List F) : row (pre ++ x :: L) pre.length = x := by
  unfold row; rw [List.getD_eq_getElem?_getD, List.getElem?_append_right (Nat.le_refl _), Nat.sub_self]; rfl
theorem row_other {pre L : List (List F)} {x y : List F} {n : Nat} (h : pre.length ≠ n) : row (pre ++ x :: L) n = row (pre ++ y :: L) n := by
  unfold row; rw [List.getD_eq_getElem?_getD, List.getD_eq_getElem?_getD]
  rcases Nat.lt_or_gt_of_ne h with c | c
  · rw [List.getElem?_append_right (by omega), List.getElem?_append_right (by omega)]
    obtain ⟨m, e⟩ : ∃ m, n - pre.length = m + 1 := ⟨n - pre.length - 1, by omega⟩
    rw [e]; rfl
  · rw [List.getElem?_append_left c, List.getElem?_append_left c]
theorem set_at (pre L : List (List F)) (x y : List F) : (pre ++ x :: L).set pre.length y = pre ++ y :: L := by simp
theorem l1_ev (W S c n : Nat) (hc : c < W) (hW : W ≤ 1000) (hS : S ≤ 1000) (R : List F) (hR : R.length = W + S) (L : List (List F)) : ∀ (pre : List (List F)), (∀ r ∈ pre ++ L, r.length = W + S) → row (pre ++ L) n = R →
    Ev (fun k => l1 k c n L.length pre.length (lo W (pre ++ L)) (hi W (pre ++ L))) (lo W (pre ++ clr R c n pre.length L), hi W (pre ++ clr R c n pre.length L)) := by
  induction L with
  | nil => intro pre _ _; exact Ev.now _
  | cons x L ih =>
    intro pre hl hn
    have hx : x.length = W + S := hl x (by simp)
    have go : ∀ y : List F, y.length = W + S → (n = pre.length → y = x) → clr R c n pre.length (x :: L) = y :: clr R c n (pre.length + 1) L →
        Ev (fun k => l1 k c n L.length (pre.length + 1) (lo W (pre ++ y :: L)) (hi W (pre ++ y :: L))) (lo W (pre ++ clr R c n pre.length (x :: L)), hi W (pre ++ clr R c n pre.length (x :: L))) := by
      intro y hy hyn he
      have := ih (pre ++ [y]) (fun r hr => by
        rw [List.append_assoc] at hr
        rcases List.mem_append.1 hr with h | h
        · exact hl r (List.mem_append.2 (.inl h))
        · rcases List.mem_cons.1 h with rfl | h
          · exact hy
          · exact hl r (List.mem_append.2 (.inr (List.mem_cons_of_mem _ h)))) (by
        rw [List.append_assoc]
        by_cases e : n = pre.length
        · rw [hyn e]; exact hn
        · rw [← hn]; exact row_other (fun k => e k.symm))
      rw [List.length_append, List.length_singleton, List.append_assoc, List.append_assoc] at this
      rw [he]
      exact this
    simp only [List.length_cons, l1]
    rw [ro_lo, row_at, ro_hi, row_at, ro_lo, ro_hi, hn, rd_el, el_take hc]
    refine ev_pos (by rw [tl_length, List.length_take]; omega) ?_
    by_cases e1 : pre.length = n
    · refine ev_pos e1 (go x hx (fun _ => rfl) ?_)
      simp only [clr]; rw [if_pos e1]
    · refine ev_neg e1 ?_
      by_cases e2 : el x c = 0
      · refine ev_pos ((ti_zero_iff _).2 e2) (go x hx (fun _ => rfl) ?_)
        simp only [clr]; rw [if_neg e1, if_pos e2]
      · refine ev_neg (fun k => e2 ((ti_zero_iff _).1 k)) ?_
        refine Ev.bind (without_ev (x.take W) (el x c) (R.take W) (by rw [List.length_take]; omega) (by rw [List.length_take]; omega)) ?_
        refine Ev.bind (without_ev (x.drop W) (el x c) (R.drop W) (by rw [List.length_drop]; omega) (by rw [List.length_drop]; omega)) ?_
        rw [scaleR_take, ← addTo_take, scaleR_drop, ← addTo_drop, lo_set, hi_set, set_at]
        refine go (addTo x (scaleR (el x c) R)) (by rw [addTo_length]; exact hx) (fun k => absurd k.symm e1) ?_
        simp only [clr]; rw [if_neg e1, if_neg e2]
theorem idx_none (W c : Nat) (hc : c < W) : ∀ (L : List (List F)) (i : Nat) (j : Int), pivFrom c L i = none → Cf.idx (hit c) (lo W L) j = -1 := by
  intro L
  induction L with
  | nil => intro i j _; rfl
  | cons r L ih =>
    intro i j h
    unfold pivFrom at h
    split at h
    · cases h
    · rename_i h1
      have h0 : el r c = 0 := Decidable.not_not.1 h1
      show (if hit c (tl (r.take W)) = true then j else Cf.idx (hit c) (lo W L) (j + 1)) = -1
      rw [if_neg (by unfold hit; rw [rd_el, el_take hc, h0]; decide)]
      exact ih _ _ h
theorem idx_some (W c : Nat) (hc : c < W) : ∀ (L : List (List F)) (i p : Nat) (j : Int), pivFrom c L i = some p → Cf.idx (hit c) (lo W L) j = j + ((p - i : Nat) : Int) := by
  intro L
  induction L with
  | nil => intro i p j h; cases h
  | cons r L ih =>
    intro i p j h
    have hge := pivFrom_some h
    unfold pivFrom at h
    show (if hit c (tl (r.take W)) = true then j else Cf.idx (hit c) (lo W L) (j + 1)) = _
    split at h
    · rename_i h1
      obtain rfl := Option.some.inj h
      rw [if_pos (by unfold hit; rw [rd_el, el_take hc]; exact decide_eq_true (fun k => h1 ((ti_zero_iff _).1 k)))]
      omega
    · rename_i h1
      have h0 : el r c = 0 := Decidable.not_not.1 h1
      rw [if_neg (by unfold hit; rw [rd_el, el_take hc, h0]; decide), ih _ _ _ h]
      obtain ⟨k, hk, _⟩ := pivFrom_some h
      omega
theorem run_stop (all : Bool) (f : Nat) : ∀ (c n : Nat) (J : List (List F)), J.length ≤ n → run all f c n J = (n, J) := by
  induction f with
  | zero => intro c n J _; rfl
  | succ f ih =>
    intro c n J h
    have hp : piv J c n = none := by unfold piv; rw [List.drop_eq_nil_of_le h]; rfl
    unfold run
    rw [hp]
    simp only
    split
    · exact ih _ _ _ h
    · rfl
theorem run_none {all : Bool} {f c n : Nat} {J : List (List F)} (h : piv J c n = none) : run all (f + 1) c n J = if all = true then run all f (c + 1) n J else (n, J) := by
  show (match piv J c n with | none => if all = true then run all f (c + 1) n J else (n, J) | some p => run all f (c + 1) (n + 1) (pstep J c n p)) = _
  rw [h]
theorem run_some {all : Bool} {f c n p : Nat} {J : List (List F)} (h : piv J c n = some p) : run all (f + 1) c n J = run all f (c + 1) (n + 1) (pstep J c n p) := by
  show (match piv J c n with | none => if all = true then run all f (c + 1) n J else (n, J) | some p => run all f (c + 1) (n + 1) (pstep J c n p)) = _
  rw [h]
theorem ro_set (M : List (List Int)) (i j : Nat) (r : List Int) (h : i < M.length) : ro (M.set i r) j = if i = j then r else ro M j := by
  unfold ro
  rw [List.getD_eq_getElem?_getD, List.getElem?_set, List.getD_eq_getElem?_getD]
  split
  · rename_i h1; subst h1; first | (rw [if_pos h]; rfl) | rfl
  · rfl
theorem top_swap (M : List (List Int)) {n p : Nat} (h1 : n < M.length) (h2 : p < M.length) : ro ((M.set n (ro M p)).set p (ro M n)) n = ro M p := by
  rw [ro_set _ _ _ _ (by rw [List.length_set]; exact h2)]
  split
  · rename_i e; rw [e]
  · rw [ro_set _ _ _ _ h1, if_pos rfl]
theorem set_swap (M : List (List Int)) (n p : Nat) (x y a : List Int) : ((M.set n x).set p y).set n a = (M.set p y).set n a := by
  by_cases e : n = p
  · subst e; rw [List.set_set, List.set_set, List.set_set]
  · rw [List.set_comm _ _ e, List.set_set]
theorem l0_ev (W S : Nat) (hW : W ≤ 1000) (hS : S ≤ 1000) (all : Bool) (f : Nat) : ∀ (c n : Nat) (J : List (List F)), (∀ r ∈ J, r.length = W + S) → c + f ≤ W →
    Ev (fun k => l0 k all f c n (lo W J) (hi W J)) ((run all f c n J).1, lo W (run all f c n J).2, hi W (run all f c n J).2) := by
  induction f with
  | zero => intro c n J _ _; exact Ev.now _
  | succ f ih =>
    intro c n J hl hf
    have hc : c < W := by omega
    by_cases hn : n < J.length
    · simp only [l0]
      refine ev_pos (by rw [lo_len]; exact hn) (ev_pos ?_ ?_)
      · rw [List.all_eq_true]
        intro r hr
        have hr := List.mem_of_mem_drop hr
        unfold lo tll at hr
        obtain ⟨q, hq, rfl⟩ := List.mem_map.1 hr
        obtain ⟨z, hz, rfl⟩ := List.mem_map.1 hq
        have := hl z hz
        exact decide_eq_true (by rw [tl_length, List.length_take]; omega)
      · rw [lo_drop]
        cases hp : piv J c n with
        | none =>
          rw [idx_none W c hc (J.drop n) n 0 hp, run_none hp]
          refine ev_pos (by decide) ?_
          by_cases ha : all = true
          · rw [if_pos ha]
            exact ev_pos ha (ih (c + 1) n J hl (by omega))
          · rw [if_neg ha]
            exact ev_neg ha (Ev.now _)
        | some p =>
          obtain ⟨g1, g2, g3⟩ := piv_some hp
          rw [idx_some W c hc (J.drop n) n p 0 hp, run_some hp, show (0 : Int) + ((p - n : Nat) : Int) = ((p - n : Nat) : Int) from by omega, Int.toNat_natCast, show n + (p - n) = p from by omega]
          refine ev_neg (by omega) ?_
          rw [top_swap (lo W J) (by rw [lo_len]; exact hn) (by rw [lo_len]; exact g2), top_swap (hi W J) (by rw [hi_len]; exact hn) (by rw [hi_len]; exact g2)]
          rw [ro_lo W J p, rd_el, el_take hc, ro_hi W J p]
          have hrp : (row J p).length = W + S := hl _ (row_mem g2)
          refine Ev.bind (invF_ev _) ?_
          refine Ev.bind (scale_ev _ _ (by rw [List.length_take]; omega)) ?_
          refine Ev.bind (scale_ev _ _ (by rw [List.length_drop]; omega)) ?_
          rw [set_swap, set_swap, ro_lo W J n, ro_hi W J n, lo_set, hi_set, scaleR_take, scaleR_drop, lo_set, hi_set]
          have h1 := l1_ev W S c n hc hW hS (scaleR (fi (el (row J p) c)) (row J p)) (by rw [scaleR_length]; exact hrp) (swp J c n p) [] (fun r hr => by
            obtain ⟨j, hj, rfl⟩ := of_mem (show r ∈ swp J c n p from hr)
            rw [swp_length] at hj
            rw [swp_row J c n p j hn g2]
            split
            · rw [scaleR_length]; exact hrp
            · split
              · exact hl _ (row_mem hn)
              · exact hl _ (row_mem hj)) (by show row (swp J c n p) n = _; rw [swp_row J c n p n hn g2, if_pos rfl])
          rw [swp_length] at h1
          rw [lo_len]
          refine Ev.bind h1 ?_
          exact ih (c + 1) (n + 1) (pstep J c n p) (pstep_len hl hn g2) (by omega)
    · rw [run_stop all (f + 1) c n J (by omega)]
      simp only [l0]
      exact ev_neg (by rw [lo_len]; exact hn) (Ev.now _)
theorem pv_piv (c WS : Nat) (hc : c < WS) (J : List (List F)) (hl : ∀ r ∈ J, r.length = WS) : ∀ (d p : Nat), p + d = J.length → pv c (tll J) d p = some (match pivFrom c (J.drop p) p with | none => J.length | some q => q) := by
  intro d
  induction d with
  | zero =>
    intro p hp
    rw [List.drop_eq_nil_of_le (by omega)]
    show some p = some J.length
    rw [show p = J.length from by omega]
  | succ d ih =>
    intro p hp
    have hlt : p < J.length := by omega
    have hr : row J p = J[p] := by unfold row; rw [List.getD_eq_getElem?_getD, List.getElem?_eq_getElem hlt]; rfl
    simp only [pv]
    rw [ro_tll, tl_length, hl _ (row_mem hlt), if_pos hc, rd_el, List.drop_eq_getElem_cons hlt, ← hr]
    simp only [pivFrom]
    by_cases e : el (row J p) c = 0
    · rw [if_pos ((ti_zero_iff _).2 e), if_neg (fun k => k e)]
      exact ih (p + 1) (by omega)
    · rw [if_neg (fun k => e ((ti_zero_iff _).1 k)), if_pos e]
theorem xl_ev (g : F) (R Q : List F) : ∀ (r q rp qp acc : List F), R = rp ++ r → Q = qp ++ q → r.length = q.length → rp.length = acc.length → qp.length = acc.length →
    Ev (fun k => xl k (ti g) (tl R) (tl Q) r.length acc.length (tl (acc ++ List.replicate r.length 0))) (tl (acc ++ addTo r (scaleR g q))) := by
  intro r
  induction r with
  | nil =>
    intro q rp qp acc _ _ h _ _
    cases q with
    | nil => exact Ev.now _
    | cons _ _ => simp at h
  | cons x r ih =>
    intro q rp qp acc h1 h2 h3 h4 h5
    cases q with
    | nil => simp at h3
    | cons y q =>
      simp only [List.length_cons, xl]
      have hQ : Q.length = acc.length + (q.length + 1) := by rw [h2, List.length_append, h5]; rfl
      refine ev_pos (by rw [tl_length]; omega) ?_
      have e1 : rd (tl R) (acc.length : Int) = ti x := by rw [← h4, h1]; exact rd_mid rp r x
      have e2 : rd (tl Q) (acc.length : Int) = ti y := by rw [← h5, h2]; exact rd_mid qp q y
      rw [e1, e2]
      refine Ev.bind (rtimesF_ev g y) ?_
      rw [xorF, List.replicate_succ, set_mid]
      have := ih q (rp ++ [x]) (qp ++ [y]) (acc ++ [x ^^^ fm g y]) (by rw [List.append_assoc]; exact h1) (by rw [List.append_assoc]; exact h2) (by simpa using h3) (by simp [h4]) (by simp [h5])
      rw [List.length_append, List.length_singleton, List.append_assoc, List.append_assoc] at this
      exact this
theorem sl_ev (WS c n : Nat) (hc : c < WS) (hW : WS < 2 ^ 40) (R : List F) (hR : R.length = WS) (L : List (List F)) : ∀ (pre : List (List F)), (∀ r ∈ pre ++ L, r.length = WS) → row (pre ++ L) n = R →
    Ev (fun k => sl k c n L.length pre.length (tll (pre ++ L))) (tll (pre ++ clr R c n pre.length L)) := by
  induction L with
  | nil => intro pre _ _; exact Ev.now _
  | cons x L ih =>
    intro pre hl hn
    have hx : x.length = WS := hl x (by simp)
    have go : ∀ y : List F, y.length = WS → (n = pre.length → y = x) → clr R c n pre.length (x :: L) = y :: clr R c n (pre.length + 1) L →
        Ev (fun k => sl k c n L.length (pre.length + 1) (tll (pre ++ y :: L))) (tll (pre ++ clr R c n pre.length (x :: L))) := by
      intro y hy hyn he
      have := ih (pre ++ [y]) (fun r hr => by
        rw [List.append_assoc] at hr
        rcases List.mem_append.1 hr with h | h
        · exact hl r (List.mem_append.2 (.inl h))
        · rcases List.mem_cons.1 h with rfl | h
          · exact hy
          · exact hl r (List.mem_append.2 (.inr (List.mem_cons_of_mem _ h)))) (by
        rw [List.append_assoc]
        by_cases e : n = pre.length
        · rw [hyn e]; exact hn
        · rw [← hn]; exact row_other (fun k => e k.symm))
      rw [List.length_append, List.length_singleton, List.append_assoc, List.append_assoc] at this
      rw [he]
      exact this
    simp only [List.length_cons, sl]
    rw [ro_tll, row_at, ro_tll, hn, rd_el, tl_length]
    refine ev_pos (by omega) ?_
    by_cases e1 : pre.length = n
    · refine ev_pos e1 (go x hx (fun _ => rfl) ?_)
      simp only [clr]; rw [if_pos e1]
    · refine ev_neg e1 ?_
      by_cases e2 : el x c = 0
      · refine ev_pos ((ti_zero_iff _).2 e2) (go x hx (fun _ => rfl) ?_)
        simp only [clr]; rw [if_neg e1, if_pos e2]
      · refine ev_neg (fun k => e2 ((ti_zero_iff _).1 k)) (ev_pos (by omega) ?_)
        have hx1 := xl_ev (el x c) x R x R [] [] [] rfl rfl (by rw [hx, hR]) rfl rfl
        rw [List.nil_append, List.nil_append, tl_replicate] at hx1
        refine Ev.bind hx1 ?_
        rw [show (tll (pre ++ x :: L)).set pre.length (tl (addTo x (scaleR (el x c) R))) = tll (pre ++ addTo x (scaleR (el x c) R) :: L) from by rw [← set_at pre L x (addTo x (scaleR (el x c) R))]; unfold tll; rw [List.map_set]]
        refine go (addTo x (scaleR (el x c) R)) (by rw [addTo_length]; exact hx) (fun k => absurd k.symm e1) ?_
        simp only [clr]; rw [if_neg e1, if_neg e2]
theorem st_ev (WS : Nat) (hW : WS < 2 ^ 40) (f : Nat) : ∀ (c n : Nat) (J : List (List F)), (∀ r ∈ J, r.length = WS) → c + f ≤ WS → n ≤ J.length →
    Ev (fun k => st k f c n (tll J)) ((run true f c n J).1, tll (run true f c n J).2) := by
  induction f with
  | zero => intro c n J _ _ _; exact Ev.now _
  | succ f ih =>
    intro c n J hl hf hn
    have hc : c < WS := by omega
    simp only [st]
    refine ev_val (pv_piv c WS hc J hl (J.length - n) n (by omega) |> fun h => by rw [tll_length]; exact h) ?_
    cases hp : piv J c n with
    | none =>
      have hp' : pivFrom c (J.drop n) n = none := hp
      rw [hp', run_none hp, if_pos rfl]
      exact ev_pos (by rw [tll_length]) (ih (c + 1) n J hl (by omega) hn)
    | some p =>
      have hp' : pivFrom c (J.drop n) n = some p := hp
      obtain ⟨g1, g2, g3⟩ := piv_some hp
      have hn' : n < J.length := by omega
      have hrp : (row J p).length = WS := hl _ (row_mem g2)
      rw [hp', run_some hp]
      simp only
      refine ev_neg (by rw [tll_length]; omega) ?_
      rw [ro_tll, ro_tll, rd_el]
      refine ev_pos (by rw [tl_length, hrp]; exact hc) ?_
      refine Ev.bind (rinvF_ev _) ?_
      refine Ev.bind (rscale_ev _ _ (by omega)) ?_
      rw [show ((tll J).set p (tl (row J n))).set n (tl (scaleR (fi (el (row J p) c)) (row J p))) = tll (swp J c n p) from by unfold swp tll; rw [List.map_set, List.map_set], tll_length]
      have h1 := sl_ev WS c n hc hW (scaleR (fi (el (row J p) c)) (row J p)) (by rw [scaleR_length]; exact hrp) (swp J c n p) [] (fun r hr => by
            obtain ⟨j, hj, rfl⟩ := of_mem (show r ∈ swp J c n p from hr)
            rw [swp_length] at hj
            rw [swp_row J c n p j hn' g2]
            split
            · rw [scaleR_length]; exact hrp
            · split
              · exact hl _ (row_mem hn')
              · exact hl _ (row_mem hj)) (by show row (swp J c n p) n = _; rw [swp_row J c n p n hn' g2, if_pos rfl])
      rw [swp_length] at h1
      refine Ev.bind h1 ?_
      exact ih (c + 1) (n + 1) (pstep J c n p) (pstep_len hl hn' g2) (by omega) (by rw [pstep_length]; omega)
theorem fit1_ev (w : Nat) (hw : w ≤ 1000) (r : List F) : Ev (fun k => fountainref1_Sum.f k (w : Int) [tl r]) (tl (fitR w r)) := by
  have h := rsum_ev (w : Int) [r] (by simp)
  rw [show cutN (w : Int) = w from by unfold cutN; omega, sumR_one] at h
  exact h
theorem sfit_l0 (w : Nat) (hw : w ≤ 1000) (L : List (List F)) (hL : L.length < 2 ^ 40) (hs : ∀ r ∈ L, r.length < 2 ^ 40) (t : List (List F)) : ∀ (pre : List (List F)), L = pre ++ t →
    Ev (fun k => solve_fit.l0 k (w : Int) (tll (pre.map (fitR w))) (tll L) (L.length : Int) (pre.length : Int)) (tll (L.map (fitR w))) := by
  induction t with
  | nil =>
    intro pre hp
    refine Ev.step (fun k => by simp only [solve_fit.l0]; rfl) ?_
    subst hp
    rw [List.append_nil]
    exact ev_neg (by omega) (Ev.now _)
  | cons r t ih =>
    intro pre hp
    have hlen : L.length = pre.length + (t.length + 1) := by rw [hp]; simp
    have hd : L.drop pre.length = r :: t := by rw [hp, List.drop_left]
    obtain ⟨e, _, _⟩ := rd_row hd
    have hr := hs r (by rw [hp]; simp)
    refine Ev.step (fun k => by simp only [solve_fit.l0]; rfl) ?_
    refine ev_pos (by omega) (ev_pos (by omega) (ev_pos (by rw [tll_length]; omega) ?_))
    rw [e]
    refine Ev.bind (fit_ev w hw r (by omega)) (ev_pos (by rw [tll_length, List.length_map]; omega) ?_)
    rw [show tll (pre.map (fitR w)) ++ [tl (fitR w r)] = tll ((pre ++ [r]).map (fitR w)) from by unfold tll; rw [List.map_append, List.map_append]; rfl, w64 (i := (pre.length : Int) + 1) (by omega) (by omega), show (pre.length : Int) + 1 = ((pre.length + 1 : Nat) : Int) from by omega]
    have := ih (pre ++ [r]) (by rw [hp, List.append_assoc]; rfl)
    rw [List.length_append, List.length_singleton] at this
    exact this
theorem sfit_ev (w : Nat) (hw : w ≤ 1000) (L : List (List F)) (hL : L.length < 2 ^ 40) (hs : ∀ r ∈ L, r.length < 2 ^ 40) : Ev (fun k => solve_fit.f k (w : Int) (tll L)) (tll (L.map (fitR w))) := by
  unfold solve_fit.f
  rw [tll_length]
  exact sfit_l0 w hw L hL hs L [] rfl
theorem sums_ev (w : Nat) (hw : w ≤ 1000) (L : List (List F)) (t : List (List F)) : ∀ (pre : List (List F)), L = pre ++ t →
    Ev (fun k => sums k (w : Int) (tll L) t.length pre.length (tll (pre.map (fitR w)))) (tll (L.map (fitR w))) := by
  induction t with
  | nil => intro pre hp; subst hp; rw [List.append_nil]; exact Ev.now _
  | cons r t ih =>
    intro pre hp
    simp only [List.length_cons, sums]
    rw [ro_tll, hp, row_at]
    refine Ev.bind (fit1_ev w hw r) ?_
    have := ih (pre ++ [r]) (by rw [hp, List.append_assoc]; rfl)
    rw [List.length_append, List.length_singleton, List.map_append, hp] at this
    rw [show tll (pre.map (fitR w)) ++ [tl (fitR w r)] = tll (pre.map (fitR w) ++ [r].map (fitR w)) from by unfold tll; rw [List.map_append]; rfl]
    exact this
def comb (W S : Nat) : List (List F) → List (List F) → List (List F)
  | m :: M, d :: D => (fitR W m ++ fitR S d) :: comb W S M D
  | _, _ => []
theorem comb_lo (W S : Nat) : ∀ (M D : List (List F)), M.length = D.length → lo W (comb W S M D) = tll (M.map (fitR W)) := by
  intro M
  induction M with
  | nil => intro D _; rfl
  | cons m M ih => intro D h; cases D with
    | nil => simp at h
    | cons d D =>
      have := ih D (by simpa using h)
      unfold lo tll at this ⊢
      simp only [comb, List.map_cons, this]
      rw [List.take_left' (fitR_length W m)]
theorem comb_hi (W S : Nat) : ∀ (M D : List (List F)), M.length = D.length → hi W (comb W S M D) = tll (D.map (fitR S)) := by
  intro M
  induction M with
  | nil => intro D h; cases D with
    | nil => rfl
    | cons _ _ => simp at h
  | cons m M ih => intro D h; cases D with
    | nil => simp at h
    | cons d D =>
      have := ih D (by simpa using h)
      unfold hi tll at this ⊢
      simp only [comb, List.map_cons, this]
      rw [List.drop_left' (fitR_length W m)]
theorem comb_len (W S : Nat) : ∀ (M D : List (List F)), M.length = D.length → (comb W S M D).length = M.length := by
  intro M
  induction M with
  | nil => intro D _; rfl
  | cons m M ih => intro D h; cases D with
    | nil => simp at h
    | cons d D => simp only [comb, List.length_cons, ih D (by simpa using h)]
theorem comb_mem (W S : Nat) : ∀ (M D : List (List F)), ∀ r ∈ comb W S M D, r.length = W + S := by
  intro M
  induction M with
  | nil => intro D r h; simp [comb] at h
  | cons m M ih => intro D r h; cases D with
    | nil => simp [comb] at h
    | cons d D =>
      simp only [comb, List.mem_cons] at h
      rcases h with rfl | h
      · rw [List.length_append, fitR_length, fitR_length]
      · exact ih D r h
theorem cl_le (a0 : Int) : cl a0 ≤ 300 := by unfold cl; omega
theorem lo_all (w : Nat) (J : List (List F)) (h : ∀ r ∈ J, r.length = w) : lo w J = tll J := by
  unfold lo
  congr 1
  conv => rhs; rw [← List.map_id J]
  exact List.map_congr_left fun r hr => List.take_of_length_le (by have := h r hr; omega)
theorem hi_none (w : Nat) (J : List (List F)) (h : ∀ r ∈ J, r.length = w) : hi w J = List.replicate J.length [] := by
  unfold hi tll
  rw [List.map_map]
  refine List.eq_replicate_iff.2 ⟨List.length_map .., fun b hb => ?_⟩
  obtain ⟨r, hr, rfl⟩ := List.mem_map.1 hb
  show tl (r.drop w) = []
  rw [List.drop_eq_nil_of_le (by have := h r hr; omega)]; rfl
theorem fit_mem (w : Nat) (M : List (List F)) : ∀ r ∈ M.map (fitR w), r.length = w := by
  intro r hr
  obtain ⟨x, _, rfl⟩ := List.mem_map.1 hr
  exact fitR_length w x
def rankR (a0 : Int) (M : List (List F)) : Nat := rank (cl a0) (M.map (fitR (cl a0)))
theorem rank_ev (a0 : Int) (M : List (List F)) (hM : M.length < 2 ^ 40) (hs : ∀ r ∈ M, r.length < 2 ^ 40) : Ev (fun k => rank.f k a0 (tll M)) ((rankR a0 M : Nat) : Int) := by
  unfold rank.f
  refine Ev.bind (sfit_ev (cl a0) (by have := cl_le a0; omega) M hM hs) (ev_pos (by rw [tll_length, tll_length, List.length_map]; exact ⟨rfl, hM⟩) ?_)
  have h := l0_ev (cl a0) 0 (by have := cl_le a0; omega) (by omega) true (cl a0) 0 0 (M.map (fitR (cl a0))) (fit_mem _ M) (by omega)
  rw [lo_all _ _ (fit_mem _ M), hi_none _ _ (fit_mem _ M), List.length_map] at h
  rw [tll_length]
  exact Ev.bind h (Ev.now _)
theorem rrank_ev (a0 : Int) (M : List (List F)) (hM : M.length < 2 ^ 40) : Ev (fun k => rrank.f k a0 (tll M)) ((rankR a0 M : Nat) : Int) := by
  unfold rrank.f
  refine ev_pos (by rw [tll_length]; exact hM) ?_
  have h1 := sums_ev (cl a0) (by have := cl_le a0; omega) M M [] rfl
  rw [tll_length]
  refine Ev.bind h1 ?_
  exact Ev.bind (st_ev (cl a0) (by have := cl_le a0; omega) (cl a0) 0 0 (M.map (fitR (cl a0))) (fit_mem _ M) (by omega) (Nat.zero_le _)) (Ev.now _)
end Go.Proofs.Ytbfhinfblepidaa.Sl
namespace Go.Proofs.Ytbfhinfblepidaa.Sl
open Go.RowKit Go.Proofs.Ytbfhinfblepidaa.PSolveTells Go.Proofs.YtbfhinfblepidaaW.PrintWords Go.Proofs.YtbfhinfblepidaaW.PrintLast Go.Proofs.Ytbfhinfblepidaa.Gf Go.Proofs.Ytbfhinfblepidaa.Rw Go.Proofs.Ytbfhinfblepidaa.La Go.Proofs.Ytbfhinfblepidaa.Sv Go.Proofs.Ytbfhinfblepidaa.FSolveTells Go.Proofs.Ytbfhinfblepidaa.Mt Go.Proofs.Ytbfhinfblepidaa.RdSolveTells Go.Proofs.Ytbfhinfblepidaa.StSolveTells Go.Proofs.Ytbfhinfblepidaa.RkSolveTells Go.Proofs.Ytbfhinfblepidaa.RrSolveTells Go.Proofs.Ytbfhinfblepidaa.SoSolveTells Go.Proofs.Ytbfhinfblepidaa.RsSolveTells
theorem rsums_ev (W S : Nat) (hW : W ≤ 1000) (hS : S ≤ 1000) (M D : List (List F)) : ∀ (t u pm pd : List (List F)), M = pm ++ t → D = pd ++ u → t.length = u.length → pm.length = pd.length →
    Ev (fun k => rsums k W S (tll M) (tll D) t.length pm.length (tll (comb W S pm pd))) (tll (comb W S M D)) := by
  intro t
  induction t with
  | nil => intro u pm pd h1 h2 h3 h4
           cases u with
           | nil => subst h1; subst h2; rw [List.append_nil, List.append_nil]; exact Ev.now _
           | cons _ _ => simp at h3
  | cons m t ih =>
    intro u pm pd h1 h2 h3 h4
    cases u with
    | nil => simp at h3
    | cons d u =>
      have e1 : ro (tll M) pm.length = tl m := by rw [ro_tll, h1, row_at]
      have e2 : ro (tll D) pm.length = tl d := by rw [ro_tll, h2, h4, row_at]
      simp only [List.length_cons, rsums]
      rw [e1, e2]
      refine Ev.bind (fit1_ev W hW m) (Ev.bind (fit1_ev S hS d) (ev_pos ?_ ?_))
      · rw [tl_length, tl_length, fitR_length, fitR_length]; exact ⟨rfl, rfl⟩
      · have hc : ∀ (pm pd : List (List F)), pm.length = pd.length → comb W S (pm ++ [m]) (pd ++ [d]) = comb W S pm pd ++ [fitR W m ++ fitR S d] := by
          intro pm
          induction pm with
          | nil => intro pd h; cases pd with
            | nil => rfl
            | cons _ _ => simp at h
          | cons a pm ih => intro pd h; cases pd with
            | nil => simp at h
            | cons b pd => simp only [List.cons_append, comb, ih pd (by simpa using h)]
        have := ih u (pm ++ [m]) (pd ++ [d]) (by rw [h1, List.append_assoc]; rfl) (by rw [h2, List.append_assoc]; rfl) (by simpa using h3) (by simp [h4])
        rw [List.length_append, List.length_singleton, hc pm pd h4] at this
        rw [show tll (comb W S pm pd) ++ [tl (fitR W m) ++ tl (fitR S d)] = tll (comb W S pm pd ++ [fitR W m ++ fitR S d]) from by unfold tll; rw [List.map_append, ← tl_append]; rfl]
        exact this
theorem any_tl (r : List F) : Cb.any (tl r) = nzr (tl r) := by
  unfold Cb.any nzr
  have : ∀ (l : List Int) (i : Int), 0 ≤ i → decide (0 ≤ Cb.ix l i) = l.any fun x => decide (x ≠ 0) := by
    intro l
    induction l with
    | nil => intro i _; rfl
    | cons x l ih =>
      intro i hi
      rw [List.any_cons]
      unfold Cb.ix
      by_cases e : x = 0
      · subst e
        simp only [ne_eq, not_true_eq_false, decide_false, Bool.false_or, if_false]
        exact ih (i + 1) (by omega)
      · simp only [ne_eq, e, not_false_eq_true, decide_true, Bool.true_or, if_true]
        exact decide_eq_true hi
  exact this _ 0 (Int.le_refl _)
theorem loose_eq (W : Nat) (X : List (List F)) : loose (hi W X) = loose2 W (tll X) := by
  unfold loose loose2 hi tll
  rw [List.map_map, List.any_map, List.any_map]
  congr 1
  funext r
  show Cb.any (tl (r.drop W)) = nzr ((tl r).drop W)
  rw [any_tl, tl_drop]
def sol (W : Nat) (J : List (List F)) : List (List Int) × Int :=
  if (run true W 0 0 J).1 < W then ([], 4)
  else if loose2 W (tll ((run true W 0 0 J).2.drop W)) = true then ([], 4) else (hi W ((run true W 0 0 J).2.take W), 0)
def solR (a0 a1 : Int) (M D : List (List F)) : List (List Int) × Int :=
  if a0 < 1 ∨ a0 > 300 ∨ a1 < 1 ∨ a1 > 1000 ∨ M.length ≠ D.length then ([], 1) else sol a0.toNat (comb a0.toNat a1.toNat M D)
theorem hi_drop (W : Nat) (J : List (List F)) (n : Nat) : (hi W J).drop n = hi W (J.drop n) := by unfold hi tll; rw [List.map_drop, List.map_drop]
theorem hi_take (W : Nat) (J : List (List F)) (n : Nat) : (hi W J).take n = hi W (J.take n) := by unfold hi tll; rw [List.map_take, List.map_take]
theorem ev_ip {α : Type} {c : Prop} [Decidable c] {f : Nat → Option α} {a b : α} (h : c) (e : Ev f a) : Ev f (if c then a else b) := by rw [if_pos h]; exact e
theorem ev_in {α : Type} {c : Prop} [Decidable c] {f : Nat → Option α} {a b : α} (h : ¬ c) (e : Ev f b) : Ev f (if c then a else b) := by rw [if_neg h]; exact e
theorem run_facts {W S : Nat} {J : List (List F)} (h : ∀ r ∈ J, r.length = W + S) : (run true W 0 0 J).1 ≤ (run true W 0 0 J).2.length ∧ ∀ r ∈ (run true W 0 0 J).2, r.length = W + S := by
  obtain ⟨qs, a, _⟩ := run_red W (Red.start h)
  exact ⟨a.nl, a.len⟩
theorem solve_ev (a0 a1 : Int) (M D : List (List F)) (hM : M.length < 2 ^ 40) (hs : ∀ r ∈ M, r.length < 2 ^ 40) (ht : ∀ r ∈ D, r.length < 2 ^ 40) : Ev (fun k => solve.f k a0 a1 (tll M) (tll D)) (solR a0 a1 M D) := by
  unfold solve.f solR
  rw [tll_length, tll_length]
  by_cases hb : a0 < 1 ∨ a0 > 300 ∨ a1 < 1 ∨ a1 > 1000 ∨ M.length ≠ D.length
  · refine ev_ip hb ?_; exact ev_pos hb (Ev.now _)
  · refine ev_in hb ?_
    refine ev_neg hb ?_
    have h1 : 1 ≤ a0 ∧ a0 ≤ 300 ∧ 1 ≤ a1 ∧ a1 ≤ 1000 ∧ M.length = D.length := by omega
    clear hb
    obtain ⟨b1, b2, b3, b4, b5⟩ := h1
    obtain ⟨W, rfl⟩ : ∃ W : Nat, a0 = (W : Int) := ⟨a0.toNat, by omega⟩
    obtain ⟨S, rfl⟩ : ∃ S : Nat, a1 = (S : Int) := ⟨a1.toNat, by omega⟩
    rw [Int.toNat_natCast, Int.toNat_natCast]
    refine Ev.bind (sfit_ev W (by omega) M hM hs) (Ev.bind (sfit_ev S (by omega) D (by omega) ht) (ev_pos ?_ ?_))
    · rw [tll_length, tll_length, List.length_map, List.length_map]; exact ⟨rfl, b5.symm, hM⟩
    · have hm := comb_mem W S M D
      have h := l0_ev W S (by omega) (by omega) false W 0 0 (comb W S M D) hm (by omega)
      rw [comb_lo W S M D b5, comb_hi W S M D b5] at h
      refine Ev.bind h ?_
      unfold sol
      obtain ⟨k1, k2⟩ := run_facts hm
      rcases run_false W (Red.start hm) (Nat.le_refl 0) with e | ⟨e1, e2⟩
      · rw [e]
        generalize run true W 0 0 (comb W S M D) = R at k1 k2 ⊢
        by_cases c1 : R.1 < W
        · refine ev_ip c1 ?_; exact ev_pos (by simp only; omega) (Ev.now _)
        · refine ev_in c1 ?_
          refine ev_neg (by simp only; omega) (ev_pos (by simp only; rw [hi_len]; omega) ?_)
          simp only
          rw [hi_drop, hi_take, loose_eq]
          by_cases c2 : loose2 W (tll (R.2.drop W)) = true
          · refine ev_ip c2 ?_; exact ev_pos c2 (Ev.now _)
          · refine ev_in c2 ?_; exact ev_neg c2 (Ev.now _)
      · refine ev_ip (by omega) ?_; exact ev_pos (by simp only; omega) (Ev.now _)
theorem rsolve_ev (a0 a1 : Int) (M D : List (List F)) (hM : M.length < 2 ^ 40) : Ev (fun k => rsolve.f k a0 a1 (tll M) (tll D)) (solR a0 a1 M D) := by
  unfold rsolve.f solR
  rw [tll_length, tll_length]
  by_cases hb : a0 < 1 ∨ a0 > 300 ∨ a1 < 1 ∨ a1 > 1000 ∨ M.length ≠ D.length
  · refine ev_ip hb ?_; exact ev_pos hb (Ev.now _)
  · refine ev_in hb ?_
    refine ev_neg hb (ev_pos hM ?_)
    have h1 : 1 ≤ a0 ∧ a0 ≤ 300 ∧ 1 ≤ a1 ∧ a1 ≤ 1000 ∧ M.length = D.length := by omega
    clear hb
    obtain ⟨b1, b2, b3, b4, b5⟩ := h1
    obtain ⟨W, rfl⟩ : ∃ W : Nat, a0 = (W : Int) := ⟨a0.toNat, by omega⟩
    obtain ⟨S, rfl⟩ : ∃ S : Nat, a1 = (S : Int) := ⟨a1.toNat, by omega⟩
    rw [Int.toNat_natCast, Int.toNat_natCast]
    refine Ev.bind (rsums_ev W S (by omega) (by omega) M D M D [] [] rfl rfl b5 rfl) ?_
    have hm := comb_mem W S M D
    refine Ev.bind (st_ev (W + S) (by omega) W 0 0 (comb W S M D) hm (by omega) (Nat.zero_le _)) ?_
    unfold sol
    obtain ⟨k1, k2⟩ := run_facts hm
    generalize run true W 0 0 (comb W S M D) = R at k1 k2 ⊢
    simp only
    by_cases c1 : R.1 < W
    · refine ev_ip c1 ?_; exact ev_pos c1 (Ev.now _)
    · refine ev_in c1 ?_
      refine ev_neg c1 (ev_pos ⟨by rw [tll_length]; omega, fun r hr => ?_⟩ ?_)
      · obtain ⟨q, hq, rfl⟩ := List.mem_map.1 hr
        rw [tl_length]; exact k2 q hq
      · rw [show (tll R.2).drop W = tll (R.2.drop W) from by unfold tll; rw [List.map_drop]]
        rw [show ((tll R.2).take W).map (·.drop W) = hi W (R.2.take W) from by
          unfold hi tll; rw [← List.map_take, List.map_map, List.map_map]
          exact List.map_congr_left fun r _ => tl_drop r W]
        by_cases c2 : loose2 W (tll (R.2.drop W)) = true
        · refine ev_ip c2 ?_; exact ev_pos c2 (Ev.now _)
        · refine ev_in c2 ?_; exact ev_neg c2 (Ev.now _)
end Go.Proofs.Ytbfhinfblepidaa.Sl
