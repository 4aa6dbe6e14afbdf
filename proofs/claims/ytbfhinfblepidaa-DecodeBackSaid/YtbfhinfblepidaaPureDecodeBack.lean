/- Proved: DecodeBack answers true: of any symbols of a block, some of them twice, its source is told, if they are enough by their rank, and else that they are too few. Conditions: the arguments' numbers are of their kinds, and there are fewer of them than memory holds. -/
import Derived.Test.YtbfhinfblepidaaDv
import Derived.Test.YtbfhinfblepidaaBk
namespace Go.Proofs.Ytbfhinfblepidaa.Pure
open Go.RowKit Go.Proofs.Ytbfhinfblepidaa.PSolveTells Go.Proofs.Ytbfhinfblepidaa.PSeedTells Go.Proofs.Ytbfhinfblepidaa.PBlockTells Go.Proofs.Ytbfhinfblepidaa.PDecodeTells Go.Proofs.YtbfhinfblepidaaW.PrintWords Go.Proofs.YtbfhinfblepidaaW.PrintLast Go.Proofs.Ytbfhinfblepidaa.Rw Go.Proofs.Ytbfhinfblepidaa.Pc Go.Proofs.Ytbfhinfblepidaa.Sv Go.Proofs.Ytbfhinfblepidaa.FSolveTells Go.Proofs.Ytbfhinfblepidaa.FSeedTells Go.Proofs.Ytbfhinfblepidaa.Sl Go.Proofs.Ytbfhinfblepidaa.Sd Go.Proofs.Ytbfhinfblepidaa.Dm Go.Proofs.Ytbfhinfblepidaa.Dr Go.Proofs.Ytbfhinfblepidaa.Dq Go.Proofs.Ytbfhinfblepidaa.Dw Go.Proofs.Ytbfhinfblepidaa.Dv Go.Proofs.Ytbfhinfblepidaa.Bk Go.Proofs.Ytbfhinfblepidaa.Br
set_option linter.unusedVariables false
theorem ext_row {A B : List (List F)} (h : A.length = B.length) (he : ∀ i, i < A.length → row A i = row B i) : A = B := by
  refine List.ext_getElem h fun i h1 h2 => ?_
  have := he i h1
  unfold row at this
  rw [List.getD_eq_getElem?_getD, List.getD_eq_getElem?_getD, List.getElem?_eq_getElem h1, List.getElem?_eq_getElem h2] at this
  exact this
theorem sol_sat {W S : Nat} {X J : List (List F)} (hX : ∀ r ∈ X, r.length = S) (hXl : X.length = W) (hm : ∀ r ∈ J, r.length = W + S) (hs : ∀ r ∈ J, Sat W S X (el r)) :
    sol W J = if (run true W 0 0 J).1 < W then ([], 4) else (tll X, 0) := by
  unfold sol
  by_cases c1 : (run true W 0 0 J).1 < W
  · rw [if_pos c1, if_pos c1]
  rw [if_neg c1, if_neg c1]
  have hr : (run true W 0 0 J).1 = W := by
    obtain ⟨qs, a, b, d, e⟩ := run_red W (Red.start hm)
    omega
  obtain ⟨b, nl, len, hd, _⟩ := run_full hm hr
  obtain ⟨t1, t2⟩ := told_of_sat hm hr hs
  generalize run true W 0 0 J = R at *
  have hlo : RsSolveTells.loose2 W (tll (R.2.drop W)) = false := by
    unfold RsSolveTells.loose2 tll
    rw [List.any_map]
    refine List.any_eq_false.2 fun r hr' => ?_
    obtain ⟨j, hj, rfl⟩ := of_mem hr'
    rw [List.length_drop] at hj
    rw [row_drop]
    show ¬ RsSolveTells.nzr ((tl (row R.2 (W + j))).drop W) = true
    rw [tl_drop]
    unfold RsSolveTells.nzr tl
    rw [List.any_map]
    intro hany
    obtain ⟨x, hx, hne⟩ := List.any_eq_true.1 hany
    obtain ⟨i, hi, rfl⟩ := List.getElem_of_mem hx
    have hlen : (row R.2 (W + j)).length = W + S := len _ (row_mem (by omega))
    rw [List.length_drop, hlen] at hi
    have h0 := t2 (W + j) (by omega) (by omega) i (by omega)
    rw [← el_drop] at h0
    unfold el at h0
    rw [List.getD_eq_getElem?_getD, List.getElem?_eq_getElem (by rw [List.length_drop, hlen]; omega)] at h0
    have h0' : ((row R.2 (W + j)).drop W)[i]'(by rw [List.length_drop, hlen]; omega) = 0 := h0
    have hne' := of_decide_eq_true hne
    exact hne' (by rw [h0']; rfl)
  rw [if_neg (by rw [hlo]; decide)]
  congr 1
  unfold hi
  congr 1
  refine ext_row (by rw [List.length_map, List.length_take]; omega) fun i hi' => ?_
  rw [List.length_map, List.length_take] at hi'
  rw [row_map _ List.drop_nil]
  have e : row (R.2.take W) i = row R.2 i := by
    unfold row; rw [List.getD_eq_getElem?_getD, List.getD_eq_getElem?_getD, List.getElem?_take, if_pos (by omega)]
  have hlen : (row R.2 i).length = W + S := len _ (row_mem (by omega))
  rw [e]
  refine ext_el (by rw [List.length_drop, hlen, hX _ (row_mem (by omega))]; omega) fun t ht => ?_
  rw [List.length_drop, hlen] at ht
  rw [el_drop]
  exact t1 i (by omega) t (by omega)
def symsR (n z j : Nat) (P : List (List F)) (es : List Int) : List (List F) := es.map fun e => dropR z P (parts n j e.toNat)
theorem comb_app (W S : Nat) : ∀ (A B C D : List (List F)), A.length = C.length → comb W S (A ++ B) (C ++ D) = comb W S A C ++ comb W S B D := by
  intro A
  induction A with
  | nil => intro B C D h; cases C with
    | nil => rfl
    | cons _ _ => simp at h
  | cons a A ih => intro B C D h; cases C with
    | nil => simp at h
    | cons c C =>
      show (fitR W a ++ fitR S c) :: comb W S (A ++ B) (C ++ D) = (fitR W a ++ fitR S c) :: (comb W S A C ++ comb W S B D)
      rw [ih B C D (by simpa using h)]
theorem mat_split {n : Nat} {j : Int} {es : List Int} (hj : 0 ≤ j ∧ j ≤ 255) (h : ∀ e ∈ es, okE e) : matF n j es = byts (ties n) ++ es.map fun e => byt (partRow n j.toNat e.toNat) := by
  unfold matF matOf
  rw [if_pos ⟨hj, h⟩]
  unfold byts esiRows
  rw [List.map_append, List.map_map]; rfl
theorem part_sat {n z j : Nat} {L P : List (List F)} (h : Parts n z j L P) (e : Nat) : Sat (kL n) z P (el (byt (partRow n j e) ++ dropR z P (parts n j e))) := by
  intro t ht
  have hpr : ∀ x ∈ parts n j e, (row P x).length = z := fun x hx => h.row _ (row_mem (by rw [h.len]; exact parts_lt n j e x hx))
  have hbl : (byt (partRow n j e)).length = kL n := by unfold byt; rw [List.length_map, partRow_length]
  have hre : el (byt (partRow n j e) ++ dropR z P (parts n j e)) (kL n + t) = el (dropR z P (parts n j e)) t := by rw [← hbl]; exact el_right _ _ _
  rw [hre, el_drop' z t P _ hpr, ← sm_mem (kL n) (fun k => el (row P k) t) (parts n j e) (parts_nodup n j e) (parts_lt n j e)]
  exact sm_congr _ fun k hk => by rw [el_left (by rw [hbl]; exact hk), el_part n j e k hk]
theorem comb_part {n z j : Nat} {P : List (List F)} : ∀ es : List Int, comb (kL n) z (es.map fun e => byt (partRow n j e.toNat)) (symsR n z j P es) = es.map fun e => byt (partRow n j e.toNat) ++ dropR z P (parts n j e.toNat)
  | [] => rfl
  | e :: es => by
    show (fitR (kL n) (byt (partRow n j e.toNat)) ++ fitR z (dropR z P (parts n j e.toNat))) :: comb (kL n) z (es.map fun e => byt (partRow n j e.toNat)) (symsR n z j P es) = _
    rw [comb_part es, fit_id _ _ (by unfold byt; rw [List.length_map, partRow_length]), fit_id _ _ (dropR_length _ _ _)]; rfl
theorem solD_back {n z j : Nat} (h2 : n ≤ 40) (hz1 : 1 ≤ z) (hz : z ≤ 64) (hj : j ≤ 255) {L P : List (List F)} (h : Parts n z j L P) {es : List Int} (hes : ∀ e ∈ es, okE e) :
    solD n z (j : Int) es (symsR n z j P es) = if rk n (j : Int) es < kL n then ([], 4) else (tll P, 0) := by
  have hk := kL_le h2
  have hk1 : 1 ≤ kL n := by unfold kL; omega
  have hj' : 0 ≤ (j : Int) ∧ (j : Int) ≤ 255 := by omega
  have hsrc : ∀ e ∈ src n, okE e := src_ok h2
  have hmF := mat_size (n := n) hj' hes
  have hlen : (matF n (j : Int) es).length = (List.replicate (kS n + 2) ([] : List F) ++ symsR n z j P es).length := by
    rw [matF_len, hmF, List.length_append, List.length_replicate]; unfold symsR; rw [List.length_map]
  have hsat := h.sat
  have htl : (byts (ties n)).length = (List.replicate (kS n + 2) ([] : List F)).length := by unfold byts; rw [List.length_map, ties_len, List.length_replicate]
  rw [mat_split hj' hsrc, comb_app _ _ _ _ _ _ htl] at hsat
  have hsat2 : ∀ r ∈ comb (kL n) z (matF n (j : Int) es) (List.replicate (kS n + 2) [] ++ symsR n z j P es), Sat (kL n) z P (el r) := by
    intro r hr
    rw [mat_split hj' hes, comb_app _ _ _ _ _ _ htl, Int.toNat_natCast, comb_part] at hr
    rcases List.mem_append.1 hr with hr | hr
    · exact hsat r (List.mem_append.2 (.inl hr))
    · obtain ⟨e, _, rfl⟩ := List.mem_map.1 hr
      exact part_sat h e.toNat
  have hm := comb_mem (kL n) z (matF n (j : Int) es) (List.replicate (kS n + 2) [] ++ symsR n z j P es)
  have hrk : (run true (kL n) 0 0 (comb (kL n) z (matF n (j : Int) es) (List.replicate (kS n + 2) [] ++ symsR n z j P es))).1 = rk n (j : Int) es := by
    have hlo : tk (kL n) (comb (kL n) z (matF n (j : Int) es) (List.replicate (kS n + 2) [] ++ symsR n z j P es)) = matF n (j : Int) es := by
      have hl := comb_lo (kL n) z _ _ hlen
      unfold lo at hl
      have e1 := tll_inj (show tll (tk (kL n) _) = tll ((matF n (j : Int) es).map (fitR (kL n))) from hl)
      rw [e1]
      conv => rhs; rw [← List.map_id (matF n (j : Int) es)]
      exact List.map_congr_left fun r hr => fit_id _ r (matF_mem hr)
    have hr := run_tk (kL n) true (kL n) 0 0 (comb (kL n) z (matF n (j : Int) es) (List.replicate (kS n + 2) [] ++ symsR n z j P es)) (by omega)
    rw [hlo] at hr
    rw [rk_eq h2]
    unfold rank
    rw [hr]
  unfold solD solR
  rw [if_neg (by omega), Int.toNat_natCast, Int.toNat_natCast, sol_sat h.row h.len hm hsat2, hrk]
theorem foldl_has : ∀ (Z acc : List S111) (x : S111), (x ∈ Z ∨ ∃ y ∈ acc, y.f0 = x.f0) → ∃ y ∈ Z.foldl pick acc, y.f0 = x.f0
  | [], acc, x, h => by
    rcases h with h | h
    · cases h
    · exact h
  | z :: Z, acc, x, h => by
    refine foldl_has Z (pick acc z) x ?_
    have keep : ∀ y ∈ acc, y ∈ pick acc z := fun y hy => by
      unfold pick; split
      · exact hy
      · exact List.mem_append.2 (.inl hy)
    rcases h with h | ⟨y, hy, e⟩
    · rcases List.mem_cons.1 h with rfl | h
      · right
        unfold pick
        split
        · rename_i ha
          unfold among at ha
          obtain ⟨y, hy, e⟩ := List.any_eq_true.1 ha
          exact ⟨y, hy, by simpa using e⟩
        · exact ⟨x, List.mem_append.2 (.inr (by simp)), rfl⟩
      · exact .inl h
    · exact .inr ⟨y, keep y hy, e⟩
theorem zip_back {n z j : Nat} {P : List (List F)} : ∀ {es : List Int} {x : S111}, x ∈ zipD es (tll (symsR n z j P es)) → x.f0 ∈ es ∧ x.f1 = tl (dropR z P (parts n j x.f0.toNat))
  | [], x, h => by cases h
  | e :: es, x, h => by
    rcases List.mem_cons.1 (show x ∈ S111.mk e (tl (dropR z P (parts n j e.toNat))) :: zipD es (tll (symsR n z j P es)) from h) with rfl | h
    · exact ⟨List.mem_cons_self, rfl⟩
    · obtain ⟨a, b⟩ := zip_back h; exact ⟨List.mem_cons_of_mem _ a, b⟩
theorem zip_has {es : List Int} {ds : List (List Int)} (h : es.length ≤ ds.length) {e : Int} (he : e ∈ es) : ∃ x ∈ zipD es ds, x.f0 = e := by
  rw [← zip_f0 es ds h] at he
  obtain ⟨x, hx, e⟩ := List.mem_map.1 he
  exact ⟨x, hx, e⟩
theorem decR_back {z : Nat} {L P : List (List F)} (hz1 : 1 ≤ z) (hz : z ≤ 64) (hr : ∀ r ∈ L, r.length = z) (hs : (seedOf (L.length : Int)).2 = 0) (hp : Parts L.length z (seedOf (L.length : Int)).1.toNat L P) {es : List Int} (hes : ∀ e ∈ es, okE e) :
    decR (L.length : Int) (z : Int) (zipD es (tll (symsR L.length z (seedOf (L.length : Int)).1.toNat P es))) = if enR (L.length : Int) es = true then (tll L, 0) else ([], 4) := by
  obtain ⟨g1, g2⟩ := seed_in hs
  obtain ⟨s1, s2⟩ := seed_nat (L.length : Int)
  have ej : ((seedOf (L.length : Int)).1.toNat : Int) = (seedOf (L.length : Int)).1 := by omega
  obtain ⟨j, hj⟩ : ∃ j, (seedOf (L.length : Int)).1.toNat = j := ⟨_, rfl⟩
  rw [hj] at hp ej ⊢
  have hle : es.length ≤ (tll (symsR L.length z j P es)).length := by rw [tll_length]; unfold symsR; rw [List.length_map]; exact Nat.le_refl _
  have hb : Db.bads (zipD es (tll (symsR L.length z j P es))) = false := by rw [← zip_bads hle]; exact bad_ok.2 hes
  have ho : Db.odds (z : Int) (zipD es (tll (symsR L.length z j P es))) = false := by
    unfold Db.odds
    rw [List.any_eq_false]
    intro x hx
    obtain ⟨_, e⟩ := zip_back hx
    unfold Cd.odd
    rw [e, tl_length, dropR_length]; simp
  have hE : ∀ e, e ∈ ER (zipD es (tll (symsR L.length z j P es))) ↔ e ∈ es := by
    intro e
    constructor
    · intro h
      obtain ⟨x, hx, rfl⟩ := List.mem_map.1 h
      exact (zip_back (firsts_mem hx)).1
    · intro h
      obtain ⟨x, hx, rfl⟩ := zip_has hle h
      obtain ⟨y, hy, e⟩ := foldl_has _ [] x (.inl hx)
      exact List.mem_map.2 ⟨y, hy, e⟩
  have hF : FR (zipD es (tll (symsR L.length z j P es))) = symsR L.length z j P (ER (zipD es (tll (symsR L.length z j P es)))) := by
    unfold FR ER symsR
    rw [List.map_map]
    exact List.map_congr_left fun x hx => by
      show byt x.f1 = _
      rw [(zip_back (firsts_mem hx)).2]
      exact tl_inj (tl_byt _ (tl_byte _))
  have hsol := solD_back (n := L.length) (j := j) (by omega) hz1 hz (by omega) hp (es := ER (zipD es (tll (symsR L.length z j P es)))) (fun e he => hes e ((hE e).1 he))
  have hrk : rk L.length (j : Int) (ER (zipD es (tll (symsR L.length z j P es)))) = rk L.length (j : Int) es :=
    Nat.le_antisymm (rk_mono (by omega) (by omega) hes fun e he => (hE e).1 he) (rk_mono (by omega) (by omega) (fun e he => hes e ((hE e).1 he)) fun e he => (hE e).2 he)
  have hen : enR (L.length : Int) es = (rk L.length (j : Int) es == kL L.length) := by
    unfold enR
    rw [decide_eq_true hs, bad_ok.2 hes, Int.toNat_natCast, ← ej]; rfl
  have hlek := rk_le (k := L.length) (by omega) (j : Int) es
  unfold decR
  rw [if_neg (by rw [hb]; rintro (h | h); · omega
                 · cases h), ho, if_neg (by decide), if_neg (fun h => h hs)]
  unfold PR
  rw [hF, Int.toNat_natCast, Int.toNat_natCast, hj, ← ej, hsol, hrk, hen]
  by_cases c : rk L.length (j : Int) es < kL L.length
  · rw [if_pos c, if_pos (by decide), if_neg (by simp only [beq_iff_eq]; omega)]
  · rw [if_neg c, if_neg (by simp), if_pos (by simp only [beq_iff_eq]; omega), byts_tll]
    refine congrArg (fun x => (x, (0 : Int))) ?_
    have hrr : (List.range L.length).map (fun e => tl (row L e)) = tll L := by
      unfold tll
      refine List.ext_getElem (by rw [List.length_map, List.length_range, List.length_map]) fun i h1 h2 => ?_
      rw [List.length_map, List.length_range] at h1
      rw [List.getElem_map, List.getElem_map, List.getElem_range]
      unfold row; rw [List.getD_eq_getElem?_getD, List.getElem?_eq_getElem h1]; rfl
    rw [← hrr]
    exact List.map_congr_left fun i hi => by rw [Dv.source (by omega) (by omega) (by omega) rfl hr hp i (List.mem_range.1 hi)]
theorem rnew_is (z : Nat) (L : List (List F)) (h1 : 1 ≤ L.length) (h2 : L.length ≤ 40) (hz1 : 1 ≤ z) (hz : z ≤ 64) :
    (∃ e : Int, e ≠ 0 ∧ Ev (fun k => rnew.f k (z : Int) (tll L)) (none, e)) ∨
    ((seedOf (L.length : Int)).2 = 0 ∧ (∀ r ∈ L, r.length = z) ∧ ∃ P, Parts L.length z (seedOf (L.length : Int)).1.toNat L P ∧ Ev (fun k => rnew.f k (z : Int) (tll L)) (some ((L.length : Int), (seedOf (L.length : Int)).1, tll P), 0)) := by
  obtain ⟨n, hn⟩ : ∃ n, L.length = n := ⟨_, rfl⟩
  have hb : ¬ ((z : Int) < 1 ∨ 64 < (z : Int) ∨ ((tll L).length : Int) < 1 ∨ 40 < ((tll L).length : Int)) := by rw [tll_length]; omega
  unfold rnew.f
  by_cases h10 : (tll L).any (Bn.odd (z : Int)) = true
  · exact .inl ⟨10, by decide, ev_neg hb (ev_pos h10 (Ev.now _))⟩
  rw [tll_length] at hb ⊢
  rw [hn] at hb h1 h2 ⊢
  have hg := seed_ev (n : Int)
  by_cases he : (seedOf (n : Int)).2 ≠ 0
  · exact .inl ⟨_, he, ev_neg hb (ev_neg h10 (Ev.bind hg (ev_pos he (Ev.now _))))⟩
  right
  have he' := Decidable.not_not.1 he
  obtain ⟨s1, s2⟩ := seed_nat (n : Int)
  have es : ((seedOf (n : Int)).1.toNat : Int) = (seedOf (n : Int)).1 := by omega
  have hr : ∀ r ∈ L, r.length = z := fun r hr => by
    apply Classical.byContradiction
    intro hne
    refine h10 (List.any_eq_true.2 ⟨tl r, List.mem_map_of_mem hr, decide_eq_true ?_⟩)
    rw [tl_length]; omega
  have hgd := seed_good he'
  rw [← es] at hgd
  obtain ⟨P, hP, hp⟩ := solB_good (z := z) h1 h2 hz1 hz (by omega) hgd L hn
  rw [es] at hP
  refine ⟨he', hr, P, hp, ?_⟩
  have hzr := zero_l0 (n := n) h2 z hz L (by omega) (kS n + 2) 0 (by omega)
  have hsv := rsolve_ev (kL n : Int) (z : Int) (matF n (seedOf (n : Int)).1 (src n)) (List.replicate (kS n + 2) (List.replicate z 0) ++ L) (by have eM := mat_len (k := n) h2 (seedOf (n : Int)).1 (src n); rw [src_len] at eM; rw [matF_len]; omega)
  rw [tll_mat, solD_zero, hP] at hsv
  exact ev_neg hb (ev_neg h10 (Ev.bind hg (ev_neg he (ev_val (rL_ok h2) (Ev.bind (first_ev h2) (Ev.bind (rmatrix_ev h1 h2 _ _ (by rw [src_len]; omega)) (Ev.bind hzr (Ev.bind hsv (ev_neg (by simp) (Ev.now _))))))))))
theorem upto {p : Nat → Nat → Prop} (n : Nat) (h : ∀ i, i < n → ∃ k0, ∀ k, k0 ≤ k → p i k) : ∃ k0, ∀ k, k0 ≤ k → ∀ i, i < n → p i k := by
  induction n with
  | zero => exact ⟨0, fun k _ i hi => absurd hi (Nat.not_lt_zero _)⟩
  | succ n ih =>
    obtain ⟨a, ha⟩ := ih (fun i hi => h i (by omega))
    obtain ⟨b, hb⟩ := h n (by omega)
    exact ⟨a + b, fun k hk i hi => by
      by_cases e : i = n
      · subst e; exact hb k (by omega)
      · exact ha k (by omega) i (by omega)⟩
theorem ro_row (M : List (List F)) (i : Nat) : Mt.ro (tll M) i = tl (row M i) := ro_tll M i
theorem told (M : List (List F)) (es : List Int) (z : Nat) (h1 : 1 ≤ M.length) (h2 : M.length ≤ 10) (hz1 : 1 ≤ z) (hz : z ≤ 64) (hn : es.length ≤ 30) : ∃ k0, ∀ k, k0 ≤ k → Bk.ToldB k (tll M) es z := by
  rcases rnew_is z M h1 (by omega) hz1 hz with ⟨e, he, a, ha⟩ | ⟨hs, hr, P, hp, a, ha⟩
  · exact ⟨a, fun k hk => .inl ⟨e, he, ha k hk⟩⟩
  obtain ⟨s1, s2⟩ := seed_nat (M.length : Int)
  obtain ⟨j, hj⟩ : ∃ j, (seedOf (M.length : Int)).1.toNat = j := ⟨_, rfl⟩
  have ej : (seedOf (M.length : Int)).1 = (j : Int) := by omega
  have hes : ∀ e ∈ es.map msk, okE e := fun e he => by
    obtain ⟨x, _, rfl⟩ := List.mem_map.1 he
    have := msk_in x
    exact ⟨by omega, by omega⟩
  have hdec := decR_back hz1 hz hr hs hp hes
  rw [hj] at hp hdec
  have hsl : (symsR M.length z j P (es.map msk)).length = es.length := by unfold symsR; rw [List.length_map, List.length_map]
  obtain ⟨b, hb⟩ := upto (p := fun i k => fountainref1_Drop.f k (M.length : Int) (j : Int) (z : Int) (tll P) (msk (rd es (i : Int))) = some (Mt.ro (tll (symsR M.length z j P (es.map msk))) i)) es.length (fun i hi => by
    have hm := msk_in (rd es (i : Int))
    obtain ⟨c, hc⟩ := rdropF_ev h1 (by omega) (j := j) (by omega) hz1 hz P hp.len hp.row (e := (msk (rd es (i : Int))).toNat) (by omega)
    rw [show (((msk (rd es (i : Int))).toNat : Nat) : Int) = msk (rd es (i : Int)) from by omega] at hc
    have e : row (symsR M.length z j P (es.map msk)) i = dropR z P (parts M.length j (msk (rd es (i : Int))).toNat) := by
      unfold row symsR
      rw [List.getD_eq_getElem?_getD, List.getElem?_map, msk_at hi]; rfl
    rw [ro_row, e]
    exact ⟨c, hc⟩)
  obtain ⟨c, hc⟩ := symbols_ev (es.map msk) (tll (symsR M.length z j P (es.map msk))) (by rw [List.length_map]; omega) (by rw [tll_length, hsl, List.length_map]; exact Nat.le_refl _) (fun r hr' => by
    obtain ⟨q, hq, rfl⟩ := List.mem_map.1 hr'
    obtain ⟨e, _, rfl⟩ := List.mem_map.1 hq
    rw [tl_length, dropR_length]; omega)
  have hdb := dblock_at (M.length : Int) (z : Int) (es.map msk) (symsR M.length z j P (es.map msk)) (by rw [List.length_map]; omega) (by rw [hsl, List.length_map]; exact Nat.le_refl _)
  have hde := denough_at (M.length : Int) (es.map msk) (by rw [List.length_map]; omega)
  rw [hdec] at hdb
  rw [ej] at ha
  have hl : (tll M).length < 2 ^ 42 := by rw [tll_length]; omega
  obtain ⟨d1, hd1⟩ := from_ev (tll M) hl
  obtain ⟨d2, hd2⟩ := same_ev (tll M) hl
  unfold Bk.ToldB
  rw [tll_length]
  cases hen : enR (M.length : Int) (es.map msk) with
  | false =>
    rw [hen] at hdb hde
    exact ⟨a + b + c, fun k hk => .inr ⟨_, _, _, tll (symsR M.length z j P (es.map msk)), _, _, _, _, ha k (by omega), by rw [tll_length, hsl], fun i hi => hb k (by omega) i hi, hc k (by omega), hdb, hde, .inl ⟨rfl, rfl, rfl⟩⟩⟩
  | true =>
    rw [hen] at hdb hde
    exact ⟨a + b + c + d1 + d2, fun k hk => .inr ⟨_, _, _, tll (symsR M.length z j P (es.map msk)), _, _, _, _, ha k (by omega), by rw [tll_length, hsl], fun i hi => hb k (by omega) i hi, hc k (by omega), hdb, hde, .inr ⟨rfl, rfl, tll M, hd1 k (by omega), hd2 k (by omega)⟩⟩⟩
theorem DecodeBack (L : List (List Int)) (hL : L.length < 2 ^ 48 ∧ ∀ r ∈ L, r.length < 2 ^ 48 ∧ ∀ x ∈ r, 0 ≤ x ∧ x ≤ 255) (es : List Int) (_ : es.length < 2 ^ 48 ∧ ∀ x ∈ es, -2 ^ 63 ≤ x ∧ x < 2 ^ 63) : Ev (fun k => fountainlaw11_DecodeBack.f k L es) true := by
  obtain ⟨M, rfl⟩ := tll_of L fun r hr => (hL.2 r hr).2
  have m1 : M.length < 2 ^ 50 := by have := hL.1; rw [tll_length] at this; omega
  have m2 : ∀ r ∈ M, r.length < 2 ^ 50 := fun r hr => by
    have := (hL.2 (tl r) (List.mem_map.2 ⟨r, hr, rfl⟩)).1
    rw [tl_length] at this; omega
  have fin : ∀ k0, (∀ k, k0 ≤ k → Bk.Hyp k (tll M) es) → Ev (fun k => fountainlaw11_DecodeBack.f k (tll M) es) true := fun k0 h => ⟨k0, fun k hk => by
    show fountainlaw11_DecodeBack.f k (tll M) es = some true
    unfold fountainlaw11_DecodeBack.f; exact if_pos (h k hk)⟩
  by_cases c1 : (M.length : Int) < 1
  · exact fin 0 fun k hk => .inl (by rw [tll_length]; exact c1)
  by_cases c2 : 10 < (M.length : Int)
  · exact fin 0 fun k hk => .inr (.inl (by rw [tll_length]; exact c2))
  obtain ⟨t, ⟨b, hb⟩, ht⟩ := few_ev M m1 m2
  cases t with
  | false => exact fin b fun k hk => .inr (.inr (.inl (hb k (by omega))))
  | true =>
    have e0 : (Mt.ro (tll M) 0).length = (row M 0).length := by rw [ro_row, tl_length]
    by_cases c3 : ((row M 0).length : Int) < 1
    · exact fin b fun k hk => .inr (.inr (.inr ⟨hb k (by omega), .inl (by rw [e0]; exact c3)⟩))
    by_cases c4 : 64 < ((row M 0).length : Int)
    · exact fin b fun k hk => .inr (.inr (.inr ⟨hb k (by omega), .inr (.inl (by rw [e0]; exact c4))⟩))
    by_cases c5 : 30 < (es.length : Int)
    · exact fin b fun k hk => .inr (.inr (.inr ⟨hb k (by omega), .inr (.inr (.inl c5))⟩))
    obtain ⟨d, hd⟩ := told M es (row M 0).length (by omega) (by omega) (by omega) (by omega) (by omega)
    exact fin (b + d) fun k hk => .inr (.inr (.inr ⟨hb k (by omega), .inr (.inr (.inr (by rw [e0]; exact hd k (by omega))))⟩))
end Go.Proofs.Ytbfhinfblepidaa.Pure
