/- A block's parts fulfil the equations: its first symbols are the source; and sums go through. No program is in sight; conditions: those that stand in the theorems. -/
import Derived.Test.YtbfhinfblepidaaDw
namespace Go.Proofs.Ytbfhinfblepidaa.Dv
open Go.RowKit Go.Proofs.YtbfhinfblepidaaW.PrintWords Go.Proofs.Ytbfhinfblepidaa.Gf Go.Proofs.Ytbfhinfblepidaa.Rw Go.Proofs.Ytbfhinfblepidaa.Pc Go.Proofs.Ytbfhinfblepidaa.La Go.Proofs.Ytbfhinfblepidaa.Sv Go.Proofs.Ytbfhinfblepidaa.FSeedTells Go.Proofs.Ytbfhinfblepidaa.Sl Go.Proofs.Ytbfhinfblepidaa.Sd Go.Proofs.Ytbfhinfblepidaa.Dq
set_option linter.unusedVariables false
def tk (W : Nat) (J : List (List F)) : List (List F) := J.map (·.take W)
theorem row_tk (W : Nat) (J : List (List F)) (i : Nat) : row (tk W J) i = (row J i).take W := row_map _ List.take_nil J i
theorem piv_tk {W c : Nat} (hc : c < W) (J : List (List F)) (n : Nat) : piv (tk W J) c n = piv J c n := by
  have h : ∀ (L : List (List F)) (i : Nat), pivFrom c (tk W L) i = pivFrom c L i := by
    intro L
    induction L with
    | nil => intro i; rfl
    | cons r L ih =>
      intro i
      show (if el (r.take W) c ≠ 0 then some i else pivFrom c (tk W L) (i + 1)) = (if el r c ≠ 0 then some i else pivFrom c L (i + 1))
      rw [el_take hc, ih]
  unfold piv
  rw [show (tk W J).drop n = tk W (J.drop n) from by unfold tk; rw [List.map_drop]]
  exact h _ _
theorem clr_tk {W c : Nat} (hc : c < W) (R : List F) (n : Nat) : ∀ (L : List (List F)) (i : Nat), clr (R.take W) c n i (tk W L) = tk W (clr R c n i L) := by
  intro L
  induction L with
  | nil => intro i; rfl
  | cons x L ih =>
    intro i
    show (if i = n then x.take W else if el (x.take W) c = 0 then x.take W else addTo (x.take W) (scaleR (el (x.take W) c) (R.take W))) :: clr (R.take W) c n (i + 1) (tk W L) = (if i = n then x else if el x c = 0 then x else addTo x (scaleR (el x c) R)).take W :: tk W (clr R c n (i + 1) L)
    rw [ih, el_take hc, scaleR_take, ← addTo_take]
    congr 1
    split
    · rfl
    · split <;> rfl
theorem pstep_tk {W c : Nat} (hc : c < W) (J : List (List F)) (n p : Nat) : pstep (tk W J) c n p = tk W (pstep J c n p) := by
  unfold pstep swp
  rw [row_tk, row_tk, el_take hc, scaleR_take, ← clr_tk hc]
  congr 1
  unfold tk
  rw [List.map_set, List.map_set]
theorem run_tk (W : Nat) (all : Bool) (f : Nat) : ∀ (c n : Nat) (J : List (List F)), c + f ≤ W → run all f c n (tk W J) = ((run all f c n J).1, tk W (run all f c n J).2) := by
  induction f with
  | zero => intro c n J _; rfl
  | succ f ih =>
    intro c n J h
    cases hp : piv J c n with
    | none =>
      rw [run_none hp, run_none (by rw [piv_tk (by omega)]; exact hp)]
      split
      · exact ih _ _ _ (by omega)
      · rfl
    | some p =>
      rw [run_some hp, run_some (by rw [piv_tk (by omega)]; exact hp), pstep_tk (by omega)]
      exact ih _ _ _ (by omega)
theorem fit_id (w : Nat) (r : List F) (h : r.length = w) : fitR w r = r := by
  unfold fitR; rw [h, Nat.sub_self, List.replicate_zero, List.append_nil]; exact List.take_of_length_le (by omega)
theorem el_left {x y : List F} {k : Nat} (h : k < x.length) : el (x ++ y) k = el x k := by
  unfold el; rw [List.getD_eq_getElem?_getD, List.getD_eq_getElem?_getD, List.getElem?_append_left h]
theorem el_right (x y : List F) (k : Nat) : el (x ++ y) (x.length + k) = el y k := by
  unfold el; rw [List.getD_eq_getElem?_getD, List.getD_eq_getElem?_getD, List.getElem?_append_right (by omega), show x.length + k - x.length = k from by omega]
theorem el_zeros (n t : Nat) : el (List.replicate n 0) t = 0 := by
  unfold el; rw [List.getD_eq_getElem?_getD, List.getElem?_replicate]; split <;> rfl
theorem ext_el {a b : List F} (h : a.length = b.length) (he : ∀ t, t < a.length → el a t = el b t) : a = b := by
  refine List.ext_getElem h fun i h1 h2 => ?_
  have := he i h1
  unfold el at this
  rw [List.getD_eq_getElem?_getD, List.getD_eq_getElem?_getD, List.getElem?_eq_getElem h1, List.getElem?_eq_getElem h2] at this
  exact this
theorem getD_set (met : List Bool) (s x : Nat) (hs : s < met.length) : (met.set s true).getD x false = if x = s then true else met.getD x false := by
  rw [List.getD_eq_getElem?_getD, List.getElem?_set, List.getD_eq_getElem?_getD]
  by_cases e : s = x
  · subst e; rw [if_pos rfl, if_pos hs, if_pos rfl]; rfl
  · rw [if_neg e, if_neg (fun k => e k.symm)]
theorem pl_nodup (w a b : Nat) (hw : 0 < w) (n : Nat) : ∀ (i : Nat) (met : List Bool) (out : List Nat), met.length = w → met.count true ≤ i → i + n ≤ w → out.Nodup → (∀ x ∈ out, met.getD x false = true) → (pl w a b n i met out).Nodup := by
  induction n with
  | zero => intro i met out _ _ _ h _; exact h
  | succ n ih =>
    intro i met out h1 h2 h3 h4 h5
    have hs : seek w met w ((b + i * a) % w) < w := seek_lt _ _ _ _ (Nat.mod_lt _ hw)
    have hf : met.getD (seek w met w ((b + i * a) % w)) false = false := by
      have := seek_free met ((b + i * a) % w) (by rw [h1]; exact Nat.mod_lt _ hw) (by omega)
      rwa [h1] at this
    obtain ⟨s, hs_⟩ : ∃ s, seek w met w ((b + i * a) % w) = s := ⟨_, rfl⟩
    rw [hs_] at hs hf
    simp only [pl]
    rw [hs_]
    have hs' : s < met.length := by omega
    refine ih (i + 1) (met.set s true) (out ++ [s]) (by rw [List.length_set]; exact h1) (by have := count_set_le met s hs'; omega) (by omega) ?_ ?_
    · refine List.nodup_append.2 ⟨h4, by simp, fun x hx y hy e => ?_⟩
      obtain rfl := List.mem_singleton.1 hy
      have := h5 x hx
      rw [e, hf] at this
      cases this
    · intro x hx
      rw [getD_set met s x hs']
      by_cases e : x = s
      · rw [if_pos e]
      · rw [if_neg e]
        rcases List.mem_append.1 hx with h | h
        · exact h5 x h
        · exact absurd (List.mem_singleton.1 h) e
theorem parts_nodup (n j e : Nat) : (parts n j e).Nodup := by
  unfold parts
  have hw : 0 < kW n := by unfold kW kS; omega
  refine List.nodup_append.2 ⟨pl_nodup _ _ _ hw _ 0 _ [] (by simp) (by rw [List.count_replicate, if_neg (by decide)]; exact Nat.zero_le _) (by have := dOf_le n j e; omega) (by simp) (fun x hx => by cases hx), by simp, fun x hx y hy h => ?_⟩
  obtain rfl := List.mem_singleton.1 hy
  have := pl_lt (kW n) (aOf n j e) (bOf n j e) hw _ _ _ _ (by simp) x hx
  omega
theorem marks_get (ps : List Nat) : ∀ (r : List Int) (c : Nat), c < r.length → (marks ps r).getD c 0 = if c ∈ ps then 1 else r.getD c 0 := by
  induction ps with
  | nil => intro r c h; simp [marks]
  | cons x ps ih =>
    intro r c h
    show (marks ps (r.set x 1)).getD c 0 = _
    rw [ih _ _ (by rw [List.length_set]; exact h)]
    by_cases h1 : c ∈ ps
    · rw [if_pos h1, if_pos (List.mem_cons_of_mem _ h1)]
    · rw [if_neg h1]
      rw [List.getD_eq_getElem?_getD, List.getElem?_set]
      by_cases h2 : x = c
      · subst h2; rw [if_pos rfl, if_pos h, if_pos List.mem_cons_self]; rfl
      · rw [if_neg h2, if_neg (fun k => by rcases List.mem_cons.1 k with k | k; exact h2 k.symm; exact h1 k), List.getD_eq_getElem?_getD]
theorem el_byt (l : List Int) (c : Nat) : el (byt l) c = UInt8.ofNat (l.getD c 0).toNat := by
  unfold el byt; rw [List.getD_eq_getElem?_getD, List.getElem?_map, List.getD_eq_getElem?_getD]; cases l[c]? <;> rfl
theorem el_part (n j e c : Nat) (h : c < kL n) : el (byt (partRow n j e)) c = if c ∈ parts n j e then 1 else 0 := by
  rw [el_byt]
  unfold partRow
  rw [marks_get _ _ _ (by rw [List.length_replicate]; exact h)]
  split
  · rfl
  · rw [List.getD_eq_getElem?_getD, List.getElem?_replicate, if_pos h]; rfl
def xs (g : Nat → F) (ps : List Nat) : F := ps.foldr (fun x a => g x ^^^ a) 0
theorem sm_mem (W : Nat) (g : Nat → F) : ∀ ps : List Nat, ps.Nodup → (∀ x ∈ ps, x < W) → sm W (fun k => fm (if k ∈ ps then 1 else 0) (g k)) = xs g ps := by
  intro ps
  induction ps with
  | nil => intro _ _; exact sm_zero W (fun k _ => by rw [if_neg (by simp), zero_fm])
  | cons x ps ih =>
    intro hn hw
    obtain ⟨h1, h2⟩ := List.nodup_cons.1 hn
    have e : sm W (fun k => fm (if k ∈ x :: ps then 1 else 0) (g k)) = sm W (fun k => (if k = x then g x else 0) ^^^ fm (if k ∈ ps then 1 else 0) (g k)) := sm_congr W fun k _ => by
      by_cases hk : k = x
      · subst hk; rw [if_pos List.mem_cons_self, if_pos rfl, if_neg h1, one_fm, zero_fm, fx_zero]
      · rw [if_neg hk, zero_fx]
        congr 1
        by_cases hp : k ∈ ps
        · rw [if_pos hp, if_pos (List.mem_cons_of_mem _ hp)]
        · rw [if_neg hp, if_neg (fun q => by rcases List.mem_cons.1 q with q | q; exact hk q; exact hp q)]
    rw [e, sm_add, ih h2 (fun y hy => hw y (List.mem_cons_of_mem _ hy)), sm_one W x (hw x List.mem_cons_self) (fun k _ hne => by rw [if_neg hne]), if_pos rfl]
    rfl
theorem el_fold (z t : Nat) (P : List (List F)) : ∀ (ps : List Nat) (acc : List F), acc.length = z → (∀ x ∈ ps, (row P x).length = z) → el ((ps.map (row P)).foldl addTo acc) t = el acc t ^^^ xs (fun x => el (row P x) t) ps := by
  intro ps
  induction ps with
  | nil => intro acc _ _; show el acc t = el acc t ^^^ 0; rw [fx_zero]
  | cons x ps ih =>
    intro acc h1 h2
    show el ((ps.map (row P)).foldl addTo (addTo acc (row P x))) t = _
    rw [ih _ (by rw [addTo_length]; exact h1) (fun y hy => h2 y (List.mem_cons_of_mem _ hy)), el_add (by rw [h1, h2 x List.mem_cons_self]), fx_assoc]
    rfl
theorem el_drop' (z t : Nat) (P : List (List F)) (ps : List Nat) (h : ∀ x ∈ ps, (row P x).length = z) : el (dropR z P ps) t = xs (fun x => el (row P x) t) ps := by
  unfold dropR sumR
  rw [el_fold z t P ps _ List.length_replicate h, el_zeros, zero_fx]
theorem dropR_length (z : Nat) (P : List (List F)) (ps : List Nat) : (dropR z P ps).length = z := sumR_length _ _
structure Parts (n z : Nat) (j : Nat) (L P : List (List F)) : Prop where
  len : P.length = kL n
  row : ∀ r ∈ P, r.length = z
  sat : ∀ r ∈ comb (kL n) z (matF n (j : Int) (src n)) (List.replicate (kS n + 2) [] ++ L), Sat (kL n) z P (el r)
  full : (run true (kL n) 0 0 (comb (kL n) z (matF n (j : Int) (src n)) (List.replicate (kS n + 2) [] ++ L))).1 = kL n
theorem mat_length {n j : Nat} (h2 : n ≤ 40) (hj : j ≤ 255) : (matOf n (j : Int) (src n)).length = kL n := by
  unfold matOf
  have : (0 ≤ (j : Int) ∧ (j : Int) ≤ 255) ∧ ∀ e ∈ src n, okE e := ⟨by omega, fun e he => by
    obtain ⟨i, hi, rfl⟩ := List.mem_map.1 he
    have := List.mem_range.1 hi
    unfold okE; omega⟩
  rw [if_pos this, List.length_append]
  unfold ties esiRows
  rw [List.length_append, lowRows_length, highRows_length, List.length_map, src_len]
  unfold kL kW; omega
theorem solB_good {n z j : Nat} (h1 : 1 ≤ n) (h2 : n ≤ 40) (hz1 : 1 ≤ z) (hz : z ≤ 64) (hj : j ≤ 255) (hg : rk n (j : Int) (src n) = kL n) (L : List (List F)) (hL : L.length = n) :
    ∃ P, solD n z (j : Int) (src n) L = (tll P, 0) ∧ Parts n z j L P := by
  have hk := kL_le h2
  have hk1 : 1 ≤ kL n := by unfold kL; omega
  have hml := mat_length h2 hj
  have hmF : (matF n (j : Int) (src n)).length = kL n := by rw [matF_len]; exact hml
  have hlen : (matF n (j : Int) (src n)).length = (List.replicate (kS n + 2) ([] : List F) ++ L).length := by rw [hmF, List.length_append, List.length_replicate, hL]; unfold kL kW; omega
  unfold solD solR
  rw [if_neg (by omega), Int.toNat_natCast, Int.toNat_natCast]
  have hm := comb_mem (kL n) z (matF n (j : Int) (src n)) (List.replicate (kS n + 2) [] ++ L)
  have hcl := comb_len (kL n) z _ _ hlen
  have hlo : tk (kL n) (comb (kL n) z (matF n (j : Int) (src n)) (List.replicate (kS n + 2) [] ++ L)) = matF n (j : Int) (src n) := by
    have h := comb_lo (kL n) z _ _ hlen
    unfold lo at h
    have h' : tll (tk (kL n) (comb (kL n) z (matF n (j : Int) (src n)) (List.replicate (kS n + 2) [] ++ L))) = tll ((matF n (j : Int) (src n)).map (fitR (kL n))) := h
    have inj : ∀ A B : List (List F), tll A = tll B → A = B := by
      intro A
      induction A with
      | nil => intro B h; cases B with
        | nil => rfl
        | cons _ _ => simp [tll] at h
      | cons a A ih => intro B h; cases B with
        | nil => simp [tll] at h
        | cons b B =>
          have h0 : tl a :: tll A = tl b :: tll B := h
          obtain ⟨e1, e2⟩ := List.cons.inj h0
          rw [tl_inj e1, ih B e2]
    rw [inj _ _ h']
    conv => rhs; rw [← List.map_id (matF n (j : Int) (src n))]
    exact List.map_congr_left fun r hr => fit_id _ r (matF_mem hr)
  generalize hJ : comb (kL n) z (matF n (j : Int) (src n)) (List.replicate (kS n + 2) [] ++ L) = J at hm hcl hlo
  have hr : (run true (kL n) 0 0 J).1 = kL n := by
    have h := run_tk (kL n) true (kL n) 0 0 J (by omega)
    rw [hlo] at h
    unfold rk rankR at hg
    rw [show RkSolveTells.cl (kL n : Int) = kL n from by unfold RkSolveTells.cl; omega] at hg
    have hid : (matF n (j : Int) (src n)).map (fitR (kL n)) = matF n (j : Int) (src n) := by
      conv => rhs; rw [← List.map_id (matF n (j : Int) (src n))]
      exact List.map_congr_left fun r hr => fit_id _ r (matF_mem hr)
    rw [hid] at hg
    unfold rank at hg
    rw [h] at hg
    exact hg
  obtain ⟨b, nl, len, hd, _⟩ := run_full hm hr
  have hn : (run true (kL n) 0 0 J).2.length = kL n := by rw [b, hcl, hmF]
  unfold sol
  rw [if_neg (by omega)]
  have hnone : (run true (kL n) 0 0 J).2.drop (kL n) = [] := List.drop_eq_nil_of_le (by omega)
  rw [hnone, if_neg (show ¬ RsSolveTells.loose2 (kL n) (tll []) = true from by unfold RsSolveTells.loose2 tll; simp)]
  have htake : (run true (kL n) 0 0 J).2.take (kL n) = (run true (kL n) 0 0 J).2 := List.take_of_length_le (by omega)
  rw [htake]
  refine ⟨(run true (kL n) 0 0 J).2.map (·.drop (kL n)), rfl, by rw [List.length_map, hn], fun r hr' => ?_, ?_, by rw [hJ]; exact hr⟩
  · obtain ⟨q, hq, rfl⟩ := List.mem_map.1 hr'
    rw [List.length_drop, len q hq]; omega
  · rw [hJ]
    refine sat_of_told hm hr (fun i hi t ht => ?_) (fun i h3 h4 t ht => by rw [hcl, hmF] at h4; omega)
    rw [row_map _ List.drop_nil, el_drop]
theorem row_app_right (A B : List (List F)) (i : Nat) : row (A ++ B) (A.length + i) = row B i := by
  unfold row; rw [List.getD_eq_getElem?_getD, List.getD_eq_getElem?_getD, List.getElem?_append_right (by omega), show A.length + i - A.length = i from by omega]
theorem comb_row (W S : Nat) : ∀ (M D : List (List F)) (i : Nat), i < M.length → M.length = D.length → row (comb W S M D) i = fitR W (row M i) ++ fitR S (row D i) := by
  intro M
  induction M with
  | nil => intro D i h; simp at h
  | cons m M ih =>
    intro D i h h2
    cases D with
    | nil => simp at h2
    | cons d D =>
      cases i with
      | zero => rfl
      | succ i => exact ih D i (by simpa using h) (by simpa using h2)
theorem source {n z j : Nat} (h1 : 1 ≤ n) (h2 : n ≤ 40) (hj : j ≤ 255) {L P : List (List F)} (hL : L.length = n) (hs : ∀ r ∈ L, r.length = z) (h : Parts n z j L P) (i : Nat) (hi : i < n) : dropR z P (parts n j i) = row L i := by
  have hml := mat_length h2 hj
  have hmF : (matF n (j : Int) (src n)).length = kL n := by rw [matF_len]; exact hml
  have hlen : (matF n (j : Int) (src n)).length = (List.replicate (kS n + 2) ([] : List F) ++ L).length := by rw [hmF, List.length_append, List.length_replicate, hL]; unfold kL kW; omega
  have hpr : ∀ x ∈ parts n j i, (row P x).length = z := fun x hx => h.row _ (row_mem (by rw [h.len]; exact parts_lt n j i x hx))
  have hrl : (row L i).length = z := hs _ (row_mem (by omega))
  refine ext_el (by rw [dropR_length, hrl]) fun t ht => ?_
  rw [dropR_length] at ht
  rw [el_drop' z t P _ hpr]
  have hidx : kS n + 2 + i < kL n := by unfold kL kW; omega
  have hrow : row (comb (kL n) z (matF n (j : Int) (src n)) (List.replicate (kS n + 2) [] ++ L)) (kS n + 2 + i) = byt (partRow n j i) ++ row L i := by
    rw [comb_row _ _ _ _ _ (by rw [hmF]; exact hidx) hlen]
    have e1 : row (List.replicate (kS n + 2) ([] : List F) ++ L) (kS n + 2 + i) = row L i := by
      have := row_app_right (List.replicate (kS n + 2) ([] : List F)) L i
      rwa [List.length_replicate] at this
    have e2 : row (matF n (j : Int) (src n)) (kS n + 2 + i) = byt (partRow n j i) := by
      have hok : (0 ≤ (j : Int) ∧ (j : Int) ≤ 255) ∧ ∀ e ∈ src n, okE e := ⟨by omega, fun e he => by
        obtain ⟨q, hq, rfl⟩ := List.mem_map.1 he
        have := List.mem_range.1 hq
        unfold okE; omega⟩
      unfold matF matOf
      rw [if_pos hok]
      unfold row byts
      rw [List.getD_eq_getElem?_getD, List.getElem?_map]
      have ht : (ties n).length = kS n + 2 := by unfold ties; rw [List.length_append, lowRows_length, highRows_length]
      rw [List.getElem?_append_right (by omega), show kS n + 2 + i - (ties n).length = i from by omega]
      unfold esiRows src
      rw [List.map_map, List.getElem?_map, List.getElem?_range hi]
      show byt (partRow n (j : Int).toNat (i : Int).toNat) = _
      rw [Int.toNat_natCast, Int.toNat_natCast]
    rw [e1, e2, fit_id _ _ (by unfold byt; rw [List.length_map, partRow_length]), fit_id _ _ hrl]
  have hsat := h.sat _ (row_mem (show kS n + 2 + i < (comb (kL n) z (matF n (j : Int) (src n)) (List.replicate (kS n + 2) [] ++ L)).length from by rw [comb_len _ _ _ _ hlen, hmF]; exact hidx)) t ht
  rw [hrow] at hsat
  have hbl : (byt (partRow n j i)).length = kL n := by unfold byt; rw [List.length_map, partRow_length]
  have hre : el (byt (partRow n j i) ++ row L i) (kL n + t) = el (row L i) t := by rw [← hbl]; exact el_right _ _ _
  rw [hre] at hsat
  rw [← hsat, ← sm_mem (kL n) (fun k => el (row P k) t) (parts n j i) (parts_nodup n j i) (parts_lt n j i)]
  exact sm_congr _ fun k hk => by rw [el_left (by rw [hbl]; exact hk), el_part n j i k hk]
end Go.Proofs.Ytbfhinfblepidaa.Dv
