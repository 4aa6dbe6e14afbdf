/- What decode.Block and the document's Decode come to, in rows of elements: they are one. Conditions: those that stand in the theorems. -/
import Derived.Test.YtbfhinfblepidaaSm
import Derived.Test.YtbfhinfblepidaaSd
import Derived.Test.YtbfhinfblepidaaPa
import Derived.Test.YtbfhinfblepidaaPd
namespace Go.Proofs.Ytbfhinfblepidaa.Dq
open Go.RowKit Go.Proofs.Ytbfhinfblepidaa.PSolveTells Go.Proofs.Ytbfhinfblepidaa.PSeedTells Go.Proofs.Ytbfhinfblepidaa.PBlockTells Go.Proofs.Ytbfhinfblepidaa.PDecodeTells Go.Proofs.YtbfhinfblepidaaW.PrintWords Go.Proofs.YtbfhinfblepidaaW.PrintLast Go.Proofs.Ytbfhinfblepidaa.Gf Go.Proofs.Ytbfhinfblepidaa.Rw Go.Proofs.Ytbfhinfblepidaa.Pc Go.Proofs.Ytbfhinfblepidaa.La Go.Proofs.Ytbfhinfblepidaa.Sv Go.Proofs.Ytbfhinfblepidaa.FSolveTells Go.Proofs.Ytbfhinfblepidaa.FSeedTells Go.Proofs.Ytbfhinfblepidaa.Sl Go.Proofs.Ytbfhinfblepidaa.Sd Go.Proofs.Ytbfhinfblepidaa.Mt Go.Proofs.Ytbfhinfblepidaa.Dm Go.Proofs.Ytbfhinfblepidaa.Db Go.Proofs.Ytbfhinfblepidaa.Dr
set_option linter.unusedVariables false
set_option linter.unusedSectionVars false
theorem rd_iN {l : List Nat} {i x : Nat} (h : l[i]? = some x) : rd (iN l) (i : Int) = (x : Int) := by
  unfold rd iN; rw [Int.toNat_natCast, List.getD_eq_getElem?_getD, List.getElem?_map, h]; rfl
theorem L1_tll (P : List (List F)) (x : Nat) : rd_L1 (tll P) (x : Int) = tl (row P x) := by
  have := ro_tll P x
  unfold rd_L1; rw [Int.toNat_natCast]; exact this
def dropR (z : Nat) (P : List (List F)) (ps : List Nat) : List F := sumR z (ps.map (row P))
theorem tl1 (L : List (List F)) (y : List F) : tll L ++ [tl y] = tll (L ++ [y]) := by unfold tll; rw [List.map_append]; rfl
section
variable (z : Nat) (hz : z ≤ 64) (P : List (List F)) (hP : ∀ r ∈ P, r.length < 2 ^ 50) (hPl : P.length < 2 ^ 30) (ps : List Nat) (hps : ∀ x ∈ ps, x < P.length) (hpl : ps.length < 2 ^ 30)
include hz hP hPl hps hpl
theorem sum_rows (L : List (List F)) (hL : L = ps.map (row P)) : Ev (fun k => rows_Sum.f k (z : Int) (tll L)) (tl (dropR z P ps)) := by
  have h := sum_ev (z : Int) L (by rw [hL, List.length_map]; omega) (fun r hr => by
    rw [hL] at hr
    obtain ⟨x, hx, rfl⟩ := List.mem_map.1 hr
    exact hP _ (row_mem (hps x hx)))
  rw [show cutN (z : Int) = z from by unfold cutN; omega, hL] at h
  rw [hL]; exact h
theorem rsum_rows (L : List (List F)) (hL : L = ps.map (row P)) : Ev (fun k => fountainref1_Sum.f k (z : Int) (tll L)) (tl (dropR z P ps)) := by
  have h := rsum_ev (z : Int) L (by rw [hL, List.length_map]; omega)
  rw [show cutN (z : Int) = z from by unfold cutN; omega, hL] at h
  rw [hL]; exact h
theorem drop_l0 (t : List Nat) : ∀ pre : List Nat, ps = pre ++ t → Ev (fun k => drops_Drop.l0 k (z : Int) (tll P) (tll (pre.map (row P))) (iN ps) (ps.length : Int) (pre.length : Int)) (tl (dropR z P ps)) := by
  induction t with
  | nil =>
    intro pre hp
    rw [List.append_nil] at hp
    refine Ev.step (fun k => by simp only [drops_Drop.l0]; rfl) ?_
    refine ev_neg (by rw [hp]; omega) (Ev.bind (sum_rows z hz P hP hPl ps hps hpl _ (by rw [hp])) (Ev.now _))
  | cons x t ih =>
    intro pre hp
    have hlen : ps.length = pre.length + (t.length + 1) := by rw [hp]; simp
    have hx : ps[pre.length]? = some x := by rw [hp, List.getElem?_append_right (Nat.le_refl _), Nat.sub_self]; rfl
    have hxl := hps x (by rw [hp]; simp)
    refine Ev.step (fun k => by simp only [drops_Drop.l0]; rfl) ?_
    refine ev_pos (by omega) (ev_pos (by omega) (ev_pos (by rw [iN_length]; omega) ?_))
    rw [rd_iN hx]
    refine ev_pos (by omega) (ev_pos (by rw [tll_length]; omega) (ev_pos (by rw [tll_length, List.length_map]; omega) ?_))
    rw [L1_tll, tl1, w64 (i := (pre.length : Int) + 1) (by omega) (by omega), show (pre.length : Int) + 1 = ((pre.length + 1 : Nat) : Int) from by omega]
    have := ih (pre ++ [x]) (by rw [hp, List.append_assoc]; rfl)
    rw [List.length_append, List.length_singleton, List.map_append] at this
    exact this
theorem rdrop_l0 (t : List Nat) : ∀ pre : List Nat, ps = pre ++ t → Ev (fun k => fountainref1_Drop.l0 k (z : Int) (tll P) (iN ps) (tll (pre.map (row P))) (pre.length : Int)) (tl (dropR z P ps)) := by
  induction t with
  | nil =>
    intro pre hp
    rw [List.append_nil] at hp
    refine Ev.step (fun k => by simp only [fountainref1_Drop.l0]; rfl) ?_
    refine ev_neg (by rw [iN_length, hp]; omega) (Ev.bind (rsum_rows z hz P hP hPl ps hps hpl _ (by rw [hp])) (Ev.now _))
  | cons x t ih =>
    intro pre hp
    have hlen : ps.length = pre.length + (t.length + 1) := by rw [hp]; simp
    have hx : ps[pre.length]? = some x := by rw [hp, List.getElem?_append_right (Nat.le_refl _), Nat.sub_self]; rfl
    have hxl := hps x (by rw [hp]; simp)
    refine Ev.step (fun k => by simp only [fountainref1_Drop.l0]; rfl) ?_
    refine ev_pos (by rw [iN_length]; omega) (ev_pos (by omega) ?_)
    rw [rd_iN hx]
    refine ev_pos (by omega) (ev_pos (by rw [tll_length]; omega) (ev_pos (by rw [tll_length, List.length_map]; omega) ?_))
    rw [L1_tll, tl1, w64 (i := (pre.length : Int) + 1) (by omega) (by omega), show (pre.length : Int) + 1 = ((pre.length + 1 : Nat) : Int) from by omega]
    have := ih (pre ++ [x]) (by rw [hp, List.append_assoc]; rfl)
    rw [List.length_append, List.length_singleton, List.map_append] at this
    exact this
end
theorem fit_zero (z : Nat) : fitR z [] = List.replicate z 0 := by unfold fitR; simp
theorem fit_zeros (z : Nat) : fitR z (List.replicate z 0) = List.replicate z 0 := by unfold fitR; simp
theorem comb_congr (W S : Nat) : ∀ (M D E : List (List F)), D.map (fitR S) = E.map (fitR S) → comb W S M D = comb W S M E := by
  intro M
  induction M with
  | nil => intro D E _; cases D <;> cases E <;> rfl
  | cons m M ih =>
    intro D E h
    cases D with
    | nil => cases E with
      | nil => rfl
      | cons _ _ => simp at h
    | cons d D => cases E with
      | nil => simp at h
      | cons e E =>
        simp only [List.map_cons, List.cons.injEq] at h
        simp only [comb]
        rw [h.1, ih D E h.2]
theorem seed_nat (n : Int) : 0 ≤ (seedOf n).1 ∧ (seedOf n).1 ≤ 255 := by
  unfold seedOf
  split
  · exact ⟨by decide, by decide⟩
  · rcases find_says n.toNat 256 0 with e | ⟨i, g1, g2, e, _⟩
    · rw [e]; exact ⟨by decide, by decide⟩
    · rw [e]; simp only; omega
theorem zero_l0 {n : Nat} (h2 : n ≤ 40) (z : Nat) (hz : z ≤ 64) (L : List (List F)) (hL : L.length < 2 ^ 40) (d : Nat) : ∀ i, i + d = kS n + 2 →
    Ev (fun k => fountainref1_zero.l0 k (n : Int) (z : Int) (tll L) (tll (List.replicate i (List.replicate z 0))) (i : Int)) (tll (List.replicate (kS n + 2) (List.replicate z 0) ++ L)) := by
  have hk := kS_le h2
  have e1 : wrap64 (((kS n : Nat) : Int) + 2) = ((kS n + 2 : Nat) : Int) := by rw [w64 (by omega) (by omega)]; omega
  induction d with
  | zero =>
    intro i hi
    refine Ev.step (fun k => by simp only [fountainref1_zero.l0]; rfl) ?_
    refine ev_val (rS_ok h2) ?_
    rw [e1]
    obtain rfl : i = kS n + 2 := by omega
    refine ev_neg (by omega) (ev_pos (by rw [tll_length, tll_length, List.length_replicate]; omega) ?_)
    rw [show tll (List.replicate (kS n + 2) (List.replicate z 0)) ++ tll L = tll (List.replicate (kS n + 2) (List.replicate z 0) ++ L) from by unfold tll; rw [List.map_append]]
    exact Ev.now _
  | succ d ih =>
    intro i hi
    refine Ev.step (fun k => by simp only [fountainref1_zero.l0]; rfl) ?_
    refine ev_val (rS_ok h2) ?_
    rw [e1]
    refine ev_pos (by omega) (ev_pos (by omega) (ev_pos (by rw [Int.toNat_natCast]; omega) (ev_pos (by rw [tll_length, List.length_replicate]; omega) ?_)))
    rw [Int.toNat_natCast, ← tl_replicate, tl1, w64 (i := (i : Int) + 1) (by omega) (by omega), show (i : Int) + 1 = ((i + 1 : Nat) : Int) from by omega]
    have := ih (i + 1) (by omega)
    rw [List.replicate_succ'] at this
    exact this
def solD (n z : Nat) (j : Int) (es : List Int) (L : List (List F)) : List (List Int) × Int := solR (kL n : Int) (z : Int) (matF n j es) (List.replicate (kS n + 2) [] ++ L)
theorem solD_zero (n z : Nat) (j : Int) (es : List Int) (L : List (List F)) : solR (kL n : Int) (z : Int) (matF n j es) (List.replicate (kS n + 2) (List.replicate z 0) ++ L) = solD n z j es L := by
  unfold solD solR
  rw [List.length_append, List.length_append, List.length_replicate, List.length_replicate]
  split
  · rfl
  · rw [Int.toNat_natCast, Int.toNat_natCast]
    rw [comb_congr (kL n) z (matF n j es) (List.replicate (kS n + 2) (List.replicate z 0) ++ L) (List.replicate (kS n + 2) [] ++ L)]
    rw [List.map_append, List.map_append, List.map_replicate, List.map_replicate, fit_zero, fit_zeros]
theorem solD_shape {n z : Nat} {j : Int} {es : List Int} {L : List (List F)} (h : (solD n z j es L).2 = 0) : ∃ P : List (List F), (solD n z j es L).1 = tll P ∧ P.length = kL n ∧ ∀ r ∈ P, r.length = z := by
  unfold solD solR at h ⊢
  split at h
  · cases h
  · rename_i hc
    rw [if_neg hc]
    rw [Int.toNat_natCast, Int.toNat_natCast] at h ⊢
    have hm := comb_mem (kL n) z (matF n j es) (List.replicate (kS n + 2) [] ++ L)
    generalize comb (kL n) z (matF n j es) (List.replicate (kS n + 2) [] ++ L) = J at h hm ⊢
    unfold sol at h ⊢
    split at h
    · cases h
    · rename_i h1
      rw [if_neg h1]
      split at h
      · cases h
      · rename_i h2
        rw [if_neg h2]
        obtain ⟨f1, f2⟩ := run_facts hm
        refine ⟨_, rfl, by rw [List.length_map, List.length_take]; omega, fun r hr => ?_⟩
        obtain ⟨q, hq, rfl⟩ := List.mem_map.1 hr
        have := f2 q (List.mem_of_mem_take hq)
        rw [List.length_drop, this]; omega
theorem parts_gen {n z : Nat} (h1 : 1 ≤ n) (h2 : n ≤ 40) (j : Int) (es : List Int) (he : es.length < 2 ^ 30) (L : List (List F)) (hL : L.length < 2 ^ 30) (hs : ∀ r ∈ L, r.length < 2 ^ 40) :
    Ev (fun k => block_Parts.f k (n : Int) ((kS n : Nat) : Int) 2 j (z : Int) es (tll L)) (solD n z j es L) := by
  unfold block_Parts.f
  have hk := kS_le h2
  have e1 : wrap64 (((kS n : Nat) : Int) + 2) = ((kS n + 2 : Nat) : Int) := by rw [w64 (by omega) (by omega)]; omega
  have et : (List.replicate (kS n + 2) ([] : List Int)) = tll (List.replicate (kS n + 2) []) := by unfold tll; rw [List.map_replicate]; rfl
  have eM := mat_len h2 j es
  have hq := Pz.ev_of (solve_ev (kL n : Int) (z : Int) (matF n j es) (List.replicate (kS n + 2) [] ++ L) (by rw [matF_len]; omega) (fun r hr => by rw [matF_mem hr]; have := kL_le h2; omega) (fun r hr => by
    rcases List.mem_append.1 hr with h | h
    · rw [List.eq_of_mem_replicate h]; simp
    · exact hs r h))
  rw [tll_mat] at hq
  rw [e1, Int.toNat_natCast]
  refine ev_pos (by omega) (ev_pos (by omega) (ev_val rfl (ev_val (l_ok h2) ?_)))
  refine Ev.bind (matrix_ev h1 h2 j es (by omega)) (ev_pos (by rw [List.length_replicate, tll_length]; omega) ?_)
  rw [et, show tll (List.replicate (kS n + 2) []) ++ tll L = tll (List.replicate (kS n + 2) [] ++ L) from by unfold tll; rw [List.map_append]]
  exact ev_val hq (Ev.now _)
theorem dOf_le (n j e : Nat) : dOf n j e ≤ kW n := by unfold dOf; omega
section
variable {n j z : Nat} (h1 : 1 ≤ n) (h2 : n ≤ 40) (hj : j ≤ 255) (hz1 : 1 ≤ z) (hz : z ≤ 64) (P : List (List F)) (hl : P.length = kL n) (hP : ∀ r ∈ P, r.length = z)
include h1 h2 hj hz1 hz hl hP
theorem dropF_ev {e : Nat} (he : e < 16777216) : Ev (fun k => drops_Drop.f k (n : Int) ((kS n : Nat) : Int) 2 (j : Int) (z : Int) (tll P) (e : Int)) (tl (dropR z P (parts n j e))) := by
  have hpl := parts_length n j e
  have hd := dOf_le n j e
  have hk : kW n ≤ 47 := by unfold kW kS; omega
  have hne : ¬ (((iN (parts n j e)).length : Int) = 0) := by rw [iN_length, hpl]; omega
  have hlt := parts_lt n j e
  unfold drops_Drop.f
  refine Ev.bind (parts_ev h1 h2 hj he) (ev_neg hne (ev_val (l_ok h2) (ev_pos (by rw [tll_length]; omega) (ev_neg (by omega) ?_))))
  rw [decide_eq_false (show ¬ (z : Int) > 64 by omega)]
  refine Ev.step (fun k => by simp only [drops_Drop.j0]; rfl) ?_
  refine ev_neg (by decide) ?_
  rw [iN_length]
  exact drop_l0 z hz P (fun r hr => by rw [hP r hr]; omega) (by have := kL_le h2; omega) (parts n j e) (fun x hx => by rw [hl]; exact hlt x hx) (by omega) (parts n j e) [] rfl
theorem rdropF_ev {e : Nat} (he : e < 16777216) : Ev (fun k => fountainref1_Drop.f k (n : Int) (j : Int) (z : Int) (tll P) (e : Int)) (tl (dropR z P (parts n j e))) := by
  have hpl := parts_length n j e
  have hd := dOf_le n j e
  have hk : kW n ≤ 47 := by unfold kW kS; omega
  have hne : ¬ (((iN (parts n j e)).length : Int) = 0) := by rw [iN_length, hpl]; omega
  have hlt := parts_lt n j e
  unfold fountainref1_Drop.f
  refine Ev.bind (rparts_ev h1 h2 hj he) (ev_neg hne (ev_val (rL_ok h2) (ev_pos (by rw [tll_length]; omega) (ev_neg (by omega) ?_))))
  rw [decide_eq_false (show ¬ (z : Int) > 64 by omega)]
  refine Ev.step (fun k => by simp only [fountainref1_Drop.j0]; rfl) ?_
  refine ev_neg (by decide) ?_
  exact rdrop_l0 z hz P (fun r hr => by rw [hP r hr]; omega) (by have := kL_le h2; omega) (parts n j e) (fun x hx => by rw [hl]; exact hlt x hx) (by omega) (parts n j e) [] rfl
theorem drops_l0 (d : Nat) : ∀ i, i + d = n → Ev (fun k => drops_Drops.l0 k (j : Int) (z : Int) (tll P) ((List.range i).map fun e => tl (dropR z P (parts n j e))) (src n) (n : Int) (i : Int) (n : Int) ((kS n : Nat) : Int) 2) ((List.range n).map fun e => tl (dropR z P (parts n j e))) := by
  induction d with
  | zero =>
    intro i hi
    obtain rfl : i = n := by omega
    refine Ev.step (fun k => by simp only [drops_Drops.l0]; rfl) ?_
    exact ev_neg (by omega) (Ev.now _)
  | succ d ih =>
    intro i hi
    refine Ev.step (fun k => by simp only [drops_Drops.l0]; rfl) ?_
    have hr : rd (src n) (i : Int) = (i : Int) := by
      unfold rd src; rw [Int.toNat_natCast, List.getD_eq_getElem?_getD, List.getElem?_map, List.getElem?_range (by omega)]; rfl
    refine ev_pos (by omega) (ev_pos (by omega) (ev_pos (by rw [src_len]; omega) ?_))
    rw [hr]
    refine Ev.bind (dropF_ev h1 h2 hj hz1 hz P hl hP (e := i) (by omega)) (ev_neg (by rw [tl_length, show (dropR z P (parts n j i)).length = z from sumR_length _ _]; omega) (ev_pos (by rw [List.length_map, List.length_range]; omega) ?_))
    rw [w64 (i := (i : Int) + 1) (by omega) (by omega), show (i : Int) + 1 = ((i + 1 : Nat) : Int) from by omega]
    have := ih (i + 1) (by omega)
    rw [List.range_succ, List.map_append] at this
    exact this
end
theorem pick_mem {acc : List S111} {x y : S111} (h : y ∈ pick acc x) : y ∈ acc ∨ y = x := by
  unfold pick at h
  split at h
  · exact .inl h
  · rcases List.mem_append.1 h with h | h
    · exact .inl h
    · exact .inr (by simpa using h)
theorem foldl_mem : ∀ (L acc : List S111) (y : S111), y ∈ L.foldl pick acc → y ∈ acc ∨ y ∈ L
  | [], acc, y, h => .inl h
  | x :: L, acc, y, h => by
    rcases foldl_mem L (pick acc x) y h with h | h
    · rcases pick_mem h with h | h
      · exact .inl h
      · exact .inr (by rw [h]; exact List.mem_cons_self)
    · exact .inr (List.mem_cons_of_mem _ h)
theorem firsts_mem {Z : List S111} {y : S111} (h : y ∈ firsts Z) : y ∈ Z := by
  rcases foldl_mem Z [] y h with h | h
  · cases h
  · exact h
theorem firsts_len (Z : List S111) : (firsts Z).length ≤ Z.length := by
  have := firsts_le Z Z.length (Nat.le_refl _)
  rwa [List.take_length] at this
def ER (Z : List S111) : List Int := (firsts Z).map (·.f0)
def FR (Z : List S111) : List (List F) := (firsts Z).map fun x => byt x.f1
theorem ER_len (Z : List S111) : (ER Z).length ≤ Z.length := by unfold ER; rw [List.length_map]; exact firsts_len Z
theorem FR_len (Z : List S111) : (FR Z).length ≤ Z.length := by unfold FR; rw [List.length_map]; exact firsts_len Z
theorem FR_tll {Z : List S111} (h : ∀ x ∈ Z, Byt x.f1) : (firsts Z).map (·.f1) = tll (FR Z) := by
  unfold FR tll
  rw [List.map_map]
  exact List.map_congr_left fun x hx => (tl_byt x.f1 (h x (firsts_mem hx))).symm
theorem byt_len (l : List Int) : (byt l).length = l.length := by unfold byt; rw [List.length_map]
theorem FR_mem {Z : List S111} {z : Int} (h : odds z Z = false) {r : List F} (hr : r ∈ FR Z) : (r.length : Int) = z := by
  obtain ⟨x, hx, rfl⟩ := List.mem_map.1 hr
  unfold odds at h
  rw [List.any_eq_false] at h
  have := h x (firsts_mem hx)
  unfold Cd.odd at this
  rw [byt_len]
  simpa using this
def PR (K z : Int) (Z : List S111) : List (List F) := byts (solD K.toNat z.toNat (seedOf K).1 (ER Z) (FR Z)).1
def decR (K z : Int) (Z : List S111) : List (List Int) × Int :=
  if (K < 1 ∨ 40 < K ∨ z < 1 ∨ 64 < z) ∨ bads Z = true then ([], 1) else if odds z Z = true then ([], 10) else if (seedOf K).2 ≠ 0 then ([], (seedOf K).2) else
  if (solD K.toNat z.toNat (seedOf K).1 (ER Z) (FR Z)).2 ≠ 0 then ([], (solD K.toNat z.toNat (seedOf K).1 (ER Z) (FR Z)).2) else
  ((List.range K.toNat).map fun e => tl (dropR z.toNat (PR K z Z) (parts K.toNat (seedOf K).1.toNat e)), 0)
theorem tll_inj {A B : List (List F)} (h : tll A = tll B) : A = B := by
  induction A generalizing B with
  | nil => cases B with
    | nil => rfl
    | cons _ _ => simp [tll] at h
  | cons a A ih => cases B with
    | nil => simp [tll] at h
    | cons b B =>
      obtain ⟨e1, e2⟩ := List.cons.inj (show tl a :: tll A = tl b :: tll B from h)
      rw [tl_inj e1, ih e2]
theorem tl_byte (r : List F) : Byt (tl r) := fun x hx => by
  obtain ⟨a, _, rfl⟩ := List.mem_map.1 hx
  unfold ti; have := a.toNat_lt; omega
theorem byts_tll (P : List (List F)) : byts (tll P) = P := tll_inj (tll_byts _ (fun l hl x hx => by
  obtain ⟨r, _, rfl⟩ := List.mem_map.1 hl
  exact tl_byte r x hx))
section
variable (K z : Int) (Z : List S111) (hZ : Z.length ≤ 1000) (hb : ∀ x ∈ Z, Byt x.f1)
include hZ hb
theorem dblock_ev : Ev (fun k => Db.dblock.f k K z Z) (decR K z Z) := by
  unfold Db.dblock.f decR
  refine ev_neg (by omega) ?_
  by_cases c1 : K < 1 ∨ 40 < K
  · rw [if_pos (.inl (by omega))]
    exact ev_val (of_no c1) (ev_pos (.inl (by simp)) (Ev.now _))
  obtain ⟨n, rfl⟩ : ∃ n : Nat, K = (n : Int) := ⟨K.toNat, by omega⟩
  have h1 : 1 ≤ n := by omega
  have h2 : n ≤ 40 := by omega
  refine ev_val (of_ok h1 h2) ?_
  simp only
  by_cases c2 : z < 1 ∨ 64 < z
  · rw [if_pos (.inl (by omega))]
    exact ev_pos (by omega) (Ev.now _)
  obtain ⟨y, rfl⟩ : ∃ y : Nat, z = (y : Int) := ⟨z.toNat, by omega⟩
  by_cases c3 : bads Z = true
  · rw [if_pos (.inr c3)]
    exact ev_pos (.inr (.inr (.inr c3))) (Ev.now _)
  rw [if_neg (by rintro (h | h); · omega
                 · exact c3 h)]
  refine ev_neg (by rintro (h | h | h | h); · exact h rfl
                    · omega
                    · omega
                    · exact c3 h) ?_
  by_cases c4 : odds (y : Int) Z = true
  · rw [if_pos c4]; exact ev_pos c4 (Ev.now _)
  rw [if_neg c4]
  refine ev_neg c4 (Ev.bind (find_ev (n : Int)) ?_)
  by_cases c5 : (seedOf (n : Int)).2 ≠ 0
  · rw [if_pos c5]; exact ev_pos c5 (Ev.now _)
  rw [if_neg c5]
  refine ev_neg c5 ?_
  rw [FR_tll hb]
  obtain ⟨s1, s2⟩ := seed_nat (n : Int)
  have hfm : ∀ r ∈ FR Z, r.length < 2 ^ 40 := fun r hr => by have := FR_mem (by simpa using c4) hr; omega
  refine Ev.bind (parts_gen (z := y) h1 h2 (seedOf (n : Int)).1 (ER Z) (by have := ER_len Z; omega) (FR Z) (by have := FR_len Z; omega) hfm) ?_
  unfold PR
  rw [Int.toNat_natCast, Int.toNat_natCast]
  by_cases c6 : (solD n y (seedOf (n : Int)).1 (ER Z) (FR Z)).2 ≠ 0
  · rw [if_pos c6]; exact ev_pos c6 (Ev.now _)
  rw [if_neg c6]
  refine ev_neg c6 ?_
  obtain ⟨P, hP, hl, hr⟩ := solD_shape (Decidable.not_not.1 c6)
  rw [hP, byts_tll]
  refine Ev.bind (sources_ev h2) (Ev.bind ?_ (Ev.now _))
  have := drops_l0 (j := (seedOf (n : Int)).1.toNat) h1 h2 (by omega) (by omega) (by omega) P hl hr n 0 (by omega)
  unfold drops_Drops.f
  rw [src_len]
  rw [show (((seedOf (n : Int)).1.toNat : Nat) : Int) = (seedOf (n : Int)).1 from by omega] at this
  exact this
end
theorem zip_mem {es : List Int} {ds : List (List Int)} {x : S111} (h : x ∈ zipD es ds) : x.f0 ∈ es ∧ x.f1 ∈ ds := by
  unfold zipD at h
  obtain ⟨i, hi, rfl⟩ := List.getElem_of_mem h
  rw [List.length_zipWith] at hi
  rw [List.getElem_zipWith]
  exact ⟨List.getElem_mem _, List.getElem_mem _⟩
theorem zip_f0 : ∀ (es : List Int) (ds : List (List Int)), es.length ≤ ds.length → (zipD es ds).map (·.f0) = es
  | [], _, _ => rfl
  | e :: es, [], h => by simp at h
  | e :: es, d :: ds, h => congrArg (e :: ·) (zip_f0 es ds (by simpa using h))
theorem zip_bads {es : List Int} {ds : List (List Int)} (h : es.length ≤ ds.length) : es.any Cd.bad = bads (zipD es ds) := by
  unfold bads
  rw [← zip_f0 es ds h, List.any_map, zip_f0 es ds h]; rfl
def enR (K : Int) (es : List Int) : Bool := decide ((seedOf K).2 = 0) && (!es.any Cd.bad && rk K.toNat (seedOf K).1 es == kL K.toNat)
theorem seed_in {K : Int} (h : (seedOf K).2 = 0) : 1 ≤ K ∧ K ≤ 40 := by
  unfold seedOf at h
  split at h
  · cases h
  · omega
theorem denough_ev (K : Int) (es : List Int) (he : es.length ≤ 1000) : Ev (fun k => De.denough.f k K es) (enR K es) := by
  unfold De.denough.f enR
  by_cases c5 : (seedOf K).2 = 0
  · obtain ⟨g1, g2⟩ := seed_in c5
    obtain ⟨n, rfl⟩ : ∃ n : Nat, K = (n : Int) := ⟨K.toNat, by omega⟩
    have h1 : 1 ≤ n := by omega
    have h2 : n ≤ 40 := by omega
    refine ev_val (of_ok h1 h2) (Ev.bind (find_ev (n : Int)) (ev_neg (fun h => h c5) ?_))
    rw [decide_eq_true c5, Int.toNat_natCast]
    cases c3 : es.any Cd.bad with
    | true => exact ev_pos rfl (Ev.now _)
    | false =>
      refine ev_neg (by decide) (ev_val (l_ok h2) (Ev.bind (matrix_ev h1 h2 _ es (by omega)) (ev_val (prank_ev h2 _ es (by omega)) ?_)))
      have e : (((rk n (seedOf (n : Int)).1 es : Nat) : Int) == ((kL n : Nat) : Int)) = (rk n (seedOf (n : Int)).1 es == kL n) := by
        rw [Bool.eq_iff_iff, beq_iff_eq, beq_iff_eq]; omega
      rw [e]
      exact Ev.now _
  · rw [decide_eq_false c5]
    by_cases c1 : K < 1 ∨ 40 < K
    · exact ev_val (of_no c1) (Ev.bind (find_ev K) (ev_pos c5 (Ev.now _)))
    · obtain ⟨n, rfl⟩ : ∃ n : Nat, K = (n : Int) := ⟨K.toNat, by omega⟩
      exact ev_val (of_ok (by omega) (by omega)) (Ev.bind (find_ev _) (ev_pos c5 (Ev.now _)))
end Go.Proofs.Ytbfhinfblepidaa.Dq
