/- Proved: BlockSums answers true: the symbol of summed sources is the sum of their symbols. Conditions: the arguments' numbers are of their kinds, and there are fewer of them than memory holds. -/
import Derived.Test.YtbfhinfblepidaaBq
import Derived.Test.YtbfhinfblepidaaBm
namespace Go.Proofs.Ytbfhinfblepidaa.Pure
open Go.RowKit Go.Proofs.Ytbfhinfblepidaa.PSolveTells Go.Proofs.Ytbfhinfblepidaa.PSeedTells Go.Proofs.Ytbfhinfblepidaa.PBlockTells Go.Proofs.YtbfhinfblepidaaW.PrintWords Go.Proofs.YtbfhinfblepidaaW.PrintLast Go.Proofs.Ytbfhinfblepidaa.Mt Go.Proofs.Ytbfhinfblepidaa.Rw Go.Proofs.Ytbfhinfblepidaa.Pc Go.Proofs.Ytbfhinfblepidaa.Sv Go.Proofs.Ytbfhinfblepidaa.FSolveTells Go.Proofs.Ytbfhinfblepidaa.FSeedTells Go.Proofs.Ytbfhinfblepidaa.Sl Go.Proofs.Ytbfhinfblepidaa.Sd Go.Proofs.Ytbfhinfblepidaa.Bs Go.Proofs.Ytbfhinfblepidaa.Bn Go.Proofs.Ytbfhinfblepidaa.Bp Go.Proofs.Ytbfhinfblepidaa.Bq Go.Proofs.Ytbfhinfblepidaa.Bm

/-! ### the example -/
def P0 : List (List F) := [[97, 98], [120, 50], [202, 87], [25, 80], [171, 53]]
theorem solB_ex : solB 1 2 0 [[97, 98]] = (tll P0, 0) := by decide +kernel
theorem sym_ex : symR 1 0 2 P0 0 = ([97, 98], 0) := by decide +kernel
theorem rk1 : rk 1 0 (src 1) = kL 1 := by decide +kernel
theorem find_hit {k d j : Nat} (h : rk k (j : Int) (src k) = kL k) : find k (d + 1) j = ((j : Int), 0) := by unfold find; rw [if_pos h]
theorem seed1 : seedOf 1 = (0, 0) := by
  unfold seedOf
  rw [if_neg (by omega)]
  exact find_hit (k := 1) (d := 255) (j := 0) rk1
theorem block_none : blockR 1 [] = (none, 1) := by unfold blockR; rw [if_pos (by simp)]
theorem block_ex : blockR 2 [[97, 98]] = (some (1, 0, tll P0), 0) := by
  unfold blockR
  rw [if_neg (by decide), if_neg (by decide)]
  have hs : seedOf ((([([97, 98] : List F)] : List (List F)).length : Nat) : Int) = (0, 0) := seed1
  rw [hs, if_neg (by decide)]
  have hb : solB ([([97, 98] : List F)] : List (List F)).length (2 : Int).toNat ((0, 0) : Int × Int).1 [[97, 98]] = (tll P0, 0) := solB_ex
  rw [hb, if_neg (by decide)]
  rfl
theorem live_ev : ∃ k0, ∀ k, k0 ≤ k → Live k := by
  obtain ⟨a, ha⟩ := (new_ev 1 [] (by simp) (by simp)).1
  obtain ⟨b, hb⟩ := (new_ev 2 [[97, 98]] (by simp) (by simp)).1
  obtain ⟨c, hc⟩ := (sym_ev (n := 1) (j := 0) (z := 2) (by decide) (by decide) (by decide) (by decide) (by decide) P0 (by decide) 0).1
  rw [block_none] at ha
  rw [block_ex] at hb
  rw [sym_ex] at hc
  exact ⟨a + b + c, fun k hk => ⟨0, tll P0, ha k (by omega), hb k (by omega), hc k (by omega)⟩⟩

set_option linter.unusedVariables false
theorem upto {p : Nat → Nat → Prop} (n : Nat) (h : ∀ i, i < n → ∃ k0, ∀ k, k0 ≤ k → p i k) : ∃ k0, ∀ k, k0 ≤ k → ∀ i, i < n → p i k := by
  induction n with
  | zero => exact ⟨0, fun k _ i hi => absurd hi (Nat.not_lt_zero _)⟩
  | succ n ih =>
    obtain ⟨a, ha⟩ := ih (fun i hi => h i (by omega))
    obtain ⟨b, hb⟩ := h n (by omega)
    exact ⟨a + b, fun k hk i hi => by
      by_cases e : i = n
      · subst e; exact hb k (by omega)
      · exact ha k (by omega) i (by omega)⟩
theorem ro_row (M : List (List F)) (i : Nat) : Mt.ro (tll M) i = tl (row M i) := ro_tll M i
theorem even {z : Nat} {M : List (List F)} (hr : ∀ r ∈ M, r.length = z) : ¬ (tll M).any (odd (z : Int)) = true := fun ha => by
  obtain ⟨x, hx, ho⟩ := List.any_eq_true.1 ha
  obtain ⟨r, hr', rfl⟩ := List.mem_map.1 hx
  have := of_decide_eq_true ho
  rw [tl_length, hr r hr'] at this
  exact this rfl
theorem block_no {n z : Nat} {M : List (List F)} (hn : M.length = n) (h1 : 1 ≤ n) (h2 : n ≤ 40) (hz1 : 1 ≤ z) (hz : z ≤ 64) (hr : ∀ r ∈ M, r.length = z) (e : find n 256 0 = (0, 5)) : blockR (z : Int) M = (none, 5) := by
  have hs : seedOf (n : Int) = find n 256 0 := by unfold seedOf; rw [if_neg (by omega), Int.toNat_natCast]
  unfold blockR
  rw [hn, if_neg (by omega), if_neg (even hr), hs, e, if_pos (by decide)]
theorem block_of {n z j : Nat} {M : List (List F)} (hn : M.length = n) (h1 : 1 ≤ n) (h2 : n ≤ 40) (hz1 : 1 ≤ z) (hz : z ≤ 64) (hr : ∀ r ∈ M, r.length = z) (hj : j ≤ 255) (e : find n 256 0 = ((j : Int), 0)) (hg : rk n (j : Int) (src n) = kL n) :
    ∃ P, blockR (z : Int) M = (some (n, j, tll P), 0) ∧ Parts n z j M P := by
  have hs : seedOf (n : Int) = find n 256 0 := by unfold seedOf; rw [if_neg (by omega), Int.toNat_natCast]
  obtain ⟨P, hP, hp⟩ := solB_good h1 h2 hz1 hz hj hg M hn
  refine ⟨P, ?_, hp⟩
  unfold blockR
  rw [hn, if_neg (by omega), if_neg (even hr), hs, e, if_neg (by simp)]
  simp only
  rw [Int.toNat_natCast, hP, if_neg (by simp), Int.toNat_natCast]
/-- The sums of two sources' rows. -/
def sums (z : Nat) (M D : List (List F)) : List (List F) := (List.range M.length).map fun i => sumR z [row M i, row D i]
theorem sums_length (z : Nat) (M D : List (List F)) : (sums z M D).length = M.length := by unfold sums; rw [List.length_map, List.length_range]
theorem sums_row {z : Nat} {M D : List (List F)} {i : Nat} (h : i < M.length) : row (sums z M D) i = sumR z [row M i, row D i] := by
  unfold sums row; rw [List.getD_eq_getElem?_getD, List.getElem?_map, List.getElem?_range h]; rfl
theorem sums_mem {z : Nat} {M D : List (List F)} {r : List F} (h : r ∈ sums z M D) : r.length = z := by
  obtain ⟨i, _, rfl⟩ := List.mem_map.1 h
  exact sumR_length _ _
theorem el_sum2 {z : Nat} {u v : List F} (hu : u.length = z) (hv : v.length = z) (t : Nat) : el (sumR z [u, v]) t = el u t ^^^ el v t := by
  subst hu; rw [sumR_two, el_add (by rw [hv])]
theorem xs_add (f g : Nat → F) : ∀ ps : List Nat, xs (fun x => f x ^^^ g x) ps = xs f ps ^^^ xs g ps := by
  intro ps
  induction ps with
  | nil => exact (fx_self 0).symm
  | cons x ps ih =>
    show (f x ^^^ g x) ^^^ xs (fun x => f x ^^^ g x) ps = (f x ^^^ xs f ps) ^^^ (g x ^^^ xs g ps)
    rw [ih, fx_assoc, fx_assoc]
    congr 1
    rw [← fx_assoc, fx_comm (g x), fx_assoc]
theorem xs_congr {f g : Nat → F} : ∀ {ps : List Nat}, (∀ x ∈ ps, f x = g x) → xs f ps = xs g ps := by
  intro ps
  induction ps with
  | nil => intro _; rfl
  | cons x ps ih =>
    intro h
    show f x ^^^ xs f ps = g x ^^^ xs g ps
    rw [h x List.mem_cons_self, ih (fun y hy => h y (List.mem_cons_of_mem _ hy))]
theorem data_sum {z s : Nat} {M D : List (List F)} (hM : ∀ r ∈ M, r.length = z) (hD : ∀ r ∈ D, r.length = z) (hl : D.length = M.length) (i : Nat) (hi : i < s + M.length) (t : Nat) :
    el (fitR z (row (List.replicate s [] ++ sums z M D) i)) t = el (fitR z (row (List.replicate s [] ++ M) i)) t ^^^ el (fitR z (row (List.replicate s [] ++ D) i)) t := by
  have left : ∀ X : List (List F), i < s → row (List.replicate s [] ++ X) i = [] := fun X h => by
    unfold row; rw [List.getD_eq_getElem?_getD, List.getElem?_append_left (by rw [List.length_replicate]; exact h), List.getElem?_replicate, if_pos h]; rfl
  by_cases c : i < s
  · rw [left _ c, left _ c, left _ c, fit_zero, el_zeros, fx_self]
  · obtain ⟨q, rfl⟩ : ∃ q, i = s + q := ⟨i - s, by omega⟩
    have right : ∀ X : List (List F), row (List.replicate s ([] : List F) ++ X) (s + q) = row X q := fun X => by
      have := row_app_right (List.replicate s ([] : List F)) X q
      rwa [List.length_replicate] at this
    have hu := hM _ (row_mem (show q < M.length by omega))
    have hv := hD _ (row_mem (show q < D.length by omega))
    rw [right, right, right, sums_row (by omega), fit_id _ _ (sumR_length _ _), fit_id _ _ hu, fit_id _ _ hv, el_sum2 hu hv]
theorem drop_sum {n z j : Nat} (h2 : n ≤ 40) (hj : j ≤ 255) {M D P1 P2 P3 : List (List F)} (hM : ∀ r ∈ M, r.length = z) (hD : ∀ r ∈ D, r.length = z) (hn : M.length = n) (hl : D.length = n) (p1 : Parts n z j M P1) (p2 : Parts n z j D P2) (p3 : Parts n z j (sums z M D) P3) (e : Nat) :
    dropR z P3 (parts n j e) = sumR z [dropR z P1 (parts n j e), dropR z P2 (parts n j e)] := by
  have hlt := parts_lt n j e
  have hrow : ∀ {L P : List (List F)}, Parts n z j L P → ∀ x ∈ parts n j e, (row P x).length = z := fun h x hx => h.row _ (row_mem (by rw [h.len]; exact hlt x hx))
  have hmF : (matF n (j : Int) (src n)).length = kL n := by rw [matF_len]; exact mat_length h2 hj
  have hlen : ∀ X : List (List F), X.length = n → (matF n (j : Int) (src n)).length = (List.replicate (kS n + 2) ([] : List F) ++ X).length := fun X hX => by rw [hmF, List.length_append, List.length_replicate, hX]; unfold kL kW; omega
  have hY : ∀ k, k < kL n → row ((List.range (kL n)).map fun k => addTo (row P1 k) (row P2 k)) k = addTo (row P1 k) (row P2 k) := fun k hk => by
    unfold row; rw [List.getD_eq_getElem?_getD, List.getElem?_map, List.getElem?_range hk]; rfl
  have hu := unique p3 (Y := (List.range (kL n)).map fun k => addTo (row P1 k) (row P2 k)) (fun r hr t ht => by
    obtain ⟨i, hi, rfl⟩ := of_mem hr
    have h3 := hlen (sums z M D) (by rw [sums_length]; exact hn)
    have h1' := hlen M hn
    have h2' := hlen D hl
    rw [comb_len _ _ _ _ h3, hmF] at hi
    have hi' : i < (matF n (j : Int) (src n)).length := by omega
    have s1 := p1.sat _ (row_mem (show i < (comb (kL n) z (matF n (j : Int) (src n)) (List.replicate (kS n + 2) [] ++ M)).length from by rw [comb_len _ _ _ _ h1']; exact hi')) t ht
    have s2 := p2.sat _ (row_mem (show i < (comb (kL n) z (matF n (j : Int) (src n)) (List.replicate (kS n + 2) [] ++ D)).length from by rw [comb_len _ _ _ _ h2']; exact hi')) t ht
    rw [comb_row _ _ _ _ _ hi' h1'] at s1
    rw [comb_row _ _ _ _ _ hi' h2'] at s2
    rw [comb_row _ _ _ _ _ hi' h3]
    have hf : (fitR (kL n) (row (matF n (j : Int) (src n)) i)).length = kL n := fitR_length _ _
    have er : ∀ X : List F, el (fitR (kL n) (row (matF n (j : Int) (src n)) i) ++ X) (kL n + t) = el X t := fun X => by
      have := el_right (fitR (kL n) (row (matF n (j : Int) (src n)) i)) X t
      rwa [hf] at this
    rw [er] at s1 s2 ⊢
    rw [data_sum hM hD (by omega) i (by rw [hn]; have : kL n = kS n + 2 + n := (by unfold kL kW; omega); omega) t, ← s1, ← s2, ← sm_add]
    refine sm_congr _ fun k hk => ?_
    rw [el_left (by rw [hf]; exact hk), el_left (by rw [hf]; exact hk), el_left (by rw [hf]; exact hk), hY k hk, el_add (by rw [p1.row _ (row_mem (by rw [p1.len]; exact hk)), p2.row _ (row_mem (by rw [p2.len]; exact hk))]), fm_fx])
  refine ext_el (by rw [dropR_length, sumR_length]) fun t ht => ?_
  rw [dropR_length] at ht
  rw [el_sum2 (dropR_length _ _ _) (dropR_length _ _ _), el_drop' z t P3 _ (hrow p3), el_drop' z t P1 _ (hrow p1), el_drop' z t P2 _ (hrow p2), ← xs_add]
  refine xs_congr fun x hx => ?_
  rw [hu x (hlt x hx) t ht, hY x (hlt x hx), el_add (by rw [hrow p1 x hx, hrow p2 x hx])]
theorem sum_pair (z : Nat) (hz : z ≤ 64) (u v : List F) : Ev (fun k => fountainref1_Sum.f k (z : Int) [tl u, tl v]) (tl (sumR z [u, v])) := by
  have h := rsum_ev (z : Int) [u, v] (by simp)
  rw [show cutN (z : Int) = z from by unfold cutN; omega] at h
  exact h
theorem main (M D : List (List F)) (z : Nat) (hl : D.length = M.length) (h1 : 1 ≤ M.length) (h2 : M.length ≤ 10) (hz1 : 1 ≤ z) (hz2 : z ≤ 64) (hs : ∀ r ∈ M, r.length < 2 ^ 40) (e : Nat) (he : e < 16777216) : ∃ k0, ∀ k, k0 ≤ k → Bm.Main k z (tll M) (tll D) (e : Int) := by
  obtain ⟨a, ha⟩ := upto (p := fun i k => fountainref1_Sum.f k (z : Int) [Mt.ro (tll M) i, Mt.ro (tll D) i] = some (Mt.ro (tll (sums z M D)) i)) M.length (fun i hi => by
    obtain ⟨c, hc⟩ := sum_pair z hz2 (row M i) (row D i)
    exact ⟨c, fun k hk => by rw [ro_row, ro_row, ro_row, sums_row hi]; exact hc k hk⟩)
  by_cases ho : ∃ i, i < M.length ∧ ((row M i).length ≠ z ∨ (row D i).length ≠ z)
  · obtain ⟨i, hi, ho⟩ := ho
    exact ⟨a, fun k hk => ⟨tll (sums z M D), by rw [tll_length, tll_length, sums_length], fun i hi => ha k hk i (by rwa [tll_length] at hi), .inl ⟨i, by rw [tll_length]; exact hi, by rw [ro_row, ro_row, tl_length, tl_length]; exact ho⟩⟩⟩
  have hM : ∀ r ∈ M, r.length = z := fun r hr => by
    obtain ⟨i, hi, rfl⟩ := of_mem hr
    exact Classical.byContradiction fun k => ho ⟨i, hi, .inl k⟩
  have hD : ∀ r ∈ D, r.length = z := fun r hr => by
    obtain ⟨i, hi, rfl⟩ := of_mem hr
    exact Classical.byContradiction fun k => ho ⟨i, by omega, .inr k⟩
  have hS : ∀ r ∈ sums z M D, r.length = z := fun r hr => sums_mem hr
  have b40 : ∀ X : List (List F), (∀ r ∈ X, r.length = z) → ∀ r ∈ X, r.length < 2 ^ 40 := fun X h r hr => by rw [h r hr]; omega
  have b50 : ∀ X : List (List F), (∀ r ∈ X, r.length = z) → ∀ r ∈ X, r.length < 2 ^ 50 := fun X h r hr => by rw [h r hr]; omega
  have lS : (sums z M D).length = M.length := sums_length _ _ _
  obtain ⟨b1, t1⟩ := to_ev M (by omega) (b40 _ hM)
  obtain ⟨b2, t2⟩ := to_ev D (by omega) (b40 _ hD)
  obtain ⟨b3, t3⟩ := to_ev (sums z M D) (by omega) (b40 _ hS)
  obtain ⟨c1, n1⟩ := (new_ev (z : Int) M (by omega) (b40 _ hM)).1
  obtain ⟨c2, n2⟩ := (new_ev (z : Int) D (by omega) (b40 _ hD)).1
  obtain ⟨c3, n3⟩ := (new_ev (z : Int) (sums z M D) (by omega) (b40 _ hS)).1
  have fin : ∀ k0, (∀ k, k0 ≤ k → Bm.ToldM k z (tll M) (tll D) (tll (sums z M D)) (e : Int)) → ∃ k0, ∀ k, k0 ≤ k → Bm.Main k z (tll M) (tll D) (e : Int) := fun k0 h =>
    ⟨a + b1 + b2 + b3 + k0, fun k hk => ⟨tll (sums z M D), by rw [tll_length, tll_length, sums_length], fun i hi => ha k (by omega) i (by rwa [tll_length] at hi), .inr ⟨t1 k (by omega), t2 k (by omega), t3 k (by omega), h k (by omega)⟩⟩⟩
  rcases find_says M.length 256 0 with ef | ⟨j, g1, g2, ef, hg, _⟩
  · rw [block_no rfl h1 (by omega) hz1 hz2 hM ef] at n1
    rw [block_no hl h1 (by omega) hz1 hz2 hD ef] at n2
    rw [block_no lS h1 (by omega) hz1 hz2 hS ef] at n3
    exact fin (c1 + c2 + c3) fun k hk => .inl ⟨n1 k (by omega), n2 k (by omega), n3 k (by omega)⟩
  · have hj : j ≤ 255 := by omega
    obtain ⟨P1, e1, p1⟩ := block_of (j := j) rfl h1 (by omega) hz1 hz2 hM hj ef hg
    obtain ⟨P2, e2, p2⟩ := block_of (j := j) hl h1 (by omega) hz1 hz2 hD hj ef hg
    obtain ⟨P3, e3, p3⟩ := block_of (j := j) lS h1 (by omega) hz1 hz2 hS hj ef hg
    rw [e1] at n1
    rw [e2] at n2
    rw [e3] at n3
    have sy : ∀ {L P : List (List F)}, Parts M.length z j L P → Ev (fun k => sym.f k (M.length : Int) ((kS M.length : Nat) : Int) 2 (j : Int) (z : Int) (tll P) (e : Int)) (tl (dropR z P (parts M.length j e)), 0) := fun {L P} hp => by
      have h := (sym_ev h1 (by omega) hj hz1 hz2 P (b50 _ hp.row) (e : Int)).1
      have hv : symR M.length j z P (e : Int) = (tl (dropR z P (parts M.length j e)), 0) := by unfold symR; rw [if_neg (by omega), if_pos hp.len, Int.toNat_natCast]
      rw [hv] at h; exact h
    obtain ⟨d1, y1⟩ := sy p1
    obtain ⟨d2, y2⟩ := sy p2
    obtain ⟨d3, y3⟩ := sy p3
    obtain ⟨d4, y4⟩ := sum_pair z hz2 (dropR z P1 (parts M.length j e)) (dropR z P2 (parts M.length j e))
    have hq := drop_sum (by omega) hj hM hD rfl hl p1 p2 p3 e
    rw [← hq] at y4
    exact fin (c1 + c2 + c3 + d1 + d2 + d3 + d4) fun k hk => .inr ⟨_, _, _, _, _, _, _, _, _, _, n1 k (by omega), n2 k (by omega), n3 k (by omega), y1 k (by omega), y2 k (by omega), y3 k (by omega), by rw [tl_length, dropR_length], y4 k (by omega)⟩
theorem BlockSums (L : List (List Int)) (hL : L.length < 2 ^ 48 ∧ ∀ r ∈ L, r.length < 2 ^ 48 ∧ ∀ x ∈ r, 0 ≤ x ∧ x ≤ 255) (C : List (List Int)) (hC : C.length < 2 ^ 48 ∧ ∀ r ∈ C, r.length < 2 ^ 48 ∧ ∀ x ∈ r, 0 ≤ x ∧ x ≤ 255) (esi : Int) (_ : -2 ^ 63 ≤ esi ∧ esi < 2 ^ 63) :
    Ev (fun k => fountainlaw10_BlockSums.f k L C esi) true := by
  obtain ⟨M, rfl⟩ := tll_of L fun r hr => (hL.2 r hr).2
  obtain ⟨D, rfl⟩ := tll_of C fun r hr => (hC.2 r hr).2
  have m1 : M.length < 2 ^ 50 := by have := hL.1; rw [tll_length] at this; omega
  have m2 : ∀ r ∈ M, r.length < 2 ^ 50 := fun r hr => by
    have := (hL.2 (tl r) (List.mem_map.2 ⟨r, hr, rfl⟩)).1
    rw [tl_length] at this; omega
  obtain ⟨a, ha⟩ := live_ev
  have fin : ∀ k0, (∀ k, k0 ≤ k → Bm.Hyp k (tll M) (tll D) esi) → Ev (fun k => fountainlaw10_BlockSums.f k (tll M) (tll D) esi) true := fun k0 h => ⟨k0, fun k hk => by
    show fountainlaw10_BlockSums.f k (tll M) (tll D) esi = some true
    unfold fountainlaw10_BlockSums.f; exact if_pos (h k hk)⟩
  by_cases c1 : (M.length : Int) < 1
  · exact fin a fun k hk => ⟨ha k hk, .inl (by rw [tll_length]; exact c1)⟩
  by_cases c2 : 10 < (M.length : Int)
  · exact fin a fun k hk => ⟨ha k hk, .inr (.inl (by rw [tll_length]; exact c2))⟩
  by_cases c3 : D.length ≠ M.length
  · exact fin a fun k hk => ⟨ha k hk, .inr (.inr (.inl (by rw [tll_length, tll_length]; exact c3)))⟩
  obtain ⟨t, ⟨b, hb⟩, ht⟩ := few_ev M m1 m2
  cases t with
  | false => exact fin (a + b) fun k hk => ⟨ha k (by omega), .inr (.inr (.inr (.inl (hb k (by omega)))))⟩
  | true =>
    obtain ⟨_, g2⟩ := ht rfl
    have hs : ∀ r ∈ M, r.length < 2 ^ 40 := fun r hr => by have := g2 r hr; omega
    have e0 : (Mt.ro (tll M) 0).length = (row M 0).length := by rw [ro_row, tl_length]
    have go : ∀ k0, (∀ k, k0 ≤ k → ((row M 0).length : Int) < 1 ∨ 64 < ((row M 0).length : Int) ∨ esi < 0 ∨ 16777216 ≤ esi ∨ Bm.Main k (row M 0).length (tll M) (tll D) esi) → Ev (fun k => fountainlaw10_BlockSums.f k (tll M) (tll D) esi) true := fun k0 h =>
      fin (a + b + k0) fun k hk => ⟨ha k (by omega), .inr (.inr (.inr (.inr ⟨hb k (by omega), by rw [e0]; exact h k (by omega)⟩)))⟩
    by_cases c4 : ((row M 0).length : Int) < 1
    · exact go 0 fun k _ => .inl c4
    by_cases c5 : 64 < ((row M 0).length : Int)
    · exact go 0 fun k _ => .inr (.inl c5)
    by_cases c6 : esi < 0
    · exact go 0 fun k _ => .inr (.inr (.inl c6))
    by_cases c7 : 16777216 ≤ esi
    · exact go 0 fun k _ => .inr (.inr (.inr (.inl c7)))
    obtain ⟨e, rfl⟩ : ∃ e : Nat, esi = (e : Int) := ⟨esi.toNat, by omega⟩
    obtain ⟨d, hd⟩ := main M D (row M 0).length (by omega) (by omega) (by omega) (by omega) (by omega) hs e (by omega)
    exact go d fun k hk => .inr (.inr (.inr (.inr (hd k hk))))
end Go.Proofs.Ytbfhinfblepidaa.Pure
