/- Proved: DecodeTwice answers true: of two symbols of one number the first counts. Conditions: the arguments' numbers are of their kinds, and there are fewer of them than memory holds. -/
import Derived.Test.YtbfhinfblepidaaDv
import Derived.Test.YtbfhinfblepidaaPDecodeTwicex
namespace Go.Proofs.Ytbfhinfblepidaa.Pure
open Go.RowKit Go.Proofs.Ytbfhinfblepidaa.PSolveTells Go.Proofs.Ytbfhinfblepidaa.PSeedTells Go.Proofs.Ytbfhinfblepidaa.PBlockTells Go.Proofs.Ytbfhinfblepidaa.PDecodeTells Go.Proofs.Ytbfhinfblepidaa.PDecodeTwice Go.Proofs.YtbfhinfblepidaaW.PrintWords Go.Proofs.YtbfhinfblepidaaW.PrintLast Go.Proofs.Ytbfhinfblepidaa.Rw Go.Proofs.Ytbfhinfblepidaa.Pc Go.Proofs.Ytbfhinfblepidaa.Sv Go.Proofs.Ytbfhinfblepidaa.FSolveTells Go.Proofs.Ytbfhinfblepidaa.FSeedTells Go.Proofs.Ytbfhinfblepidaa.Sl Go.Proofs.Ytbfhinfblepidaa.Sd Go.Proofs.Ytbfhinfblepidaa.Dm Go.Proofs.Ytbfhinfblepidaa.Db Go.Proofs.Ytbfhinfblepidaa.Dr Go.Proofs.Ytbfhinfblepidaa.Dq Go.Proofs.Ytbfhinfblepidaa.Dw
theorem range_rows (L : List (List F)) : (List.range L.length).map (fun e => tl (row L e)) = tll L := by
  unfold tll
  refine List.ext_getElem (by rw [List.length_map, List.length_range, List.length_map]) fun i h1 h2 => ?_
  rw [List.length_map, List.length_range] at h1
  rw [List.getElem_map, List.getElem_map, List.getElem_range]
  unfold row; rw [List.getD_eq_getElem?_getD, List.getElem?_eq_getElem h1]; rfl
theorem decR_source {z : Nat} {L : List (List F)} {Z : List S111} (hz1 : 1 ≤ z) (hz : z ≤ 64) (hE : ER Z = src L.length) (hF : FR Z = L) (hb : bads Z = false) (ho : odds (z : Int) Z = false) (hr : ∀ r ∈ L, r.length = z) (hs : (seedOf (L.length : Int)).2 = 0) :
    decR (L.length : Int) (z : Int) Z = (tll L, 0) := by
  obtain ⟨g1, g2⟩ := seed_in hs
  obtain ⟨s1, s2⟩ := seed_nat (L.length : Int)
  have hg := seed_good hs
  have ej : ((seedOf (L.length : Int)).1.toNat : Int) = (seedOf (L.length : Int)).1 := by omega
  rw [← ej] at hg
  obtain ⟨P, hP, hp⟩ := Dv.solB_good (z := z) (by omega) (by omega) hz1 hz (by omega) hg L rfl
  rw [ej] at hP
  unfold decR
  rw [if_neg (by rw [hb]; rintro (h | h); · omega
                 · cases h), ho, if_neg (by decide), if_neg (fun h => h hs)]
  unfold PR
  rw [hE, hF, Int.toNat_natCast, Int.toNat_natCast, hP, if_neg (by simp), byts_tll]
  refine congrArg (fun x => (x, (0 : Int))) ?_
  rw [← range_rows L]
  exact List.map_congr_left fun i hi => by rw [Dv.source (by omega) (by omega) (by omega) rfl hr hp i (List.mem_range.1 hi)]
theorem zip_at {es : List Int} {ds : List (List Int)} {i : Nat} (h : i < es.length) (h2 : es.length ≤ ds.length) : (rd_T111 (zipD es ds) (i : Int)).f0 = rd es (i : Int) := by rw [zip_rd h (by omega)]
theorem rd_src {n i : Nat} (h : i < n) : rd (src n) (i : Int) = (i : Int) := by
  unfold rd src; rw [Int.toNat_natCast, List.getD_eq_getElem?_getD, List.getElem?_map, List.getElem?_range h]; rfl
theorem firsts_src {n : Nat} {ds : List (List Int)} (h : n ≤ ds.length) : ∀ i, i ≤ n → firsts ((zipD (src n) ds).take i) = (zipD (src n) ds).take i := by
  have hl : (zipD (src n) ds).length = n := by rw [zip_len (by rw [src_len]; exact h), src_len]
  intro i
  induction i with
  | zero => intro _; rw [List.take_zero]; rfl
  | succ i ih =>
    intro hi
    rw [firsts_succ (by omega), ih (by omega), take_succ (by omega)]
    unfold pick
    rw [if_neg]
    unfold among
    rw [Bool.not_eq_true, List.any_eq_false]
    intro x hx
    obtain ⟨j, hj, rfl⟩ := List.getElem_of_mem hx
    rw [List.length_take] at hj
    have e : ((zipD (src n) ds).take i)[j].f0 = (j : Int) := by
      have := zip_at (es := src n) (ds := ds) (i := j) (by rw [src_len]; omega) (by rw [src_len]; exact h)
      rw [rd_src (by omega)] at this
      unfold rd_T111 at this
      rw [Int.toNat_natCast, List.getD_eq_getElem?_getD, List.getElem?_eq_getElem (by omega)] at this
      rw [List.getElem_take]; exact this
    rw [e, zip_at (by rw [src_len]; omega) (by rw [src_len]; exact h), rd_src (by omega)]
    simp only [beq_iff_eq]
    omega
theorem firsts_twice {n a : Nat} {ds : List (List Int)} {o : List Int} (h : ds.length = n) (ha : a < n) : firsts (zipD (src n ++ [(a : Int)]) (ds ++ [o])) = zipD (src n) ds := by
  have hz : zipD (src n ++ [(a : Int)]) (ds ++ [o]) = zipD (src n) ds ++ [⟨(a : Int), o⟩] := by
    unfold zipD
    rw [List.zipWith_append (by rw [src_len, h])]; rfl
  have hl : (zipD (src n) ds).length = n := by rw [zip_len (by rw [src_len, h]; omega), src_len]
  have h1 := firsts_src (n := n) (ds := ds) (by omega) n (Nat.le_refl _)
  rw [List.take_of_length_le (by omega)] at h1
  rw [hz]
  unfold firsts at h1 ⊢
  rw [List.foldl_append, h1]
  show pick _ _ = _
  unfold pick
  rw [if_pos]
  unfold among
  refine List.any_eq_true.2 ⟨rd_T111 (zipD (src n) ds) (a : Int), ?_, ?_⟩
  · unfold rd_T111; rw [Int.toNat_natCast, List.getD_eq_getElem?_getD, List.getElem?_eq_getElem (by omega)]; exact List.getElem_mem _
  · rw [zip_at (by rw [src_len]; omega) (by rw [src_len, h]; omega), rd_src ha]; exact beq_self_eq_true _
theorem dec_twice {z a : Nat} {L : List (List F)} {o : List F} (hz1 : 1 ≤ z) (hz : z ≤ 64) (ha : a < L.length) (hr : ∀ r ∈ L, r.length = z) (ho : o.length = z) (hs : (seedOf (L.length : Int)).2 = 0) :
    decR (L.length : Int) (z : Int) (zipD (src L.length ++ [(a : Int)]) (tll (L ++ [o]))) = (tll L, 0) := by
  obtain ⟨g1, g2⟩ := seed_in hs
  have et : tll (L ++ [o]) = tll L ++ [tl o] := (Dq.tl1 L o).symm
  have hf : firsts (zipD (src L.length ++ [(a : Int)]) (tll (L ++ [o]))) = zipD (src L.length) (tll L) := by rw [et]; exact firsts_twice (tll_length _) ha
  have hle : (src L.length ++ [(a : Int)]).length ≤ (tll (L ++ [o])).length := by rw [List.length_append, src_len, tll_length, List.length_append]; simp
  refine decR_source hz1 hz ?_ ?_ ?_ ?_ hr hs
  · unfold ER; rw [hf]; exact zip_f0 _ _ (by rw [src_len, tll_length]; omega)
  · unfold FR; rw [hf]
    have : (zipD (src L.length) (tll L)).map (fun x => byt x.f1) = byts ((zipD (src L.length) (tll L)).map (·.f1)) := by unfold byts; rw [List.map_map]; rfl
    rw [this]
    have h1 : ∀ (es : List Int) (ds : List (List Int)), ds.length ≤ es.length → (zipD es ds).map (·.f1) = ds := by
      intro es
      induction es with
      | nil => intro ds h; cases ds with
        | nil => rfl
        | cons _ _ => simp at h
      | cons e es ih => intro ds h; cases ds with
        | nil => rfl
        | cons d ds => exact congrArg (d :: ·) (ih ds (by simpa using h))
    rw [h1 _ _ (by rw [src_len, tll_length]; omega), byts_tll]
  · rw [← zip_bads hle, bad_ok]
    intro e he
    rcases List.mem_append.1 he with he | he
    · exact src_ok (by omega) e he
    · obtain rfl : e = (a : Int) := by simpa using he
      exact ⟨by omega, by omega⟩
  · unfold odds
    refine List.any_eq_false.2 fun x hx => ?_
    obtain ⟨r, hr1, e⟩ := List.mem_map.1 (zip_mem hx).2
    unfold Cd.odd
    have : r.length = z := by
      rcases List.mem_append.1 hr1 with h | h
      · exact hr r h
      · obtain rfl : r = o := by simpa using h
        exact ho
    rw [← e, tl_length, this]
    simp
theorem skip (L : List (List Int)) (a : Int) (o : List Int) : Ev (fun k => fountainlaw11_DecodeTwice.j0 k L a o true true) true := by
  refine Ev.step (fun k => by simp only [fountainlaw11_DecodeTwice.j0]; rfl) ?_
  exact ev_pos trivial (Ev.now _)
theorem loop {L : List (List F)} {o : List F} {a : Int} (h1 : 1 ≤ L.length) (h2 : L.length ≤ 8) (hs : ∀ r ∈ L, r.length ≤ 4000) (hz1 : 1 ≤ o.length) (hz : o.length ≤ 64) (ha : 0 ≤ a) (d : Nat) : ∀ i, i + d = L.length → (∀ r ∈ L.take i, r.length = o.length) →
    Ev (fun k => fountainlaw11_DecodeTwice.l0 k (tll L) a (tl o) (src i) (i : Int)) true := by
  induction d with
  | zero =>
    intro i hi hr
    obtain rfl : i = L.length := by omega
    rw [List.take_of_length_le (Nat.le_refl _)] at hr
    refine Ev.step (fun k => by simp only [fountainlaw11_DecodeTwice.l0]; rfl) ?_
    rw [tll_length, tl_length]
    refine ev_neg (by omega) (Ev.bind (seed_ev _) ?_)
    by_cases c5 : (seedOf (L.length : Int)).2 = 0
    · refine ev_pos c5 (ev_neg (by omega) (ev_pos (by rw [src_len]; omega) (ev_pos (by simp only [List.length_nil]; omega) (ev_val rfl (ev_pos (by rw [List.nil_append, tll_length]; omega) ?_)))))
      obtain ⟨b, rfl⟩ : ∃ b : Nat, a = (b : Int) := ⟨a.toNat, by omega⟩
      rw [tmod_nat, List.nil_append, Dq.tl1]
      have hm : b % L.length < L.length := Nat.mod_lt _ (by omega)
      have hle : (src L.length ++ [((b % L.length : Nat) : Int)]).length ≤ (L ++ [o]).length := by rw [List.length_append, src_len, List.length_append]; simp
      have hsz : (src L.length ++ [((b % L.length : Nat) : Int)]).length ≤ 1000 := by rw [List.length_append, src_len]; simp; omega
      refine Ev.bind (symbols_ev _ _ hsz (by rw [tll_length]; exact hle) (fun r hr' => by
        obtain ⟨q, hq, rfl⟩ := List.mem_map.1 hr'
        rw [tl_length]
        rcases List.mem_append.1 hq with h | h
        · have := hs q h; omega
        · obtain rfl : q = o := by simpa using h
          omega)) (ev_val (dblock_at _ _ _ _ hsz hle) ?_)
      rw [dec_twice hz1 hz hm hr rfl c5]
      exact ev_val rfl (ev_pos rfl (Ev.bind (from_ev _ (by rw [tll_length]; omega)) (Ev.bind (same_ev _ (by rw [tll_length]; omega)) (Ev.now _))))
    · exact ev_neg c5 (Ev.now _)
  | succ d ih =>
    intro i hi hr
    refine Ev.step (fun k => by simp only [fountainlaw11_DecodeTwice.l0]; rfl) ?_
    refine ev_pos (by rw [tll_length]; omega) (ev_pos (by omega) ?_)
    rw [Dq.L1_tll, tl_length, tl_length]
    by_cases c : ((row L i).length : Int) = (o.length : Int)
    · refine ev_pos c (ev_pos (by rw [src_len]; omega) ?_)
      rw [src_succ, w64 (i := (i : Int) + 1) (by omega) (by omega), show (i : Int) + 1 = ((i + 1 : Nat) : Int) from by omega]
      refine ih (i + 1) (by omega) fun r hr' => ?_
      rw [List.take_succ_eq_append_getElem (by omega)] at hr'
      rcases List.mem_append.1 hr' with h | h
      · exact hr r h
      · obtain rfl : r = L[i] := by simpa using h
        unfold row at c
        rw [List.getD_eq_getElem?_getD, List.getElem?_eq_getElem (by omega)] at c
        simp only [Option.getD_some] at c
        omega
    · exact ev_neg c (Ev.now _)
theorem DecodeTwice (L : List (List Int)) (hL : L.length < 2 ^ 48 ∧ ∀ r ∈ L, r.length < 2 ^ 48 ∧ ∀ x ∈ r, 0 ≤ x ∧ x ≤ 255) (a : Int) (_ : -2 ^ 63 ≤ a ∧ a < 2 ^ 63) (o : List Int) (hO : o.length < 2 ^ 48 ∧ ∀ x ∈ o, 0 ≤ x ∧ x ≤ 255) :
    Ev (fun k => fountainlaw11_DecodeTwice.f k L a o) true := by
  obtain ⟨M, rfl⟩ := tll_of L fun r hr => (hL.2 r hr).2
  obtain ⟨o, rfl⟩ := tl_of o hO.2
  have m1 : M.length < 2 ^ 50 := by have := hL.1; rw [tll_length] at this; omega
  have m2 : ∀ r ∈ M, r.length < 2 ^ 50 := fun r hr => by
    have := (hL.2 (tl r) (List.mem_map.2 ⟨r, hr, rfl⟩)).1
    rw [tl_length] at this; omega
  unfold fountainlaw11_DecodeTwice.f
  refine ev_val rfl (ev_pos rfl ?_)
  by_cases c1 : ((tll M).length : Int) < 1
  · exact ev_pos c1 (skip _ _ _)
  refine ev_neg c1 ?_
  by_cases c2 : ((tll M).length : Int) > 8
  · exact ev_pos c2 (skip _ _ _)
  refine ev_neg c2 ?_
  rw [tll_length] at c1 c2
  obtain ⟨t, e, ht⟩ := few_ev M m1 m2
  refine Ev.bind e ?_
  cases t with
  | false => exact ev_neg (by decide) (skip _ _ _)
  | true =>
    have e0 : rd_L1 (tll M) 0 = tl (row M 0) := Dq.L1_tll M 0
    refine ev_pos rfl (ev_pos (by rw [tll_length]; omega) ?_)
    rw [e0, tl_length]
    by_cases c3 : ((row M 0).length : Int) < 1
    · exact ev_pos c3 (skip _ _ _)
    refine ev_neg c3 ?_
    by_cases c4 : ((row M 0).length : Int) > 64
    · exact ev_pos c4 (skip _ _ _)
    refine ev_neg c4 ?_
    by_cases c5 : ((tl o).length : Int) = ((row M 0).length : Int)
    · refine ev_pos c5 ?_
      rw [tl_length] at c5
      by_cases c6 : a < 0
      · rw [decide_eq_true c6]; exact skip _ _ _
      rw [decide_eq_false c6]
      refine Ev.step (fun k => by simp only [fountainlaw11_DecodeTwice.j0]; rfl) ?_
      exact ev_neg (by decide) (loop (by omega) (by omega) (ht rfl).2 (by omega) (by omega) (by omega) M.length 0 (by omega) (fun r hr => by rw [List.take_zero] at hr; cases hr))
    · exact ev_neg c5 (skip _ _ _)
end Go.Proofs.Ytbfhinfblepidaa.Pure
