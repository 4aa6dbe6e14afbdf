/- What the laws of chapter 11 ask further: the symbols that they make, and whether numbers are enough, as the document says it. Conditions: those that stand in the theorems. -/
import Derived.Test.YtbfhinfblepidaaDq
import Derived.Test.YtbfhinfblepidaaPDecodeTellsx10
import Derived.Test.YtbfhinfblepidaaPDecodeTellsx18
namespace Go.Proofs.Ytbfhinfblepidaa.Dw
open Go.RowKit Go.Proofs.Ytbfhinfblepidaa.PSolveTells Go.Proofs.Ytbfhinfblepidaa.PSeedTells Go.Proofs.Ytbfhinfblepidaa.PBlockTells Go.Proofs.Ytbfhinfblepidaa.PDecodeTells Go.Proofs.YtbfhinfblepidaaW.PrintWords Go.Proofs.YtbfhinfblepidaaW.PrintLast Go.Proofs.Ytbfhinfblepidaa.Gf Go.Proofs.Ytbfhinfblepidaa.Rw Go.Proofs.Ytbfhinfblepidaa.Pc Go.Proofs.Ytbfhinfblepidaa.FSolveTells Go.Proofs.Ytbfhinfblepidaa.FSeedTells Go.Proofs.Ytbfhinfblepidaa.Sl Go.Proofs.Ytbfhinfblepidaa.Sd Go.Proofs.Ytbfhinfblepidaa.Dm Go.Proofs.Ytbfhinfblepidaa.Db Go.Proofs.Ytbfhinfblepidaa.Dr Go.Proofs.Ytbfhinfblepidaa.Dq
set_option linter.unusedVariables false
theorem rd_L1_at {L : List (List Int)} {i : Nat} (h : i < L.length) : rd_L1 L (i : Int) = Mt.ro L i := by unfold rd_L1 Mt.ro; rw [Int.toNat_natCast]
theorem symbols_l0 (es : List Int) (ds : List (List Int)) (he : es.length ≤ 1000) (hl : es.length ≤ ds.length) (hs : ∀ r ∈ ds, r.length < 2 ^ 40) (d : Nat) : ∀ i, i + d = es.length → Ev (fun k => fountainlaw11_drops.l0 k es ds ((zipD es ds).take i) (i : Int)) (zipD es ds) := by
  have hz := zip_len hl
  induction d with
  | zero =>
    intro i hi
    refine Ev.step (fun k => by simp only [fountainlaw11_drops.l0]; rfl) ?_
    rw [List.take_of_length_le (by omega)]
    exact ev_neg (by omega) (Ev.now _)
  | succ d ih =>
    intro i hi
    refine Ev.step (fun k => by simp only [fountainlaw11_drops.l0]; rfl) ?_
    have hm : Mt.ro ds i ∈ ds := by unfold Mt.ro; rw [List.getD_eq_getElem?_getD, List.getElem?_eq_getElem (by omega)]; exact List.getElem_mem _
    refine ev_pos (by omega) (ev_pos (by omega) (ev_pos (by omega) (ev_pos ?_ (ev_pos (by rw [List.length_take]; omega) ?_))))
    · rw [rd_L1_at (by omega)]; have := hs _ hm; simp only [List.length_nil]; omega
    · rw [rd_L1_at (by omega), List.nil_append, w64 (i := (i : Int) + 1) (by omega) (by omega), show (i : Int) + 1 = ((i + 1 : Nat) : Int) from by omega, ← zip_rd (by omega) (by omega), ← take_succ (by omega)]
      exact ih (i + 1) (by omega)
theorem symbols_ev (es : List Int) (ds : List (List Int)) (he : es.length ≤ 1000) (hl : es.length ≤ ds.length) (hs : ∀ r ∈ ds, r.length < 2 ^ 40) : Ev (fun k => fountainlaw11_drops.f k es ds) (zipD es ds) := by
  have := symbols_l0 es ds he hl hs es.length 0 (by omega)
  unfold fountainlaw11_drops.f
  exact this
theorem bad_ok {es : List Int} : es.any Cd.bad = false ↔ ∀ e ∈ es, okE e := by
  rw [List.any_eq_false]
  constructor
  · intro h e he
    have := h e he
    unfold Cd.bad at this
    simp only [Bool.or_eq_true, decide_eq_true_eq] at this
    exact ⟨by omega, by omega⟩
  · intro h e he
    obtain ⟨h1, h2⟩ := h e he
    unfold Cd.bad
    simp only [Bool.or_eq_true, decide_eq_true_eq]
    omega
theorem dblock_at (K z : Int) (es : List Int) (L : List (List F)) (he : es.length ≤ 1000) (hl : es.length ≤ L.length) : Pd.dblock.f K z (zipD es (tll L)) = some (decR K z (zipD es (tll L))) :=
  Pz.ev_of (dblock_ev K z _ (by rw [zip_len (by rw [tll_length]; exact hl)]; exact he) (fun x hx => by
    obtain ⟨r, _, e⟩ := List.mem_map.1 (zip_mem hx).2
    rw [← e]; exact tl_byte r))
theorem denough_at (K : Int) (es : List Int) (he : es.length ≤ 1000) : Pd.denough.f K es = some (enR K es) := Pz.ev_of (denough_ev K es he)
theorem ties_len {n : Nat} : (ties n).length = kS n + 2 := by
  unfold ties lowRows highRows
  rw [List.length_append, List.length_map, List.length_range, List.length_map, List.length_range]
theorem mat_size {n : Nat} {j : Int} {es : List Int} (hj : 0 ≤ j ∧ j ≤ 255) (h : ∀ e ∈ es, okE e) : (matOf n j es).length = kS n + 2 + es.length := by
  unfold matOf esiRows
  rw [if_pos ⟨hj, h⟩, List.length_append, List.length_map, ties_len]
theorem rk_eq {n : Nat} (h2 : n ≤ 40) (j : Int) (es : List Int) : rk n j es = Sv.rank (kL n) (matF n j es) := by
  unfold rk rankR
  rw [show RkSolveTells.cl (kL n : Int) = kL n from by unfold RkSolveTells.cl; have := kL_le h2; omega]
  congr 1
  conv => rhs; rw [← List.map_id (matF n j es)]
  exact List.map_congr_left fun r hr => by
    show fitR (kL n) r = r
    unfold fitR
    rw [List.take_of_length_le (by rw [matF_mem hr]; omega), matF_mem hr]; simp
theorem rk_mono {n : Nat} (h2 : n ≤ 40) {j : Int} (hj : 0 ≤ j ∧ j ≤ 255) {es es' : List Int} (h : ∀ e ∈ es', okE e) (hs : ∀ e ∈ es, e ∈ es') : rk n j es ≤ rk n j es' := by
  rw [rk_eq h2, rk_eq h2]
  refine La.dim_mono (Sv.rank_dim fun r hr => matF_mem hr).1 (Sv.rank_dim fun r hr => matF_mem hr).1 fun v hv => La.Span.mem ?_
  obtain ⟨r, hr, rfl⟩ := List.mem_map.1 hv
  refine List.mem_map_of_mem ?_
  unfold matF byts at hr ⊢
  obtain ⟨q, hq, rfl⟩ := List.mem_map.1 hr
  refine List.mem_map_of_mem ?_
  unfold matOf at hq ⊢
  rw [if_pos ⟨hj, h⟩]
  rw [if_pos ⟨hj, fun e he => h e (hs e he)⟩] at hq
  rcases List.mem_append.1 hq with hq | hq
  · exact List.mem_append.2 (.inl hq)
  · unfold esiRows at hq ⊢
    obtain ⟨e, he, rfl⟩ := List.mem_map.1 hq
    exact List.mem_append.2 (.inr (List.mem_map.2 ⟨e, hs e he, rfl⟩))
theorem seed_good {n : Nat} (h : (seedOf (n : Int)).2 = 0) : rk n (seedOf (n : Int)).1 (src n) = kL n := by
  obtain ⟨g1, g2⟩ := seed_in h
  unfold seedOf at h ⊢
  rw [if_neg (by omega), Int.toNat_natCast] at h ⊢
  rcases find_says n 256 0 with e | ⟨i, _, _, e, g3, _⟩
  · rw [e] at h; cases h
  · rw [e]; exact g3
theorem src_ok {n : Nat} (h : n ≤ 40) : ∀ e ∈ src n, okE e := fun e he => by
  unfold src at he
  obtain ⟨i, hi, rfl⟩ := List.mem_map.1 he
  have := List.mem_range.1 hi
  exact ⟨by omega, by omega⟩
end Go.Proofs.Ytbfhinfblepidaa.Dw
