/- What the laws of chapter 11 ask further: the symbols that they make, and whether numbers are enough, as the document says it. Conditions: those that stand in the theorems. -/
import Derived.Test.YtbfhinfblepidaaDq
import Derived.Test.YtbfhinfblepidaaPDecodeTellsx10
import Derived.Test.YtbfhinfblepidaaPDecodeTellsx18
namespace Go.Proofs.Ytbfhinfblepidaa.Dw
open Go.RowKit Go.Proofs.Ytbfhinfblepidaa.PSolveTells Go.Proofs.Ytbfhinfblepidaa.PSeedTells Go.Proofs.Ytbfhinfblepidaa.PBlockTells Go.Proofs.Ytbfhinfblepidaa.PDecodeTells Go.Proofs.YtbfhinfblepidaaW.PrintWords Go.Proofs.YtbfhinfblepidaaW.PrintLast Go.Proofs.Ytbfhinfblepidaa.Gf Go.Proofs.Ytbfhinfblepidaa.Rw Go.Proofs.Ytbfhinfblepidaa.Pc Go.Proofs.Ytbfhinfblepidaa.FSolveTells Go.Proofs.Ytbfhinfblepidaa.FSeedTells Go.Proofs.Ytbfhinfblepidaa.Sl Go.Proofs.Ytbfhinfblepidaa.Sd Go.Proofs.Ytbfhinfblepidaa.Dm Go.Proofs.Ytbfhinfblepidaa.Db Go.Proofs.Ytbfhinfblepidaa.Dr Go.Proofs.Ytbfhinfblepidaa.Dq
set_option linter.unusedVariables false
theorem rd_L1_at {L : List (List Int)} {i : Nat} (h : i < L.length) : rd_L1 L (i : Int) = Mt.ro L i := by unfold rd_L1 Mt.ro; rw [Int.toNat_natCast]
theorem symbols_l0 (es : List Int) (ds : List (List Int)) (he : es.length ≤ 1000) (hl : es.length ≤ ds.length) (hs : ∀ r ∈ ds, r.length < 2 ^ 40) (d : Nat) : ∀ i, i + d = es.length → Ev (fun k => fountainlaw11_drops.l0 k es ds ((zipD es ds).take i) (i : Int)) (zipD es ds) := by
  have hz := zip_len hl
  induction d with
  | zero =>
    intro i hi
    refine Ev.step (fun k => by simp only [fountainlaw11_drops.l0]; rfl) ?_
    rw [List.take_of_length_le (by omega)]
    exact ev_neg (by omega) (Ev.now _)
  | succ d ih =>
    intro i hi
    refine Ev.step (fun k => by simp only [fountainlaw11_drops.l0]; rfl) ?_
    have hm : Mt.ro ds i ∈ ds := by unfold Mt.ro; rw [List.getD_eq_getElem?_getD, List.getElem?_eq_getElem (by omega)]; exact List.getElem_mem _
    refine ev_pos (by omega) (ev_pos (by omega) (ev_pos (by omega) (ev_pos ?_ (ev_pos (by rw [List.length_take]; omega) ?_))))
    · rw [rd_L1_at (by omega)]; have := hs _ hm; simp only [List.length_nil]; omega
    · rw [rd_L1_at (by omega), List.nil_append, w64 (i := (i : Int) + 1) (by omega) (by omega), show (i : Int) + 1 = ((i + 1 : Nat) : Int) from by omega, ← zip_rd (by omega) (by omega), ← take_succ (by omega)]
      exact ih (i + 1) (by omega)
theorem symbols_ev (es : List Int) (ds : List (List Int)) (he : es.length ≤ 1000) (hl : es.length ≤ ds.length) (hs : ∀ r ∈ ds, r.length < 2 ^ 40) : Ev (fun k => fountainlaw11_drops.f k es ds) (zipD es ds) := by
  have := symbols_l0 es ds he hl hs es.length 0 (by omega)
  unfold fountainlaw11_drops.f
  exact this
theorem bad_ok {es : List Int} : es.any Cd.bad = false ↔ ∀ e ∈ es, okE e := by
  rw [List.any_eq_false]
  constructor
  · intro h e he
    have := h e he
    unfold Cd.bad at this
    simp only [Bool.or_eq_true, decide_eq_true_eq] at this
    exact ⟨by omega, by omega⟩
  · intro h e he
    obtain ⟨h1, h2⟩ := h e he
    unfold Cd.bad
    simp only [Bool.or_eq_true, decide_eq_true_eq]
    omega
theorem ties_pos (k : Nat) : 1 ≤ (ties k).length := by
  unfold ties lowRows
  rw [List.length_append, List.length_map, List.length_range]
  have := kS_pos k
  omega
theorem renough_ev (K : Int) (es : List Int) (he : es.length ≤ 1000) : Ev (fun k => fountainref1_Enough.f k K es) (enR K es) := by
  unfold fountainref1_Enough.f enR
  refine Ev.bind (seed_ev K) ?_
  by_cases c5 : (seedOf K).2 = 0
  · obtain ⟨g1, g2⟩ := seed_in c5
    obtain ⟨n, rfl⟩ : ∃ n : Nat, K = (n : Int) := ⟨K.toNat, by omega⟩
    have h1 : 1 ≤ n := by omega
    have h2 : n ≤ 40 := by omega
    obtain ⟨s1, s2⟩ := seed_nat (n : Int)
    refine ev_pos c5 (Ev.bind (rmatrix_ev h1 h2 _ es (by omega)) ?_)
    rw [decide_eq_true c5, Int.toNat_natCast]
    cases c3 : es.any Cd.bad with
    | true =>
      have : matOf n (seedOf (n : Int)).1 es = [] := by
        unfold matOf
        rw [if_neg]
        rintro ⟨_, h⟩
        rw [bad_ok.2 h] at c3; cases c3
      rw [this]
      exact ev_neg (by decide) (Ev.now _)
    | false =>
      have hm : 0 < (matOf n (seedOf (n : Int)).1 es).length := by
        unfold matOf
        rw [if_pos ⟨⟨s1, s2⟩, bad_ok.1 c3⟩, List.length_append]
        have := ties_pos n
        omega
      refine ev_pos (by omega) (ev_val (rL_ok h2) (ev_val (prrank_ev h2 _ es (by omega)) (ev_val (rL_ok h2) ?_)))
      have e : (((rk n (seedOf (n : Int)).1 es : Nat) : Int) == ((kL n : Nat) : Int)) = (rk n (seedOf (n : Int)).1 es == kL n) := by
        rw [Bool.eq_iff_iff, beq_iff_eq, beq_iff_eq]; omega
      rw [e]
      exact Ev.now _
  · rw [decide_eq_false c5]
    exact ev_neg c5 (Ev.now _)
theorem decR_len (K z : Int) (Z : List S111) : (decR K z Z).1.length ≤ 40 := by
  unfold decR
  split
  · simp
  · rename_i h
    split
    · simp
    · split
      · simp
      · split
        · simp
        · rw [List.length_map, List.length_range]; omega
theorem dblock_at (K z : Int) (es : List Int) (L : List (List F)) (he : es.length ≤ 1000) (hl : es.length ≤ L.length) : Pd.dblock.f K z (zipD es (tll L)) = some (decR K z (zipD es (tll L))) :=
  Pz.ev_of (dblock_ev K z _ (by rw [zip_len (by rw [tll_length]; exact hl)]; exact he) (fun x hx => by
    obtain ⟨r, _, e⟩ := List.mem_map.1 (zip_mem hx).2
    rw [← e]; exact tl_byte r))
theorem rdec_at (K z : Int) (es : List Int) (L : List (List F)) (he : es.length ≤ 1000) (hl : es.length ≤ L.length) : Pd.rdec.f K z es (tll L) = some (decR K z (zipD es (tll L))) := Pz.ev_of (rdec_ev K z es L he hl)
theorem denough_at (K : Int) (es : List Int) (he : es.length ≤ 1000) : Pd.denough.f K es = some (enR K es) := Pz.ev_of (denough_ev K es he)
end Go.Proofs.Ytbfhinfblepidaa.Dw
