/- Proved: PrecodeTells answers true: which rows tie any block together, and those of any symbols, are the document's own. Conditions: the arguments are of their kinds, and the list takes no more memory than may be read. -/
import Derived.Test.YtbfhinfblepidaaFPrecodeTells
import Derived.Test.YtbfhinfblepidaaWSized
namespace Go.Proofs.Ytbfhinfblepidaa.PrintWords
open Go.ChangeShapes Go.WideShapes
/-- The print's row names this by the seat's own namespace. -/
theorem sized_ints {H : Type} {enc : TypeId × Value → H} {P : Program} {W : World} {base : Nat} {spare : Nat → Bool} {held : Bool} {t e : TypeId} {k : IntKind} {a : Option Addr} {len cap : Nat} {d : DataW H} {ps : List MemPlace} {ts : List TypeId} {ds : List (DataW H)} {j : Nat}
    (hsz : (DataW.weightsEach P ts ds).all (· ≤ reachBytes) = true) (ht : ts[j]? = some t) (hd : ds[j]? = some d) (hu : P.underlying t = some (.slice e)) (he : P.underlying e = some (.int k)) (hc : P.cellsOf e = 1) {B : Nat} (hB : P.bytesOf e = B)
    (h : DataW.Trod enc P W base spare held t (.slice a len cap) d ps) : len * B ≤ 140737488351232 :=
  Go.Proofs.YtbfhinfblepidaaW.PrintWords.sized_ints hsz ht hd hu he hc hB h
end Go.Proofs.Ytbfhinfblepidaa.PrintWords
namespace Go.Proofs.Ytbfhinfblepidaa.Pure
open Go.RowKit Go.Proofs.Ytbfhinfblepidaa.PPrecodeTells Go.Proofs.YtbfhinfblepidaaW.PrintWords Go.Proofs.YtbfhinfblepidaaW.PrintLast Go.Proofs.Ytbfhinfblepidaa.Gf Go.Proofs.Ytbfhinfblepidaa.Pc Go.Proofs.Ytbfhinfblepidaa.FPrecodeTells

theorem matOf_length {k : Nat} (h2 : k ≤ 40) (j : Int) (esis : List Int) (hn : esis.length ≤ 60) : (matOf k j esis).length < 2 ^ 42 := by
  unfold matOf
  have ht := ties_length h2
  split
  · simp only [ties, esiRows, List.length_append, List.length_map]; omega
  · simp
theorem j0_ev (a0 a1 : Int) (l2 : List Int) (h0 : 0 ≤ a0) (h1 : a0 ≤ 50) (hn : l2.length ≤ 60) : Ev (fun q => fountainlaw7_PrecodeTells.j0 q a0 a1 l2 true false) true := by
  refine Ev.step (fun q => by simp only [fountainlaw7_PrecodeTells.j0]; rfl) ?_
  refine ev_neg (by decide) ?_
  by_cases hv : 1 ≤ a0 ∧ a0 ≤ 40
  · obtain ⟨k, rfl⟩ : ∃ k : Nat, a0 = (k : Int) := ⟨a0.toNat, by omega⟩
    have g1 : 1 ≤ k := by omega
    have g2 : k ≤ 40 := by omega
    have ht := ties_length g2
    refine ev_val (of_ok g1 g2) ?_
    refine Ev.bind (low_ev g1 g2) (Ev.bind (from_ev _ (by omega)) (Ev.bind (rlow_ev g1 g2) (Ev.bind (same_ev _ (by omega)) (ev_pos rfl ?_))))
    refine Ev.bind (high_ev g1 g2) (Ev.bind (from_ev _ (by omega)) (Ev.bind (rhigh_ev g1 g2) (Ev.bind (same_ev _ (by omega)) (ev_pos rfl ?_))))
    have hm := matOf_length g2 a1 l2 hn
    refine Ev.bind (matrix_ev g1 g2 a1 l2 (by omega)) (Ev.bind (from_ev _ hm) (Ev.bind (rmatrix_ev g1 g2 a1 l2 (by omega)) (Ev.bind (same_ev _ hm) (Ev.now _))))
  · have hb : a0 < 1 ∨ 40 < a0 := by omega
    refine ev_val (of_no hb) ?_
    have e0 : ([] : List (List Int)).length < 2 ^ 42 := by decide
    refine Ev.bind low_zero (Ev.bind (from_ev _ e0) (Ev.bind (rlow_none hb) (Ev.bind (same_ev _ e0) (ev_pos rfl ?_))))
    refine Ev.bind high_zero (Ev.bind (from_ev _ e0) (Ev.bind (rhigh_none hb) (Ev.bind (same_ev _ e0) (ev_pos rfl ?_))))
    refine Ev.bind (matrix_zero a1 l2) (Ev.bind (from_ev _ e0) (Ev.bind (rmatrix_none hb a1 l2) (Ev.bind (same_ev _ e0) (Ev.now _))))
theorem PrecodeTells : fountainlaw7_PrecodeTells.Pure := by
  intro a0 a1 l2 _ _ _ _ _
  refine Ev.rounds (?_ : Ev (fun q => fountainlaw7_PrecodeTells.f q a0 a1 l2) true)
  unfold fountainlaw7_PrecodeTells.f
  refine Ev.bind alive_ev (ev_pos rfl ?_)
  have fin : ∀ b : Bool, b = true → Ev (fun q => fountainlaw7_PrecodeTells.j0 q a0 a1 l2 true b) true := by
    intro b hb
    refine Ev.step (fun q => by simp only [fountainlaw7_PrecodeTells.j0]; rfl) ?_
    exact ev_pos hb (Ev.now _)
  by_cases c1 : a0 < 0
  · exact ev_pos c1 (fin _ rfl)
  refine ev_neg c1 ?_
  by_cases c2 : a0 > 50
  · exact ev_pos c2 (fin _ rfl)
  refine ev_neg c2 ?_
  by_cases c3 : (l2.length : Int) > 60
  · exact fin _ (decide_eq_true c3)
  · rw [decide_eq_false c3]
    exact j0_ev a0 a1 l2 (by omega) (by omega) (by omega)
end Go.Proofs.Ytbfhinfblepidaa.Pure
