/- Proved: FieldMany answers true: of many elements sum and product are those of one behind the other. Conditions: the argument is of its kind, and takes no more memory than may be read. -/
import Derived.Test.YtinplhdjgjijiaaFFieldMany
import Derived.Test.YtinplhdjgjijiaaWSized
namespace Go.Proofs.Ytinplhdjgjijiaa.PrintWords
open Go.ChangeShapes Go.WideShapes
/-- The print's row names this by the seat's own namespace. -/
theorem sized_ints {H : Type} {enc : TypeId × Value → H} {P : Program} {W : World} {base : Nat} {spare : Nat → Bool} {held : Bool} {t e : TypeId} {k : IntKind} {a : Option Addr} {len cap : Nat} {d : DataW H} {ps : List MemPlace} {ts : List TypeId} {ds : List (DataW H)} {j : Nat}
    (hsz : (DataW.weightsEach P ts ds).all (· ≤ reachBytes) = true) (ht : ts[j]? = some t) (hd : ds[j]? = some d) (hu : P.underlying t = some (.slice e)) (he : P.underlying e = some (.int k)) (hc : P.cellsOf e = 1) {B : Nat} (hB : P.bytesOf e = B)
    (h : DataW.Trod enc P W base spare held t (.slice a len cap) d ps) : len * B ≤ 140737488351232 :=
  Go.Proofs.YtinplhdjgjijiaaW.PrintWords.sized_ints hsz ht hd hu he hc hB h
end Go.Proofs.Ytinplhdjgjijiaa.PrintWords
namespace Go.Proofs.Ytinplhdjgjijiaa.Pure
open Go.RowKit Go.Proofs.Ytinplhdjgjijiaa.PFieldMany Go.Proofs.YtinplhdjgjijiaaW.PrintWords Go.Proofs.YtinplhdjgjijiaaW.PrintLast Go.Proofs.Ytinplhdjgjijiaa.Gf Go.Proofs.Ytinplhdjgjijiaa.FFieldMany

theorem many_l0 (l : List Nat) (hl : ∀ x ∈ l, x < 256) (hn : l.length < 2 ^ 62) (t : List Nat) : ∀ (i s p : Nat), s < 256 → p < 256 → l.drop i = t →
    t.foldl (· ^^^ ·) s = sumB l → t.foldl mul p = prodB l →
    Ev (fun k => fountainlaw1_FieldMany.l0 k (l.map fun x : Nat => (x : Int)) (s : Int) (p : Int) (i : Int)) true := by
  induction t with
  | nil =>
    intro i s p hs hp hd e1 e2
    refine Ev.step (fun k => by simp only [fountainlaw1_FieldMany.l0]; rfl) ?_
    have : l.length ≤ i := by have := congrArg List.length hd; simp at this; omega
    simp only [List.length_map]
    refine ev_neg (by omega) ?_
    refine Ev.bind (add_ev l hl hn) ?_
    simp only [List.foldl_nil] at e1 e2
    subst e1; subst e2
    simp only [if_true]
    refine Ev.bind (mul_ev l hl hn) ?_
    rw [beq_self_eq_true]
    exact Ev.now _
  | cons x t ih =>
    intro i s p hs hp hd e1 e2
    have hd' : (l.map fun x : Nat => (x : Int)).drop i = (x : Int) :: t.map fun x : Nat => (x : Int) := by rw [← List.map_drop, hd]; rfl
    obtain ⟨h1, h2, h3⟩ := rd_drop hd'
    simp only [List.length_map] at h2
    have hx : x < 256 := hl x (List.mem_of_mem_drop (hd ▸ List.mem_cons_self : x ∈ l.drop i))
    refine Ev.step (fun k => by simp only [fountainlaw1_FieldMany.l0]; rfl) ?_
    simp only [List.length_map]
    refine ev_pos (by omega) ?_
    refine ev_pos (by omega) ?_
    rw [h1]
    refine Ev.bind (rtimes_ev hp hx) ?_
    rw [u8_xor_nat s x hs hx, w64 (by omega) (by omega), show (i : Int) + 1 = ((i + 1 : Nat) : Int) from by omega]
    exact ih (i + 1) _ _ (xor_lt hs hx) (mul_lt x hp) (by rw [← List.tail_drop, hd]; rfl) e1 e2
theorem FieldMany : fountainlaw1_FieldMany.Pure := by
  intro l0 hm _ hw
  obtain ⟨l, rfl, hl, _⟩ := bytes_of l0 hw
  rw [List.length_map] at hm
  unfold maxLen at hm
  refine Ev.rounds (?_ : Ev (fun k => fountainlaw1_FieldMany.f k (l.map fun x : Nat => (x : Int))) true)
  unfold fountainlaw1_FieldMany.f
  refine Ev.bind alive_ev ?_
  simp only [if_true]
  refine Ev.step (fun k => by simp only [fountainlaw1_FieldMany.j0]; rfl) ?_
  by_cases h : ((l.map fun x : Nat => (x : Int)).length : Int) > 100
  · simp only [decide_eq_true h, if_true]
    exact Ev.now _
  · simp only [decide_eq_false h, Bool.false_eq_true, if_false]
    rw [List.length_map] at h
    exact many_l0 l hl (by omega) l 0 0 1 (by decide) (by decide) rfl rfl rfl
end Go.Proofs.Ytinplhdjgjijiaa.Pure
