/- A region that draws its order: moves, numbers, addresses and loads that stand one behind the other are taken in one step, by one check of the region's table. No program is in sight; conditions: those that stand in the theorems. -/
import Derived.Test.YtbfhinfblepidaaWWords
namespace Go.Proofs.YtbfhinfblepidaaW.PrintLast
section
variable {P : Program} {md : Region.Mode} {ops : Array Oper} {Q : Exit → Act → World → Prop} {S : World → Prop} {ds : List Nat} {T : Bool × List (List Nat × List Nat)} {B : List Nat}
def okT (T : Bool × List (List Nat × List Nat)) (B : List Nat) (ds : List Nat) : List (Nat × Bool × Option Tmp) → List Bool → List Bool → Bool
  | [], l, l' => l == l'
  | (i, b, _) :: r, l, l' => (if b = true then takeW T B ds l (l.set i true) i else anyT T l (l.set i true) i) && okT T B ds r (l.set i true) l'
def RunD (P : Program) (ops : Array Oper) (S : World → Prop) : List (Nat × Bool × Option Tmp) → Act → (Act → Prop) → Prop
  | [], a, K => K a
  | (i, b, N) :: r, a, K => ∃ (oi : Oper) (v : Value), ops[i]? = some oi ∧ oi.dst = N ∧ (if b = true then YieldsIf P ops S oi v a else Yields P ops oi v a) ∧ RunD P ops S r (a.put N v) K
structure Run (P : Program) (ops : Array Oper) (S : World → Prop) (is : List (Nat × Bool × Option Tmp)) (a : Act) (K : Act → Prop) : Prop where
  out : RunD P ops S is a K
theorem Run.p {i : Nat} {N : Option Tmp} {r : List (Nat × Bool × Option Tmp)} {a : Act} {K : Act → Prop} {oi : Oper} {v : Value} (hi : ops[i]? = some oi) (hN : oi.dst = N) (hy : Yields P ops oi v a) {a' : Act} (ha : a.put N v = a') (h : Run P ops S r a' K) :
    Run P ops S ((i, false, N) :: r) a K := by
  subst ha
  exact ⟨oi, v, hi, hN, hy, h.out⟩
theorem Run.t {i : Nat} {N : Option Tmp} {r : List (Nat × Bool × Option Tmp)} {a : Act} {K : Act → Prop} {oi : Oper} {v : Value} (hi : ops[i]? = some oi) (hN : oi.dst = N) (hy : YieldsIf P ops S oi v a) {a' : Act} (ha : a.put N v = a') (h : Run P ops S r a' K) :
    Run P ops S ((i, true, N) :: r) a K := by
  subst ha
  exact ⟨oi, v, hi, hN, hy, h.out⟩
theorem Run.nil {a : Act} {K : Act → Prop} (h : K a) : Run P ops S [] a K := ⟨h⟩
theorem set_list (l : Array Bool) (i : Nat) : (l.setIfInBounds i true).toList = l.toList.set i true := Array.toList_setIfInBounds
theorem run_ (is : List (Nat × Bool × Option Tmp)) {n fuel : Nat} {l : Array Bool} {a : Act} {w : World} (l' : Array Bool) (hn : is.length = n) (hT : rtab md ops = T) (hB : waitsOk T.2 B = true) (hc : okT T B ds is l.toList l'.toList = true)
    (hQ : ∀ c (a : Act) (t : Array Value) w, Q (.panic c) { a with tmps := t } w → Q (.panic c) a w) (hS : S w) (h0 : Run P ops S is a (fun a' => wpAnyLast P md ops Q S ds fuel l' a' w)) : wpAnyLast P md ops Q S ds (fuel + n) l a w := by
  obtain ⟨h⟩ := h0
  subst hn
  have hQ' : ∀ c (a : Act) N v w, Q (.panic c) (a.put N v) w → Q (.panic c) a w := by
    intro c a N v w h
    cases N with
    | none => exact h
    | some d => exact hQ c a _ w h
  induction is generalizing l a with
  | nil =>
    have : l = l' := Array.ext' (by simpa [okT] using hc)
    subst this
    exact h
  | cons s r ih =>
    obtain ⟨i, b, N⟩ := s
    obtain ⟨oi, v, hi, rfl, hy, h⟩ := h
    unfold okT at hc
    rw [Bool.and_eq_true] at hc
    obtain ⟨h1, h2⟩ := hc
    rw [← set_list] at h1 h2
    have hr := ih (l := l.setIfInBounds i true) (a := a.put oi.dst v) h2 h
    cases b with
    | true =>
      rw [if_pos rfl] at h1 hy
      exact take_ (l.setIfInBounds i true) hi rfl (take_ofW hT hB h1) (fun c a w => hQ' c a _ _ w) hy hS rfl hr
    | false =>
      rw [if_neg (by decide)] at h1 hy
      exact pure_ (l.setIfInBounds i true) hi rfl (any_of hT h1) (fun c a w => hQ' c a _ _ w) hy rfl hr
end
end Go.Proofs.YtbfhinfblepidaaW.PrintLast
namespace Go.Proofs.YtbfhinfblepidaaW.PrintMore
open Go.RowKit Go.Proofs.YtbfhinfblepidaaW.PrintWords Go.Proofs.YtbfhinfblepidaaW.PrintLast
theorem bel {n : Nat} {w W : World} (h : Below n w W := by repeat (first | (with_reducible first | exact Aside0.out (by assumption) | apply below_alloc | apply pw_below_drewN | apply below_drew1 | refine below_set ?_ (Aside0.out (by assumption))) | exact Aside0.out (by assumption) | exact Below.refl _ _)) : Below n w W := h
theorem bels {w W : World} (h : Below w.heap.size w W := by exact bel) : w.heap.size ≤ W.heap.size := below_size h
theorem belt {w W w2 : World} (k : Below W.heap.size W w2) (h : Below w.heap.size w W := by exact bel) : Below w.heap.size w w2 := below_step h k
theorem gro {n : Nat} {w W : World} (h : Below n w W := by with_reducible repeat (first | exact Below.refl _ _ | apply below_alloc | apply pw_below_drewN | apply below_drew1)) : Below n w W := h
theorem blk_g {w W : World} {g : Nat} {o : Obj} (h : w.heap[g]? = some o) (hb : Below w.heap.size w W := by exact gro) : W.heap[g]? = some o := blk_below h hb
def ms (n m : Nat) : Array Bool := ((List.range n).map fun i => m.testBit i).toArray
section
variable {α : Type} {d : Kd α} {e : Nat} {w w1 : World} {base : Nat} {ok : Nat → Prop} {v : Value} {xs : List α}
theorem R_g (h : d.R e w base ok v xs) (hb : Below w.heap.size w w1 := by exact gro) : d.R e w1 base ok v xs := Kd.R_below h hb
theorem S_g (h : Kd.S d e w base ok v xs) (hb : Below w.heap.size w w1 := by exact gro) : Kd.S d e w1 base ok v xs := Kd.S_below h hb
theorem N_g (h : Kd.N d e w base ok v xs) (hb : Below w.heap.size w w1 := by exact gro) : Kd.N d e w1 base ok v xs := Kd.N_below h hb
theorem V_g (h : Kd.V d e w base ok v xs) (hb : Below w.heap.size w w1 := by exact gro) : Kd.V d e w1 base ok v xs := Kd.V_below h hb
end
theorem agl {p : Prop} (h : p := by (try simp only [List.map_toArray, List.map_cons, List.map_nil]); first | done | rfl | (simp only [List.length_drop, List.length_take]; rfl)) : p := h
theorem frs {p : Prop} (h : p := by first | rfl | (simp; done) | (simp [*]; done)) : p := h
theorem asu {p : Prop} (h : p := by first | (with_reducible assumption) | assumption) : p := h
end Go.Proofs.YtbfhinfblepidaaW.PrintMore
namespace Go.Proofs.YtbfhinfblepidaaW.PrintMore
open Go.RowKit Go.Proofs.YtbfhinfblepidaaW.PrintWords Go.Proofs.YtbfhinfblepidaaW.PrintLast
theorem zA {p : Prop} (h : p) : Aside0 p := ⟨h⟩
theorem box3 {w : World} {g : Nat} {t : TypeId} {a b c : Value} (h : w.heap[g]? = some (.cells #[a, b, c] t (0, 0))) : w.cell? ⟨g, 0, none⟩ = some a ∧ w.cell? ⟨g, 1, none⟩ = some b ∧ w.cell? ⟨g, 2, none⟩ = some c ∧ w.frozen? ⟨g, 0, none⟩ = false ∧ w.frozen? ⟨g, 1, none⟩ = false ∧ w.frozen? ⟨g, 2, none⟩ = false :=
  ⟨(blk_cell h 0).trans rfl, (blk_cell h 1).trans rfl, (blk_cell h 2).trans rfl, blk_frozen h 0, blk_frozen h 1, blk_frozen h 2⟩
theorem sx : (∀ (l : List Value) (i : Nat) (a : Value), l.toArray.setIfInBounds i a = (l.set i a).toArray) ∧ (∀ (x a : Value) (l : List Value), (x :: l).set 0 a = a :: l) ∧ (∀ (x a : Value) (l : List Value) (n : Nat), (x :: l).set (n + 1) a = x :: l.set n a) ∧ (∀ n : Int, IntKind.i64.wrap n = Go.RowKit.wrap64 n) ∧ (∀ n : Int, IntKind.i32.wrap n = Go.RowKit.wrap32 n) :=
  ⟨fun _ _ _ => List.setIfInBounds_toArray .., fun _ _ _ => rfl, fun _ _ _ _ => rfl, i64_w, i32_w⟩
section
variable {p q : Prop}
theorem rdR (h : q) (t : q → p := by intro h_; (with_reducible repeat (first | apply Kd.R_alloc | apply Kd.R_drewN | apply Kd.R_drew)); exact h_) : p := t h
theorem rdS (h : q) (t : q → p := by intro h_; (with_reducible repeat (first | apply Kd.S_alloc | apply Kd.S_drewN | apply Kd.S_drew)); exact h_) : p := t h
theorem rdN (h : q) (t : q → p := by intro h_; (with_reducible repeat (first | apply Kd.N_alloc | apply Kd.N_drewN | apply Kd.N_drew)); exact h_) : p := t h
theorem rdV (h : q) (t : q → p := by intro h_; (with_reducible repeat (first | apply Kd.V_alloc | apply Kd.V_drewN | apply Kd.V_drew)); exact h_) : p := t h
theorem rdB (h : q) (t : q → p := by intro h_; (with_reducible repeat (first | refine blk_drewN ?_ _ | refine blk_drew ?_ | refine blk_alloc ?_ _)); exact h_) : p := t h
theorem zC {α : Type} {a b : α} (h : p) (e : a = b) (t : a = b → p → q := by
  intro e_ h_; first | (rw [e_]; with_reducible exact h_) | (have k_ := (Option.bind_some _ _).symm.trans h_; rw [e_]; with_reducible exact k_) | (have k_ := (Option.bind_some _ _).symm.trans h_; with_reducible exact k_) | with_reducible exact h_ | (rw [e_]; exact h_) | exact h_) : q := t e h
end
end Go.Proofs.YtbfhinfblepidaaW.PrintMore
