/- A region that draws its order: moves, numbers, addresses and loads that stand one behind the other are taken in one step, by one check of the region's table. No program is in sight; conditions: those that stand in the theorems. -/
import Derived.Test.YtjcfmfdkligmoaaYtjcfmfdkligmoaaWWords
namespace Go.Proofs.YtjcfmfdkligmoaaW.PrintLast
section
variable {P : Program} {md : Region.Mode} {ops : Array Oper} {Q : Exit → Act → World → Prop} {S : World → Prop} {ds : List Nat} {T : Bool × List (List Nat × List Nat)} {B : List Nat}
def okT (T : Bool × List (List Nat × List Nat)) (B : List Nat) (ds : List Nat) : List (Nat × Bool × Option Tmp) → List Bool → List Bool → Bool
  | [], l, l' => l == l'
  | (i, b, _) :: r, l, l' => (if b = true then takeW T B ds l (l.set i true) i else anyT T l (l.set i true) i) && okT T B ds r (l.set i true) l'
def RunD (P : Program) (ops : Array Oper) (S : World → Prop) : List (Nat × Bool × Option Tmp) → Act → (Act → Prop) → Prop
  | [], a, K => K a
  | (i, b, N) :: r, a, K => ∃ (oi : Oper) (v : Value), ops[i]? = some oi ∧ oi.dst = N ∧ (if b = true then YieldsIf P ops S oi v a else Yields P ops oi v a) ∧ RunD P ops S r (a.put N v) K
structure Run (P : Program) (ops : Array Oper) (S : World → Prop) (is : List (Nat × Bool × Option Tmp)) (a : Act) (K : Act → Prop) : Prop where
  out : RunD P ops S is a K
theorem Run.p {i : Nat} {N : Option Tmp} {r : List (Nat × Bool × Option Tmp)} {a : Act} {K : Act → Prop} {oi : Oper} {v : Value} (hi : ops[i]? = some oi) (hN : oi.dst = N) (hy : Yields P ops oi v a) {a' : Act} (ha : a.put N v = a') (h : Run P ops S r a' K) :
    Run P ops S ((i, false, N) :: r) a K := by
  subst ha
  exact ⟨oi, v, hi, hN, hy, h.out⟩
theorem Run.t {i : Nat} {N : Option Tmp} {r : List (Nat × Bool × Option Tmp)} {a : Act} {K : Act → Prop} {oi : Oper} {v : Value} (hi : ops[i]? = some oi) (hN : oi.dst = N) (hy : YieldsIf P ops S oi v a) {a' : Act} (ha : a.put N v = a') (h : Run P ops S r a' K) :
    Run P ops S ((i, true, N) :: r) a K := by
  subst ha
  exact ⟨oi, v, hi, hN, hy, h.out⟩
theorem Run.nil {a : Act} {K : Act → Prop} (h : K a) : Run P ops S [] a K := ⟨h⟩
theorem set_list (l : Array Bool) (i : Nat) : (l.setIfInBounds i true).toList = l.toList.set i true := Array.toList_setIfInBounds
theorem run_ (is : List (Nat × Bool × Option Tmp)) {n fuel : Nat} {l : Array Bool} {a : Act} {w : World} (l' : Array Bool) (hn : is.length = n) (hT : rtab md ops = T) (hB : waitsOk T.2 B = true) (hc : okT T B ds is l.toList l'.toList = true)
    (hQ : ∀ c (a : Act) (t : Array Value) w, Q (.panic c) { a with tmps := t } w → Q (.panic c) a w) (hS : S w) (h0 : Run P ops S is a (fun a' => wpAnyLast P md ops Q S ds fuel l' a' w)) : wpAnyLast P md ops Q S ds (fuel + n) l a w := by
  obtain ⟨h⟩ := h0
  subst hn
  have hQ' : ∀ c (a : Act) N v w, Q (.panic c) (a.put N v) w → Q (.panic c) a w := by
    intro c a N v w h
    cases N with
    | none => exact h
    | some d => exact hQ c a _ w h
  induction is generalizing l a with
  | nil =>
    have : l = l' := Array.ext' (by simpa [okT] using hc)
    subst this
    exact h
  | cons s r ih =>
    obtain ⟨i, b, N⟩ := s
    obtain ⟨oi, v, hi, rfl, hy, h⟩ := h
    unfold okT at hc
    rw [Bool.and_eq_true] at hc
    obtain ⟨h1, h2⟩ := hc
    rw [← set_list] at h1 h2
    have hr := ih (l := l.setIfInBounds i true) (a := a.put oi.dst v) h2 h
    cases b with
    | true =>
      rw [if_pos rfl] at h1 hy
      exact take_ (l.setIfInBounds i true) hi rfl (take_ofW hT hB h1) (fun c a w => hQ' c a _ _ w) hy hS rfl hr
    | false =>
      rw [if_neg (by decide)] at h1 hy
      exact pure_ (l.setIfInBounds i true) hi rfl (any_of hT h1) (fun c a w => hQ' c a _ _ w) hy rfl hr
end
end Go.Proofs.YtjcfmfdkligmoaaW.PrintLast
