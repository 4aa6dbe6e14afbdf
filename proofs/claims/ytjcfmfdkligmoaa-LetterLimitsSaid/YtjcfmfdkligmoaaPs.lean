/- A region that draws its order: moves, numbers, addresses and loads that stand one behind the other are taken in one step, by one check of the region's table. No program is in sight; conditions: those that stand in the theorems. -/
import Derived.Test.YtjcfmfdkligmoaaWWords
namespace Go.Proofs.YtjcfmfdkligmoaaW.PrintLast
section
variable {P : Program} {md : Region.Mode} {ops : Array Oper} {Q : Exit → Act → World → Prop} {S : World → Prop} {ds : List Nat} {T : Bool × List (List Nat × List Nat)} {B : List Nat}
def RunD (P : Program) (ops : Array Oper) (S : World → Prop) : List (Nat × Bool × Option Tmp) → Act → (Act → Prop) → Prop
  | [], a, K => K a
  | (i, b, N) :: r, a, K => ∃ (oi : Oper) (v : Value), ops[i]? = some oi ∧ oi.dst = N ∧ (if b = true then YieldsIf P ops S oi v a else Yields P ops oi v a) ∧ RunD P ops S r (a.put N v) K
structure Run (P : Program) (ops : Array Oper) (S : World → Prop) (is : List (Nat × Bool × Option Tmp)) (a : Act) (K : Act → Prop) : Prop where
  out : RunD P ops S is a K
theorem Run.p {i : Nat} {N : Option Tmp} {r : List (Nat × Bool × Option Tmp)} {a : Act} {K : Act → Prop} {oi : Oper} {v : Value} (hi : ops[i]? = some oi) (hN : oi.dst = N) (hy : Yields P ops oi v a) {a' : Act} (ha : a.put N v = a') (h : Run P ops S r a' K) :
    Run P ops S ((i, false, N) :: r) a K := by
  subst ha
  exact ⟨oi, v, hi, hN, hy, h.out⟩
theorem Run.t {i : Nat} {N : Option Tmp} {r : List (Nat × Bool × Option Tmp)} {a : Act} {K : Act → Prop} {oi : Oper} {v : Value} (hi : ops[i]? = some oi) (hN : oi.dst = N) (hy : YieldsIf P ops S oi v a) {a' : Act} (ha : a.put N v = a') (h : Run P ops S r a' K) :
    Run P ops S ((i, true, N) :: r) a K := by
  subst ha
  exact ⟨oi, v, hi, hN, hy, h.out⟩
theorem Run.nil {a : Act} {K : Act → Prop} (h : K a) : Run P ops S [] a K := ⟨h⟩
end
end Go.Proofs.YtjcfmfdkligmoaaW.PrintLast
