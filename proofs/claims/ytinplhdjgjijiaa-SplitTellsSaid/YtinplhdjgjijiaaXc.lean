/- A cut with a capacity of its own, 'xs[:j:j]'. No program is in sight. -/
import Derived.Test.YtinplhdjgjijiaaWMore
namespace Go.Proofs.Ytinplhdjgjijiaa.Xc
open Go.RowKit Go.Proofs.YtinplhdjgjijiaaW.PrintWords Go.Proofs.YtinplhdjgjijiaaW.PrintLast Go.Proofs.YtinplhdjgjijiaaW.PrintMore
theorem cut_cap {P : Program} (t e : TypeId) (kh km : IntKind) {i : TypeInfo} (ht : P.underlying t = some (.slice e)) (hi : P.info? e = some i) (A : Option Addr) (n c : Nat) (j : Int) (h0 : 0 ≤ j) (hm : j ≤ n) (hc : n ≤ c) :
    ∀ W : World, (Instr.slice t (.slice A n c) none (some (.int kh j)) (some (.int km j))).run P W = .ok (.slice A j.toNat j.toNat) W := by
  intro W
  have h1 : j ≤ (c : Int) := by omega
  have h2 : max j 0 = j := by omega
  have ha : (A.map fun x => x.add 0) = A := by cases A <;> simp [Addr.add]
  simp [Instr.slice, Instr.sliceBounds, Instr.sliceBound, underlying, asIntOf, ht, h1, h2, h0, sizeOf, typeInfo, hi, Result.andThen, ha]
end Go.Proofs.Ytinplhdjgjijiaa.Xc
