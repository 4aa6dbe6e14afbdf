/- Arguments that came in, read: what a value that can be read as data holds, as the printed functions' contracts want it (slices of slices of numbers). No program is in sight; conditions: the value can be read, and takes no more memory than may be read. -/
import Derived.Test.YtjcfmfdkligmoaaWWords
import Derived.Deep.Slices
import Derived.SizedLaws
namespace Go.Proofs.Ytjcfmfdkligmoaa.Op
open Go.RowKit Go.Proofs.YtjcfmfdkligmoaaW.PrintWords Go.Proofs.YtjcfmfdkligmoaaW.PrintLast Go.Proofs.YtjcfmfdkligmoaaW.PrintMore
open Go.ChangeShapes Go.WideShapes Go.Deep
theorem add_add (a : Addr) (i j : Nat) : (a.add i).add j = a.add (i + j) := by
  by_cases hj : 0 < j
  · rw [add_field a i j hj]
    unfold Addr.add
    split
    · omega
    · rfl
  · obtain rfl : j = 0 := by omega
    unfold Addr.add
    simp
section
variable {H : Type} {enc : TypeId × Value → H} {P : Program} {w : World} {base : Nat} {spare : Nat → Bool} {held : Bool}
end
theorem wf_i64 {n : Int} (h : (Lit.int .i64 n).wf = true) : -2 ^ 63 ≤ n ∧ n < 2 ^ 63 := by
  simp [Lit.wf, IntKind.min, IntKind.max, IntKind.signed, IntKind.bits] at h; omega
end Go.Proofs.Ytjcfmfdkligmoaa.Op
