/- Short words for what the printed texts say again and again: that nothing which lay there has turned (told of the worlds by what happened between), and which operations of a region have come up. No program is in sight; conditions: those that stand in the theorems. -/
import Derived.Test.YtjcfmfdkligmoaaWWords
import Derived.Test.YtjcfmfdkligmoaaPs
namespace Go.Proofs.YtjcfmfdkligmoaaW.PrintMore
open Go.RowKit Go.Proofs.YtjcfmfdkligmoaaW.PrintWords Go.Proofs.YtjcfmfdkligmoaaW.PrintLast
theorem bel {n : Nat} {w W : World} (h : Below n w W := by repeat (first | (with_reducible first | exact Aside0.out (by assumption) | apply below_alloc | apply pw_below_drewN | apply below_drew1 | refine below_set ?_ (Aside0.out (by assumption))) | exact Aside0.out (by assumption) | exact Below.refl _ _)) : Below n w W := h
theorem bels {w W : World} (h : Below w.heap.size w W := by exact bel) : w.heap.size ≤ W.heap.size := below_size h
theorem belt {w W w2 : World} (k : Below W.heap.size W w2) (h : Below w.heap.size w W := by exact bel) : Below w.heap.size w w2 := below_step h k
theorem gro {n : Nat} {w W : World} (h : Below n w W := by with_reducible repeat (first | exact Below.refl _ _ | apply below_alloc | apply pw_below_drewN | apply below_drew1)) : Below n w W := h
theorem blk_g {w W : World} {g : Nat} {o : Obj} (h : w.heap[g]? = some o) (hb : Below w.heap.size w W := by exact gro) : W.heap[g]? = some o := blk_below h hb
def ms (n m : Nat) : Array Bool := ((List.range n).map fun i => m.testBit i).toArray
section
variable {α : Type} {d : Kd α} {e : Nat} {w w1 : World} {base : Nat} {ok : Nat → Prop} {v : Value} {xs : List α}
theorem S_g (h : Kd.S d e w base ok v xs) (hb : Below w.heap.size w w1 := by exact gro) : Kd.S d e w1 base ok v xs := Kd.S_below h hb
end
end Go.Proofs.YtjcfmfdkligmoaaW.PrintMore
namespace Go.Proofs.YtjcfmfdkligmoaaW.PrintMore
open Go.RowKit Go.Proofs.YtjcfmfdkligmoaaW.PrintWords Go.Proofs.YtjcfmfdkligmoaaW.PrintLast
section
variable {p q : Prop}
end
end Go.Proofs.YtjcfmfdkligmoaaW.PrintMore
