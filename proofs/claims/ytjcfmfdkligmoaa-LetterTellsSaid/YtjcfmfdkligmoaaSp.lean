/- How an object is cut into blocks and symbols, in plain Lean. No program is in sight; no condition but those that stand. -/
import Derived.Test.YtjcfmfdkligmoaaRw
namespace Go.Proofs.Ytjcfmfdkligmoaa.Sp
open Go.Proofs.Ytjcfmfdkligmoaa.Rw
def okS (b s m : Int) : Prop := (1 ≤ b ∧ b ≤ 4000) ∧ (1 ≤ s ∧ s ≤ 64) ∧ (1 ≤ m ∧ m ≤ 40)
instance (b s m : Int) : Decidable (okS b s m) := by unfold okS; infer_instance
def upN (a b : Nat) : Nat := (a - 1) / b + 1
def symN (b s : Nat) : Nat := upN b s
def blkN (b s m : Nat) : Nat := upN (symN b s) m
theorem upN_le {a b : Nat} (ha : 1 ≤ a) : upN a b ≤ a := by
 unfold upN
 have := Nat.div_le_self (a - 1) b
 omega
theorem upN_pos (a b : Nat) : 1 ≤ upN a b := Nat.succ_le_succ (Nat.zero_le _)
theorem sym_pos (b s : Nat) : 1 ≤ symN b s := upN_pos _ _
theorem sym_le {b s : Nat} (hb : 1 ≤ b) : symN b s ≤ b := upN_le hb
theorem blk_pos (b s m : Nat) : 1 ≤ blkN b s m := upN_pos _ _
theorem blk_le {b s m : Nat} : blkN b s m ≤ symN b s := upN_le (sym_pos b s)
end Go.Proofs.Ytjcfmfdkligmoaa.Sp
