/-
  No cell of these rows narrows 'for every input' (looked for: loops, veiled, ifaces, maps, wideKeys, modest, calm, conditions, laid).
  DERIVED. THE GIVEN ROWS OF THIS SEAT. 6 by the template 'for every input the law returns true; each argument reads behind the call as it read before'; 0 by the template 'total and deterministic' (their statements: YtjcfmfdkligmoaaTotals.lean).
  GIVEN WITH THE SEED: the statements are not yours to turn. If you find one false, say at which input.
  Laid BY PROGRAM, IN A SANDBOX (cutbox-rows.mjs): the forced cells as the released guide's own fill.sh prints them over the translation 21f49f2f2affd998… (all of the seat's roots in one cut). By AI agents, Wed Nov 11 2026. No macro, syntax, notation, axiom, sorry.
-/
import Derived.Test.YtjcfmfdkligmoaaChecked
import GoSem.Claim
import GoSem.ClaimJoined
import GoSem.ClaimMapViews
import Derived.JoinedTies
import Derived.KernelRfl
namespace Go.Proofs.Ytjcfmfdkligmoaa
/- THE CELL 'sum', in the pinned program and in every row, IS THE sha256 OF THE DUMP (.gsa) THAT YtjcfmfdkligmoaaProg.lean LOADS. Nothing in Lean hashes anything: it is a label: what it is worth is what the hold of that sum in a sandbox is worth. -/
noncomputable def Try.pinned : Pinned := { name := "ytjcfmfdkligmoaa", sum := "21f49f2f2affd998f3411aa8beae91deb6d03fe8364dce8701aeab0242d68fab", checked := Try.checked }
namespace Rows
def none {H : Type} : Left H := { results := [], args := [] }

/-- 'fountainlaw14.RecordTells': WHATEVER THE INPUT: true; the input reads as it did. -/
def recordTellsSpec : ChangeSpec := { name := "recordTells", fn := fun _ => fun
  | [d1, d2] => { results := [.lit (.bool true)], args := [d1, d2] }
  | _ => none }
def recordTellsRow : OpenClaim := { program := "ytjcfmfdkligmoaa", sum := "21f49f2f2affd998f3411aa8beae91deb6d03fe8364dce8701aeab0242d68fab", func := "fountain/fountainlaw14.RecordTells", spec := "recordTells", apart := false }
def RecordTellsSaid : Prop := recordTellsRow.holds Try.pinned (OpenSpec.ofChange recordTellsSpec)

/-- ITS FALSE NEIGHBOUR: 'it returns false'. Refute it at one input. -/
def recordTellsWrong : ChangeSpec := { name := "recordTells", fn := fun _ => fun
  | [d1, d2] => { results := [.lit (.bool false)], args := [d1, d2] }
  | _ => none }
def RecordTellsWrongFalsely : Prop := recordTellsRow.holds Try.pinned (OpenSpec.ofChange recordTellsWrong)

/-- 'fountainlaw14.RecordTorn': WHATEVER THE INPUT: true; the input reads as it did. -/
def recordTornSpec : ChangeSpec := { name := "recordTorn", fn := fun _ => fun
  | [d1, d2] => { results := [.lit (.bool true)], args := [d1, d2] }
  | _ => none }
def recordTornRow : OpenClaim := { program := "ytjcfmfdkligmoaa", sum := "21f49f2f2affd998f3411aa8beae91deb6d03fe8364dce8701aeab0242d68fab", func := "fountain/fountainlaw14.RecordTorn", spec := "recordTorn", apart := false }
def RecordTornSaid : Prop := recordTornRow.holds Try.pinned (OpenSpec.ofChange recordTornSpec)

/-- ITS FALSE NEIGHBOUR: 'it returns false'. Refute it at one input. -/
def recordTornWrong : ChangeSpec := { name := "recordTorn", fn := fun _ => fun
  | [d1, d2] => { results := [.lit (.bool false)], args := [d1, d2] }
  | _ => none }
def RecordTornWrongFalsely : Prop := recordTornRow.holds Try.pinned (OpenSpec.ofChange recordTornWrong)

/-- 'fountainlaw14.RecordLimits': WHATEVER THE INPUT: true; the input reads as it did. -/
def recordLimitsSpec : ChangeSpec := { name := "recordLimits", fn := fun _ => fun
  | [d1, d2] => { results := [.lit (.bool true)], args := [d1, d2] }
  | _ => none }
def recordLimitsRow : OpenClaim := { program := "ytjcfmfdkligmoaa", sum := "21f49f2f2affd998f3411aa8beae91deb6d03fe8364dce8701aeab0242d68fab", func := "fountain/fountainlaw14.RecordLimits", spec := "recordLimits", apart := false }
def RecordLimitsSaid : Prop := recordLimitsRow.holds Try.pinned (OpenSpec.ofChange recordLimitsSpec)

/-- ITS FALSE NEIGHBOUR: 'it returns false'. Refute it at one input. -/
def recordLimitsWrong : ChangeSpec := { name := "recordLimits", fn := fun _ => fun
  | [d1, d2] => { results := [.lit (.bool false)], args := [d1, d2] }
  | _ => none }
def RecordLimitsWrongFalsely : Prop := recordLimitsRow.holds Try.pinned (OpenSpec.ofChange recordLimitsWrong)

/-- 'fountainlaw22.LetterTells': WHATEVER THE INPUT: true; the input reads as it did. -/
def letterTellsSpec : ChangeSpec := { name := "letterTells", fn := fun _ => fun
  | [d1, d2] => { results := [.lit (.bool true)], args := [d1, d2] }
  | _ => none }
def letterTellsRow : OpenClaim := { program := "ytjcfmfdkligmoaa", sum := "21f49f2f2affd998f3411aa8beae91deb6d03fe8364dce8701aeab0242d68fab", func := "fountain/fountainlaw22.LetterTells", spec := "letterTells", unfollowed := true, recurses := true, apart := false }
def LetterTellsSaid : Prop := letterTellsRow.holds Try.pinned (OpenSpec.ofChange letterTellsSpec)

/-- ITS FALSE NEIGHBOUR: 'it returns false'. Refute it at one input. -/
def letterTellsWrong : ChangeSpec := { name := "letterTells", fn := fun _ => fun
  | [d1, d2] => { results := [.lit (.bool false)], args := [d1, d2] }
  | _ => none }
def LetterTellsWrongFalsely : Prop := letterTellsRow.holds Try.pinned (OpenSpec.ofChange letterTellsWrong)

/-- 'fountainlaw22.LetterTorn': WHATEVER THE INPUT: true; the input reads as it did. -/
def letterTornSpec : ChangeSpec := { name := "letterTorn", fn := fun _ => fun
  | [d1, d2] => { results := [.lit (.bool true)], args := [d1, d2] }
  | _ => none }
def letterTornRow : OpenClaim := { program := "ytjcfmfdkligmoaa", sum := "21f49f2f2affd998f3411aa8beae91deb6d03fe8364dce8701aeab0242d68fab", func := "fountain/fountainlaw22.LetterTorn", spec := "letterTorn", unfollowed := true, recurses := true, apart := false }
def LetterTornSaid : Prop := letterTornRow.holds Try.pinned (OpenSpec.ofChange letterTornSpec)

/-- ITS FALSE NEIGHBOUR: 'it returns false'. Refute it at one input. -/
def letterTornWrong : ChangeSpec := { name := "letterTorn", fn := fun _ => fun
  | [d1, d2] => { results := [.lit (.bool false)], args := [d1, d2] }
  | _ => none }
def LetterTornWrongFalsely : Prop := letterTornRow.holds Try.pinned (OpenSpec.ofChange letterTornWrong)

/-- 'fountainlaw22.LetterLimits': WHATEVER THE INPUT: true; the input reads as it did. -/
def letterLimitsSpec : ChangeSpec := { name := "letterLimits", fn := fun _ => fun
  | [d1, d2] => { results := [.lit (.bool true)], args := [d1, d2] }
  | _ => none }
def letterLimitsRow : OpenClaim := { program := "ytjcfmfdkligmoaa", sum := "21f49f2f2affd998f3411aa8beae91deb6d03fe8364dce8701aeab0242d68fab", func := "fountain/fountainlaw22.LetterLimits", spec := "letterLimits", unfollowed := true, recurses := true, apart := false }
def LetterLimitsSaid : Prop := letterLimitsRow.holds Try.pinned (OpenSpec.ofChange letterLimitsSpec)

/-- ITS FALSE NEIGHBOUR: 'it returns false'. Refute it at one input. -/
def letterLimitsWrong : ChangeSpec := { name := "letterLimits", fn := fun _ => fun
  | [d1, d2] => { results := [.lit (.bool false)], args := [d1, d2] }
  | _ => none }
def LetterLimitsWrongFalsely : Prop := letterLimitsRow.holds Try.pinned (OpenSpec.ofChange letterLimitsWrong)

/- THE SECOND FORM. 'bulk': how many values and letters a reading holds, each counted each time it is reached (what is shared counts as often as it is met; a slice's spare places count too). A statement '..UptoSaid' is the law's where the arguments, and the package variables that the reading takes, are together of bulk at most 1048576: NARROWER than '..Said'. Prove '..Said' where nothing that the law and all that it calls make is longer than what came in: it says more and counts as full. Else prove '..UptoSaid'. A law counts once. -/
mutual
def uptoBulk {H : Type} : DataW H → Nat
  | .lit (.string bytes) => bytes.length + 1
  | .lit _ => 1
  | .nil => 1
  | .ptr d => uptoBulk d + 1
  | .slice elems spare => uptoBulkAll elems + uptoBulkAll spare + 1
  | .agg parts => uptoBulkAll parts + 1
  | .iface _ d => uptoBulk d + 1
  | .map entries => uptoBulkEntries entries + 1
  | .held _ => 1
def uptoBulkAll {H : Type} : List (DataW H) → Nat
  | [] => 0
  | d :: r => uptoBulk d + uptoBulkAll r
def uptoBulkEntries {H : Type} : List (Lit × DataW H) → Nat
  | [] => 0
  | x :: r => uptoBulkEntry x + uptoBulkEntries r
def uptoBulkEntry {H : Type} : Lit × DataW H → Nat
  | (.string bytes, d) => bytes.length + uptoBulk d + 1
  | (_, d) => uptoBulk d + 1
 end
def uptoSmall : (H : Type) → List (DataW H) → Bool := fun _ ds => decide (uptoBulkAll ds ≤ 1048576)
def OpenSpec.upto (s : _root_.Go.ChangeSpec) : _root_.Go.OpenSpec := { _root_.Go.OpenSpec.ofChange s with cond := some uptoSmall }

/-- 'fountainlaw14.RecordTells', WHERE WHAT IT READS IS OF BULK AT MOST 1048576: true; the input reads as it did. -/
def recordTellsUptoRow : OpenClaim := { program := "ytjcfmfdkligmoaa", sum := "21f49f2f2affd998f3411aa8beae91deb6d03fe8364dce8701aeab0242d68fab", func := "fountain/fountainlaw14.RecordTells", spec := "recordTells", apart := false, narrowed := true }
def RecordTellsUptoSaid : Prop := recordTellsUptoRow.holds Try.pinned (OpenSpec.upto recordTellsSpec)

/-- 'fountainlaw14.RecordTorn', WHERE WHAT IT READS IS OF BULK AT MOST 1048576: true; the input reads as it did. -/
def recordTornUptoRow : OpenClaim := { program := "ytjcfmfdkligmoaa", sum := "21f49f2f2affd998f3411aa8beae91deb6d03fe8364dce8701aeab0242d68fab", func := "fountain/fountainlaw14.RecordTorn", spec := "recordTorn", apart := false, narrowed := true }
def RecordTornUptoSaid : Prop := recordTornUptoRow.holds Try.pinned (OpenSpec.upto recordTornSpec)

/-- 'fountainlaw14.RecordLimits', WHERE WHAT IT READS IS OF BULK AT MOST 1048576: true; the input reads as it did. -/
def recordLimitsUptoRow : OpenClaim := { program := "ytjcfmfdkligmoaa", sum := "21f49f2f2affd998f3411aa8beae91deb6d03fe8364dce8701aeab0242d68fab", func := "fountain/fountainlaw14.RecordLimits", spec := "recordLimits", apart := false, narrowed := true }
def RecordLimitsUptoSaid : Prop := recordLimitsUptoRow.holds Try.pinned (OpenSpec.upto recordLimitsSpec)

/-- 'fountainlaw22.LetterTells', WHERE WHAT IT READS IS OF BULK AT MOST 1048576: true; the input reads as it did. -/
def letterTellsUptoRow : OpenClaim := { program := "ytjcfmfdkligmoaa", sum := "21f49f2f2affd998f3411aa8beae91deb6d03fe8364dce8701aeab0242d68fab", func := "fountain/fountainlaw22.LetterTells", spec := "letterTells", unfollowed := true, recurses := true, apart := false, narrowed := true }
def LetterTellsUptoSaid : Prop := letterTellsUptoRow.holds Try.pinned (OpenSpec.upto letterTellsSpec)

/-- 'fountainlaw22.LetterTorn', WHERE WHAT IT READS IS OF BULK AT MOST 1048576: true; the input reads as it did. -/
def letterTornUptoRow : OpenClaim := { program := "ytjcfmfdkligmoaa", sum := "21f49f2f2affd998f3411aa8beae91deb6d03fe8364dce8701aeab0242d68fab", func := "fountain/fountainlaw22.LetterTorn", spec := "letterTorn", unfollowed := true, recurses := true, apart := false, narrowed := true }
def LetterTornUptoSaid : Prop := letterTornUptoRow.holds Try.pinned (OpenSpec.upto letterTornSpec)

/-- 'fountainlaw22.LetterLimits', WHERE WHAT IT READS IS OF BULK AT MOST 1048576: true; the input reads as it did. -/
def letterLimitsUptoRow : OpenClaim := { program := "ytjcfmfdkligmoaa", sum := "21f49f2f2affd998f3411aa8beae91deb6d03fe8364dce8701aeab0242d68fab", func := "fountain/fountainlaw22.LetterLimits", spec := "letterLimits", unfollowed := true, recurses := true, apart := false, narrowed := true }
def LetterLimitsUptoSaid : Prop := letterLimitsUptoRow.holds Try.pinned (OpenSpec.upto letterLimitsSpec)

end Rows
end Go.Proofs.Ytjcfmfdkligmoaa
