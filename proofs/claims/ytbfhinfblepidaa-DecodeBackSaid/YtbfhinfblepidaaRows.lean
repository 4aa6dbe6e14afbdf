/-
  No cell of these rows narrows 'for every input' (looked for: loops, veiled, ifaces, maps, wideKeys, modest, calm, conditions, laid).
  DERIVED. THE GIVEN ROWS OF THIS SEAT. 15 by the template 'for every input the law returns true; each argument reads behind the call as it read before'; 0 by the template 'total and deterministic' (their statements: YtbfhinfblepidaaTotals.lean).
  GIVEN WITH THE SEED: the statements are not yours to turn. If you find one false, say at which input.
  Laid BY PROGRAM, IN A SANDBOX (cutbox-rows.mjs): the forced cells as the released guide's own fill.sh prints them over the translation 775fc7fcf2b8fcc8… (all of the seat's roots in one cut). By AI agents, Wed Nov 11 2026. No macro, syntax, notation, axiom, sorry.
-/
import Derived.Test.YtbfhinfblepidaaChecked
import GoSem.Claim
import GoSem.ClaimJoined
import GoSem.ClaimMapViews
import Derived.JoinedTies
import Derived.KernelRfl
namespace Go.Proofs.Ytbfhinfblepidaa
/- THE CELL 'sum', in the pinned program and in every row, IS THE sha256 OF THE DUMP (.gsa) THAT YtbfhinfblepidaaProg.lean LOADS. Nothing in Lean hashes anything: it is a label: what it is worth is what the hold of that sum in a sandbox is worth. -/
noncomputable def Try.pinned : Pinned := { name := "ytbfhinfblepidaa", sum := "775fc7fcf2b8fcc897d8a59abdc6ba90d4d8ef508024f514a54d653f9e8c5329", checked := Try.checked }
namespace Rows
def none {H : Type} : Left H := { results := [], args := [] }

/-- 'fountainlaw7.PrecodeOnes': WHATEVER THE INPUT: true; the input reads as it did. -/
def precodeOnesSpec : ChangeSpec := { name := "precodeOnes", fn := fun _ => fun
  | [d] => { results := [.lit (.bool true)], args := [d] }
  | _ => none }
def precodeOnesRow : OpenClaim := { program := "ytbfhinfblepidaa", sum := "775fc7fcf2b8fcc897d8a59abdc6ba90d4d8ef508024f514a54d653f9e8c5329", func := "fountain/fountainlaw7.PrecodeOnes", spec := "precodeOnes", apart := false }
def PrecodeOnesSaid : Prop := precodeOnesRow.holds Try.pinned (OpenSpec.ofChange precodeOnesSpec)

/-- ITS FALSE NEIGHBOUR: 'it returns false'. Refute it at one input. -/
def precodeOnesWrong : ChangeSpec := { name := "precodeOnes", fn := fun _ => fun
  | [d] => { results := [.lit (.bool false)], args := [d] }
  | _ => none }
def PrecodeOnesWrongFalsely : Prop := precodeOnesRow.holds Try.pinned (OpenSpec.ofChange precodeOnesWrong)

/-- 'fountainlaw3.SolveTells': WHATEVER THE INPUT: true; the input reads as it did. -/
def solveTellsSpec : ChangeSpec := { name := "solveTells", fn := fun _ => fun
  | [d1, d2, d3, d4] => { results := [.lit (.bool true)], args := [d1, d2, d3, d4] }
  | _ => none }
def solveTellsRow : OpenClaim := { program := "ytbfhinfblepidaa", sum := "775fc7fcf2b8fcc897d8a59abdc6ba90d4d8ef508024f514a54d653f9e8c5329", func := "fountain/fountainlaw3.SolveTells", spec := "solveTells", unfollowed := true, recurses := true, apart := false }
def SolveTellsSaid : Prop := solveTellsRow.holds Try.pinned (OpenSpec.ofChange solveTellsSpec)

/-- ITS FALSE NEIGHBOUR: 'it returns false'. Refute it at one input. -/
def solveTellsWrong : ChangeSpec := { name := "solveTells", fn := fun _ => fun
  | [d1, d2, d3, d4] => { results := [.lit (.bool false)], args := [d1, d2, d3, d4] }
  | _ => none }
def SolveTellsWrongFalsely : Prop := solveTellsRow.holds Try.pinned (OpenSpec.ofChange solveTellsWrong)

/-- 'fountainlaw3.SolveBack': WHATEVER THE INPUT: true; the input reads as it did. -/
def solveBackSpec : ChangeSpec := { name := "solveBack", fn := fun _ => fun
  | [d1, d2, d3] => { results := [.lit (.bool true)], args := [d1, d2, d3] }
  | _ => none }
def solveBackRow : OpenClaim := { program := "ytbfhinfblepidaa", sum := "775fc7fcf2b8fcc897d8a59abdc6ba90d4d8ef508024f514a54d653f9e8c5329", func := "fountain/fountainlaw3.SolveBack", spec := "solveBack", unfollowed := true, recurses := true, apart := false }
def SolveBackSaid : Prop := solveBackRow.holds Try.pinned (OpenSpec.ofChange solveBackSpec)

/-- ITS FALSE NEIGHBOUR: 'it returns false'. Refute it at one input. -/
def solveBackWrong : ChangeSpec := { name := "solveBack", fn := fun _ => fun
  | [d1, d2, d3] => { results := [.lit (.bool false)], args := [d1, d2, d3] }
  | _ => none }
def SolveBackWrongFalsely : Prop := solveBackRow.holds Try.pinned (OpenSpec.ofChange solveBackWrong)

/-- 'fountainlaw3.SolveRank': WHATEVER THE INPUT: true; the input reads as it did. -/
def solveRankSpec : ChangeSpec := { name := "solveRank", fn := fun _ => fun
  | [d1, d2, d3, d4] => { results := [.lit (.bool true)], args := [d1, d2, d3, d4] }
  | _ => none }
def solveRankRow : OpenClaim := { program := "ytbfhinfblepidaa", sum := "775fc7fcf2b8fcc897d8a59abdc6ba90d4d8ef508024f514a54d653f9e8c5329", func := "fountain/fountainlaw3.SolveRank", spec := "solveRank", unfollowed := true, recurses := true, apart := false }
def SolveRankSaid : Prop := solveRankRow.holds Try.pinned (OpenSpec.ofChange solveRankSpec)

/-- ITS FALSE NEIGHBOUR: 'it returns false'. Refute it at one input. -/
def solveRankWrong : ChangeSpec := { name := "solveRank", fn := fun _ => fun
  | [d1, d2, d3, d4] => { results := [.lit (.bool false)], args := [d1, d2, d3, d4] }
  | _ => none }
def SolveRankWrongFalsely : Prop := solveRankRow.holds Try.pinned (OpenSpec.ofChange solveRankWrong)

/-- 'fountainlaw7.PrecodeTells': WHATEVER THE INPUT: true; the input reads as it did. -/
def precodeTellsSpec : ChangeSpec := { name := "precodeTells", fn := fun _ => fun
  | [d1, d2, d3] => { results := [.lit (.bool true)], args := [d1, d2, d3] }
  | _ => none }
def precodeTellsRow : OpenClaim := { program := "ytbfhinfblepidaa", sum := "775fc7fcf2b8fcc897d8a59abdc6ba90d4d8ef508024f514a54d653f9e8c5329", func := "fountain/fountainlaw7.PrecodeTells", spec := "precodeTells", apart := false }
def PrecodeTellsSaid : Prop := precodeTellsRow.holds Try.pinned (OpenSpec.ofChange precodeTellsSpec)

/-- ITS FALSE NEIGHBOUR: 'it returns false'. Refute it at one input. -/
def precodeTellsWrong : ChangeSpec := { name := "precodeTells", fn := fun _ => fun
  | [d1, d2, d3] => { results := [.lit (.bool false)], args := [d1, d2, d3] }
  | _ => none }
def PrecodeTellsWrongFalsely : Prop := precodeTellsRow.holds Try.pinned (OpenSpec.ofChange precodeTellsWrong)

/-- 'fountainlaw7.PrecodeShape': WHATEVER THE INPUT: true; the input reads as it did. -/
def precodeShapeSpec : ChangeSpec := { name := "precodeShape", fn := fun _ => fun
  | [d1, d2, d3, d4] => { results := [.lit (.bool true)], args := [d1, d2, d3, d4] }
  | _ => none }
def precodeShapeRow : OpenClaim := { program := "ytbfhinfblepidaa", sum := "775fc7fcf2b8fcc897d8a59abdc6ba90d4d8ef508024f514a54d653f9e8c5329", func := "fountain/fountainlaw7.PrecodeShape", spec := "precodeShape", apart := false }
def PrecodeShapeSaid : Prop := precodeShapeRow.holds Try.pinned (OpenSpec.ofChange precodeShapeSpec)

/-- ITS FALSE NEIGHBOUR: 'it returns false'. Refute it at one input. -/
def precodeShapeWrong : ChangeSpec := { name := "precodeShape", fn := fun _ => fun
  | [d1, d2, d3, d4] => { results := [.lit (.bool false)], args := [d1, d2, d3, d4] }
  | _ => none }
def PrecodeShapeWrongFalsely : Prop := precodeShapeRow.holds Try.pinned (OpenSpec.ofChange precodeShapeWrong)

/-- 'fountainlaw9.SeedTells': WHATEVER THE INPUT: true; the input reads as it did. -/
def seedTellsSpec : ChangeSpec := { name := "seedTells", fn := fun _ => fun
  | [d] => { results := [.lit (.bool true)], args := [d] }
  | _ => none }
def seedTellsRow : OpenClaim := { program := "ytbfhinfblepidaa", sum := "775fc7fcf2b8fcc897d8a59abdc6ba90d4d8ef508024f514a54d653f9e8c5329", func := "fountain/fountainlaw9.SeedTells", spec := "seedTells", unfollowed := true, recurses := true, apart := false }
def SeedTellsSaid : Prop := seedTellsRow.holds Try.pinned (OpenSpec.ofChange seedTellsSpec)

/-- ITS FALSE NEIGHBOUR: 'it returns false'. Refute it at one input. -/
def seedTellsWrong : ChangeSpec := { name := "seedTells", fn := fun _ => fun
  | [d] => { results := [.lit (.bool false)], args := [d] }
  | _ => none }
def SeedTellsWrongFalsely : Prop := seedTellsRow.holds Try.pinned (OpenSpec.ofChange seedTellsWrong)

/-- 'fountainlaw9.SeedLeast': WHATEVER THE INPUT: true; the input reads as it did. -/
def seedLeastSpec : ChangeSpec := { name := "seedLeast", fn := fun _ => fun
  | [d1, d2] => { results := [.lit (.bool true)], args := [d1, d2] }
  | _ => none }
def seedLeastRow : OpenClaim := { program := "ytbfhinfblepidaa", sum := "775fc7fcf2b8fcc897d8a59abdc6ba90d4d8ef508024f514a54d653f9e8c5329", func := "fountain/fountainlaw9.SeedLeast", spec := "seedLeast", unfollowed := true, recurses := true, apart := false }
def SeedLeastSaid : Prop := seedLeastRow.holds Try.pinned (OpenSpec.ofChange seedLeastSpec)

/-- ITS FALSE NEIGHBOUR: 'it returns false'. Refute it at one input. -/
def seedLeastWrong : ChangeSpec := { name := "seedLeast", fn := fun _ => fun
  | [d1, d2] => { results := [.lit (.bool false)], args := [d1, d2] }
  | _ => none }
def SeedLeastWrongFalsely : Prop := seedLeastRow.holds Try.pinned (OpenSpec.ofChange seedLeastWrong)

/-- 'fountainlaw10.BlockTells': WHATEVER THE INPUT: true; the input reads as it did. -/
def blockTellsSpec : ChangeSpec := { name := "blockTells", fn := fun _ => fun
  | [d1, d2, d3] => { results := [.lit (.bool true)], args := [d1, d2, d3] }
  | _ => none }
def blockTellsRow : OpenClaim := { program := "ytbfhinfblepidaa", sum := "775fc7fcf2b8fcc897d8a59abdc6ba90d4d8ef508024f514a54d653f9e8c5329", func := "fountain/fountainlaw10.BlockTells", spec := "blockTells", unfollowed := true, recurses := true, apart := false }
def BlockTellsSaid : Prop := blockTellsRow.holds Try.pinned (OpenSpec.ofChange blockTellsSpec)

/-- ITS FALSE NEIGHBOUR: 'it returns false'. Refute it at one input. -/
def blockTellsWrong : ChangeSpec := { name := "blockTells", fn := fun _ => fun
  | [d1, d2, d3] => { results := [.lit (.bool false)], args := [d1, d2, d3] }
  | _ => none }
def BlockTellsWrongFalsely : Prop := blockTellsRow.holds Try.pinned (OpenSpec.ofChange blockTellsWrong)

/-- 'fountainlaw10.BlockSource': WHATEVER THE INPUT: true; the input reads as it did. -/
def blockSourceSpec : ChangeSpec := { name := "blockSource", fn := fun _ => fun
  | [d] => { results := [.lit (.bool true)], args := [d] }
  | _ => none }
def blockSourceRow : OpenClaim := { program := "ytbfhinfblepidaa", sum := "775fc7fcf2b8fcc897d8a59abdc6ba90d4d8ef508024f514a54d653f9e8c5329", func := "fountain/fountainlaw10.BlockSource", spec := "blockSource", unfollowed := true, recurses := true, apart := false }
def BlockSourceSaid : Prop := blockSourceRow.holds Try.pinned (OpenSpec.ofChange blockSourceSpec)

/-- ITS FALSE NEIGHBOUR: 'it returns false'. Refute it at one input. -/
def blockSourceWrong : ChangeSpec := { name := "blockSource", fn := fun _ => fun
  | [d] => { results := [.lit (.bool false)], args := [d] }
  | _ => none }
def BlockSourceWrongFalsely : Prop := blockSourceRow.holds Try.pinned (OpenSpec.ofChange blockSourceWrong)

/-- 'fountainlaw10.BlockSums': WHATEVER THE INPUT: true; the input reads as it did. -/
def blockSumsSpec : ChangeSpec := { name := "blockSums", fn := fun _ => fun
  | [d1, d2, d3] => { results := [.lit (.bool true)], args := [d1, d2, d3] }
  | _ => none }
def blockSumsRow : OpenClaim := { program := "ytbfhinfblepidaa", sum := "775fc7fcf2b8fcc897d8a59abdc6ba90d4d8ef508024f514a54d653f9e8c5329", func := "fountain/fountainlaw10.BlockSums", spec := "blockSums", unfollowed := true, recurses := true, apart := false }
def BlockSumsSaid : Prop := blockSumsRow.holds Try.pinned (OpenSpec.ofChange blockSumsSpec)

/-- ITS FALSE NEIGHBOUR: 'it returns false'. Refute it at one input. -/
def blockSumsWrong : ChangeSpec := { name := "blockSums", fn := fun _ => fun
  | [d1, d2, d3] => { results := [.lit (.bool false)], args := [d1, d2, d3] }
  | _ => none }
def BlockSumsWrongFalsely : Prop := blockSumsRow.holds Try.pinned (OpenSpec.ofChange blockSumsWrong)

/-- 'fountainlaw11.DecodeTells': WHATEVER THE INPUT: true; the input reads as it did. -/
def decodeTellsSpec : ChangeSpec := { name := "decodeTells", fn := fun _ => fun
  | [d1, d2, d3, d4] => { results := [.lit (.bool true)], args := [d1, d2, d3, d4] }
  | _ => none }
def decodeTellsRow : OpenClaim := { program := "ytbfhinfblepidaa", sum := "775fc7fcf2b8fcc897d8a59abdc6ba90d4d8ef508024f514a54d653f9e8c5329", func := "fountain/fountainlaw11.DecodeTells", spec := "decodeTells", unfollowed := true, recurses := true, apart := false }
def DecodeTellsSaid : Prop := decodeTellsRow.holds Try.pinned (OpenSpec.ofChange decodeTellsSpec)

/-- ITS FALSE NEIGHBOUR: 'it returns false'. Refute it at one input. -/
def decodeTellsWrong : ChangeSpec := { name := "decodeTells", fn := fun _ => fun
  | [d1, d2, d3, d4] => { results := [.lit (.bool false)], args := [d1, d2, d3, d4] }
  | _ => none }
def DecodeTellsWrongFalsely : Prop := decodeTellsRow.holds Try.pinned (OpenSpec.ofChange decodeTellsWrong)

/-- 'fountainlaw11.DecodeBack': WHATEVER THE INPUT: true; the input reads as it did. -/
def decodeBackSpec : ChangeSpec := { name := "decodeBack", fn := fun _ => fun
  | [d1, d2] => { results := [.lit (.bool true)], args := [d1, d2] }
  | _ => none }
def decodeBackRow : OpenClaim := { program := "ytbfhinfblepidaa", sum := "775fc7fcf2b8fcc897d8a59abdc6ba90d4d8ef508024f514a54d653f9e8c5329", func := "fountain/fountainlaw11.DecodeBack", spec := "decodeBack", unfollowed := true, recurses := true, apart := false }
def DecodeBackSaid : Prop := decodeBackRow.holds Try.pinned (OpenSpec.ofChange decodeBackSpec)

/-- ITS FALSE NEIGHBOUR: 'it returns false'. Refute it at one input. -/
def decodeBackWrong : ChangeSpec := { name := "decodeBack", fn := fun _ => fun
  | [d1, d2] => { results := [.lit (.bool false)], args := [d1, d2] }
  | _ => none }
def DecodeBackWrongFalsely : Prop := decodeBackRow.holds Try.pinned (OpenSpec.ofChange decodeBackWrong)

/-- 'fountainlaw11.DecodeSource': WHATEVER THE INPUT: true; the input reads as it did. -/
def decodeSourceSpec : ChangeSpec := { name := "decodeSource", fn := fun _ => fun
  | [d1, d2] => { results := [.lit (.bool true)], args := [d1, d2] }
  | _ => none }
def decodeSourceRow : OpenClaim := { program := "ytbfhinfblepidaa", sum := "775fc7fcf2b8fcc897d8a59abdc6ba90d4d8ef508024f514a54d653f9e8c5329", func := "fountain/fountainlaw11.DecodeSource", spec := "decodeSource", unfollowed := true, recurses := true, apart := false }
def DecodeSourceSaid : Prop := decodeSourceRow.holds Try.pinned (OpenSpec.ofChange decodeSourceSpec)

/-- ITS FALSE NEIGHBOUR: 'it returns false'. Refute it at one input. -/
def decodeSourceWrong : ChangeSpec := { name := "decodeSource", fn := fun _ => fun
  | [d1, d2] => { results := [.lit (.bool false)], args := [d1, d2] }
  | _ => none }
def DecodeSourceWrongFalsely : Prop := decodeSourceRow.holds Try.pinned (OpenSpec.ofChange decodeSourceWrong)

/-- 'fountainlaw11.DecodeTwice': WHATEVER THE INPUT: true; the input reads as it did. -/
def decodeTwiceSpec : ChangeSpec := { name := "decodeTwice", fn := fun _ => fun
  | [d1, d2, d3] => { results := [.lit (.bool true)], args := [d1, d2, d3] }
  | _ => none }
def decodeTwiceRow : OpenClaim := { program := "ytbfhinfblepidaa", sum := "775fc7fcf2b8fcc897d8a59abdc6ba90d4d8ef508024f514a54d653f9e8c5329", func := "fountain/fountainlaw11.DecodeTwice", spec := "decodeTwice", unfollowed := true, recurses := true, apart := false }
def DecodeTwiceSaid : Prop := decodeTwiceRow.holds Try.pinned (OpenSpec.ofChange decodeTwiceSpec)

/-- ITS FALSE NEIGHBOUR: 'it returns false'. Refute it at one input. -/
def decodeTwiceWrong : ChangeSpec := { name := "decodeTwice", fn := fun _ => fun
  | [d1, d2, d3] => { results := [.lit (.bool false)], args := [d1, d2, d3] }
  | _ => none }
def DecodeTwiceWrongFalsely : Prop := decodeTwiceRow.holds Try.pinned (OpenSpec.ofChange decodeTwiceWrong)

/- THE SECOND FORM. 'bulk': how many values and letters a reading holds, each counted each time it is reached (what is shared counts as often as it is met; a slice's spare places count too). A statement '..UptoSaid' is the law's where the arguments, and the package variables that the reading takes, are together of bulk at most 1048576: NARROWER than '..Said'. Prove '..Said' where nothing that the law and all that it calls make is longer than what came in: it says more and counts as full. Else prove '..UptoSaid'. A law counts once. -/
mutual
def uptoBulk {H : Type} : DataW H → Nat
  | .lit (.string bytes) => bytes.length + 1
  | .lit _ => 1
  | .nil => 1
  | .ptr d => uptoBulk d + 1
  | .slice elems spare => uptoBulkAll elems + uptoBulkAll spare + 1
  | .agg parts => uptoBulkAll parts + 1
  | .iface _ d => uptoBulk d + 1
  | .map entries => uptoBulkEntries entries + 1
  | .held _ => 1
def uptoBulkAll {H : Type} : List (DataW H) → Nat
  | [] => 0
  | d :: r => uptoBulk d + uptoBulkAll r
def uptoBulkEntries {H : Type} : List (Lit × DataW H) → Nat
  | [] => 0
  | x :: r => uptoBulkEntry x + uptoBulkEntries r
def uptoBulkEntry {H : Type} : Lit × DataW H → Nat
  | (.string bytes, d) => bytes.length + uptoBulk d + 1
  | (_, d) => uptoBulk d + 1
 end
def uptoSmall : (H : Type) → List (DataW H) → Bool := fun _ ds => decide (uptoBulkAll ds ≤ 1048576)
def OpenSpec.upto (s : _root_.Go.ChangeSpec) : _root_.Go.OpenSpec := { _root_.Go.OpenSpec.ofChange s with cond := some uptoSmall }

/-- 'fountainlaw7.PrecodeOnes', WHERE WHAT IT READS IS OF BULK AT MOST 1048576: true; the input reads as it did. -/
def precodeOnesUptoRow : OpenClaim := { program := "ytbfhinfblepidaa", sum := "775fc7fcf2b8fcc897d8a59abdc6ba90d4d8ef508024f514a54d653f9e8c5329", func := "fountain/fountainlaw7.PrecodeOnes", spec := "precodeOnes", apart := false, narrowed := true }
def PrecodeOnesUptoSaid : Prop := precodeOnesUptoRow.holds Try.pinned (OpenSpec.upto precodeOnesSpec)

/-- 'fountainlaw3.SolveTells', WHERE WHAT IT READS IS OF BULK AT MOST 1048576: true; the input reads as it did. -/
def solveTellsUptoRow : OpenClaim := { program := "ytbfhinfblepidaa", sum := "775fc7fcf2b8fcc897d8a59abdc6ba90d4d8ef508024f514a54d653f9e8c5329", func := "fountain/fountainlaw3.SolveTells", spec := "solveTells", unfollowed := true, recurses := true, apart := false, narrowed := true }
def SolveTellsUptoSaid : Prop := solveTellsUptoRow.holds Try.pinned (OpenSpec.upto solveTellsSpec)

/-- 'fountainlaw3.SolveBack', WHERE WHAT IT READS IS OF BULK AT MOST 1048576: true; the input reads as it did. -/
def solveBackUptoRow : OpenClaim := { program := "ytbfhinfblepidaa", sum := "775fc7fcf2b8fcc897d8a59abdc6ba90d4d8ef508024f514a54d653f9e8c5329", func := "fountain/fountainlaw3.SolveBack", spec := "solveBack", unfollowed := true, recurses := true, apart := false, narrowed := true }
def SolveBackUptoSaid : Prop := solveBackUptoRow.holds Try.pinned (OpenSpec.upto solveBackSpec)

/-- 'fountainlaw3.SolveRank', WHERE WHAT IT READS IS OF BULK AT MOST 1048576: true; the input reads as it did. -/
def solveRankUptoRow : OpenClaim := { program := "ytbfhinfblepidaa", sum := "775fc7fcf2b8fcc897d8a59abdc6ba90d4d8ef508024f514a54d653f9e8c5329", func := "fountain/fountainlaw3.SolveRank", spec := "solveRank", unfollowed := true, recurses := true, apart := false, narrowed := true }
def SolveRankUptoSaid : Prop := solveRankUptoRow.holds Try.pinned (OpenSpec.upto solveRankSpec)

/-- 'fountainlaw7.PrecodeTells', WHERE WHAT IT READS IS OF BULK AT MOST 1048576: true; the input reads as it did. -/
def precodeTellsUptoRow : OpenClaim := { program := "ytbfhinfblepidaa", sum := "775fc7fcf2b8fcc897d8a59abdc6ba90d4d8ef508024f514a54d653f9e8c5329", func := "fountain/fountainlaw7.PrecodeTells", spec := "precodeTells", apart := false, narrowed := true }
def PrecodeTellsUptoSaid : Prop := precodeTellsUptoRow.holds Try.pinned (OpenSpec.upto precodeTellsSpec)

/-- 'fountainlaw7.PrecodeShape', WHERE WHAT IT READS IS OF BULK AT MOST 1048576: true; the input reads as it did. -/
def precodeShapeUptoRow : OpenClaim := { program := "ytbfhinfblepidaa", sum := "775fc7fcf2b8fcc897d8a59abdc6ba90d4d8ef508024f514a54d653f9e8c5329", func := "fountain/fountainlaw7.PrecodeShape", spec := "precodeShape", apart := false, narrowed := true }
def PrecodeShapeUptoSaid : Prop := precodeShapeUptoRow.holds Try.pinned (OpenSpec.upto precodeShapeSpec)

/-- 'fountainlaw9.SeedTells', WHERE WHAT IT READS IS OF BULK AT MOST 1048576: true; the input reads as it did. -/
def seedTellsUptoRow : OpenClaim := { program := "ytbfhinfblepidaa", sum := "775fc7fcf2b8fcc897d8a59abdc6ba90d4d8ef508024f514a54d653f9e8c5329", func := "fountain/fountainlaw9.SeedTells", spec := "seedTells", unfollowed := true, recurses := true, apart := false, narrowed := true }
def SeedTellsUptoSaid : Prop := seedTellsUptoRow.holds Try.pinned (OpenSpec.upto seedTellsSpec)

/-- 'fountainlaw9.SeedLeast', WHERE WHAT IT READS IS OF BULK AT MOST 1048576: true; the input reads as it did. -/
def seedLeastUptoRow : OpenClaim := { program := "ytbfhinfblepidaa", sum := "775fc7fcf2b8fcc897d8a59abdc6ba90d4d8ef508024f514a54d653f9e8c5329", func := "fountain/fountainlaw9.SeedLeast", spec := "seedLeast", unfollowed := true, recurses := true, apart := false, narrowed := true }
def SeedLeastUptoSaid : Prop := seedLeastUptoRow.holds Try.pinned (OpenSpec.upto seedLeastSpec)

/-- 'fountainlaw10.BlockTells', WHERE WHAT IT READS IS OF BULK AT MOST 1048576: true; the input reads as it did. -/
def blockTellsUptoRow : OpenClaim := { program := "ytbfhinfblepidaa", sum := "775fc7fcf2b8fcc897d8a59abdc6ba90d4d8ef508024f514a54d653f9e8c5329", func := "fountain/fountainlaw10.BlockTells", spec := "blockTells", unfollowed := true, recurses := true, apart := false, narrowed := true }
def BlockTellsUptoSaid : Prop := blockTellsUptoRow.holds Try.pinned (OpenSpec.upto blockTellsSpec)

/-- 'fountainlaw10.BlockSource', WHERE WHAT IT READS IS OF BULK AT MOST 1048576: true; the input reads as it did. -/
def blockSourceUptoRow : OpenClaim := { program := "ytbfhinfblepidaa", sum := "775fc7fcf2b8fcc897d8a59abdc6ba90d4d8ef508024f514a54d653f9e8c5329", func := "fountain/fountainlaw10.BlockSource", spec := "blockSource", unfollowed := true, recurses := true, apart := false, narrowed := true }
def BlockSourceUptoSaid : Prop := blockSourceUptoRow.holds Try.pinned (OpenSpec.upto blockSourceSpec)

/-- 'fountainlaw10.BlockSums', WHERE WHAT IT READS IS OF BULK AT MOST 1048576: true; the input reads as it did. -/
def blockSumsUptoRow : OpenClaim := { program := "ytbfhinfblepidaa", sum := "775fc7fcf2b8fcc897d8a59abdc6ba90d4d8ef508024f514a54d653f9e8c5329", func := "fountain/fountainlaw10.BlockSums", spec := "blockSums", unfollowed := true, recurses := true, apart := false, narrowed := true }
def BlockSumsUptoSaid : Prop := blockSumsUptoRow.holds Try.pinned (OpenSpec.upto blockSumsSpec)

/-- 'fountainlaw11.DecodeTells', WHERE WHAT IT READS IS OF BULK AT MOST 1048576: true; the input reads as it did. -/
def decodeTellsUptoRow : OpenClaim := { program := "ytbfhinfblepidaa", sum := "775fc7fcf2b8fcc897d8a59abdc6ba90d4d8ef508024f514a54d653f9e8c5329", func := "fountain/fountainlaw11.DecodeTells", spec := "decodeTells", unfollowed := true, recurses := true, apart := false, narrowed := true }
def DecodeTellsUptoSaid : Prop := decodeTellsUptoRow.holds Try.pinned (OpenSpec.upto decodeTellsSpec)

/-- 'fountainlaw11.DecodeBack', WHERE WHAT IT READS IS OF BULK AT MOST 1048576: true; the input reads as it did. -/
def decodeBackUptoRow : OpenClaim := { program := "ytbfhinfblepidaa", sum := "775fc7fcf2b8fcc897d8a59abdc6ba90d4d8ef508024f514a54d653f9e8c5329", func := "fountain/fountainlaw11.DecodeBack", spec := "decodeBack", unfollowed := true, recurses := true, apart := false, narrowed := true }
def DecodeBackUptoSaid : Prop := decodeBackUptoRow.holds Try.pinned (OpenSpec.upto decodeBackSpec)

/-- 'fountainlaw11.DecodeSource', WHERE WHAT IT READS IS OF BULK AT MOST 1048576: true; the input reads as it did. -/
def decodeSourceUptoRow : OpenClaim := { program := "ytbfhinfblepidaa", sum := "775fc7fcf2b8fcc897d8a59abdc6ba90d4d8ef508024f514a54d653f9e8c5329", func := "fountain/fountainlaw11.DecodeSource", spec := "decodeSource", unfollowed := true, recurses := true, apart := false, narrowed := true }
def DecodeSourceUptoSaid : Prop := decodeSourceUptoRow.holds Try.pinned (OpenSpec.upto decodeSourceSpec)

/-- 'fountainlaw11.DecodeTwice', WHERE WHAT IT READS IS OF BULK AT MOST 1048576: true; the input reads as it did. -/
def decodeTwiceUptoRow : OpenClaim := { program := "ytbfhinfblepidaa", sum := "775fc7fcf2b8fcc897d8a59abdc6ba90d4d8ef508024f514a54d653f9e8c5329", func := "fountain/fountainlaw11.DecodeTwice", spec := "decodeTwice", unfollowed := true, recurses := true, apart := false, narrowed := true }
def DecodeTwiceUptoSaid : Prop := decodeTwiceUptoRow.holds Try.pinned (OpenSpec.upto decodeTwiceSpec)

end Rows
end Go.Proofs.Ytbfhinfblepidaa
