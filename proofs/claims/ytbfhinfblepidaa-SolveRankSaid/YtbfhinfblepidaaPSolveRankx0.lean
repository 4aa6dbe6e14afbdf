/- Written by a program (this session's own): functions that the law reaches, as plain Lean functions, each with the proof that the code comes to it. No conditions but those that stand in the theorems. -/
import Derived.Test.YtbfhinfblepidaaPSolveTellsx
import Derived.Test.YtbfhinfblepidaaProg
import Derived.Below
import Derived.Deep.Draws
import Derived.Deep.AppendLies
import Derived.Maps.AppendAt
import Derived.OwnWalk
import Derived.Laws.BytesArg
import Derived.Laws.MakeOwn
import Derived.Laws.OwnMore
import Derived.Deep.OwnRows
import Derived.Tactics
import Derived.Lib.ConvBytes
import Derived.Laws.Slices
import Derived.WalkKit
import Derived.KernelRfl
import Derived.RowKit3
import Derived.Deep.LoopGhost
import Derived.Deep.QuietTactic
import Derived.BigQuiet
import Derived.WideLaws
import Derived.Deep.DeepCutAuto
import Derived.Deep.CutBlock
import Derived.Deep.RegionHeld3
import Derived.Laws.Rows
import Derived.Lib.AppendStr
import Derived.ArgAppend
import Derived.Laws.IdiomCopy
import Derived.OrdersHeld
import Derived.Laws.BitsLemmas
import Derived.RowKit
import Derived.Test.YtbfhinfblepidaaWWords
import Derived.Test.YtbfhinfblepidaaWLast
import Derived.Test.YtbfhinfblepidaaWTab
import Derived.Test.YtbfhinfblepidaaWFour
import Derived.Test.YtbfhinfblepidaaWQPut
import Derived.Test.YtbfhinfblepidaaWApart
import Derived.Test.YtbfhinfblepidaaWArr
import Derived.Test.YtbfhinfblepidaaWZeros
import Derived.Test.YtbfhinfblepidaaWFoot
import Derived.Test.YtbfhinfblepidaaWKept
import Derived.Test.YtbfhinfblepidaaWShare
import Derived.Test.YtbfhinfblepidaaWN
import Derived.Test.YtbfhinfblepidaaWFootNe
import Derived.Test.YtbfhinfblepidaaWAt
import Derived.Test.YtbfhinfblepidaaWEqStruct
import Derived.Test.YtbfhinfblepidaaWRepsOne
import Derived.Test.YtbfhinfblepidaaWInv
import Derived.Test.YtbfhinfblepidaaWInvWords
import Derived.Test.YtbfhinfblepidaaWGuard
import Derived.Test.YtbfhinfblepidaaWNEv
import Derived.Test.YtbfhinfblepidaaWMore
namespace Go.Proofs.Ytbfhinfblepidaa.PSolveRank
open Go.RowKit Go.Proofs.YtbfhinfblepidaaW.PrintWords Go.Proofs.YtbfhinfblepidaaW.PrintLast Go.Proofs.YtbfhinfblepidaaW.PrintMore Go.Proofs.Ytbfhinfblepidaa.PSolveTells
attribute [local go_sem] max2_int min2_int max_two min_two max_three min_three max_four min_four   -- for this text's walks alone
set_option linter.unusedVariables false
set_option linter.unusedSimpArgs false



-- the values' own types

end Go.Proofs.Ytbfhinfblepidaa.PSolveRank
