/- Written by a program (this session's own): functions that the law reaches, as plain Lean functions, each with the proof that the code comes to it. No conditions but those that stand in the theorems. -/
import Derived.Test.YtbfhinfblepidaaPSolveTellsx0
import Derived.Test.YtbfhinfblepidaaPSolveTellsx1
import Derived.Test.YtbfhinfblepidaaPSolveTellsx2
import Derived.Test.YtbfhinfblepidaaPSolveTellsx3
import Derived.Test.YtbfhinfblepidaaPSolveTellsx4
namespace Go.Proofs.Ytbfhinfblepidaa.PSolveTells
open Go.RowKit Go.Proofs.YtbfhinfblepidaaW.PrintWords Go.Proofs.YtbfhinfblepidaaW.PrintLast Go.Proofs.YtbfhinfblepidaaW.PrintMore
attribute [local go_sem] max2_int min2_int max_two min_two max_three min_three max_four min_four   -- for this text's walks alone
set_option linter.unusedVariables false
set_option linter.unusedSimpArgs false

end Go.Proofs.Ytbfhinfblepidaa.PSolveTells
