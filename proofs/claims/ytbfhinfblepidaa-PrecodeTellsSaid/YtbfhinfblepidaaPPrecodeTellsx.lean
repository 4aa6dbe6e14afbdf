/- Written by a program (this session's own): functions that the law reaches, as plain Lean functions, each with the proof that the code comes to it. No conditions but those that stand in the theorems. -/
import Derived.Test.YtbfhinfblepidaaPPrecodeTellsx0
import Derived.Test.YtbfhinfblepidaaPPrecodeTellsx1
import Derived.Test.YtbfhinfblepidaaPPrecodeTellsx2
import Derived.Test.YtbfhinfblepidaaPPrecodeTellsx3
import Derived.Test.YtbfhinfblepidaaPPrecodeTellsx4
import Derived.Test.YtbfhinfblepidaaPPrecodeTellsx5
import Derived.Test.YtbfhinfblepidaaPPrecodeTellsx6
import Derived.Test.YtbfhinfblepidaaPPrecodeTellsx7
import Derived.Test.YtbfhinfblepidaaPPrecodeTellsx8
import Derived.Test.YtbfhinfblepidaaPPrecodeTellsx9
import Derived.Test.YtbfhinfblepidaaPPrecodeTellsx10
namespace Go.Proofs.Ytbfhinfblepidaa.PPrecodeTells
open Go.RowKit Go.Proofs.YtbfhinfblepidaaW.PrintWords Go.Proofs.YtbfhinfblepidaaW.PrintLast Go.Proofs.YtbfhinfblepidaaW.PrintMore
attribute [local go_sem] max2_int min2_int max_two min_two max_three min_three max_four min_four   -- for this text's walks alone
set_option linter.unusedVariables false
set_option linter.unusedSimpArgs false

end Go.Proofs.Ytbfhinfblepidaa.PPrecodeTells
