/- Written by a program (this session's own): functions that the law reaches, as plain Lean functions, each with the proof that the code comes to it. No conditions but those that stand in the theorems. -/
import Derived.Test.YtinplhdjgjijiaaPSplitTellsx0
import Derived.Test.YtinplhdjgjijiaaPSplitTellsx1
import Derived.Test.YtinplhdjgjijiaaPSplitTellsx2
import Derived.Test.YtinplhdjgjijiaaPSplitTellsx3
import Derived.Test.YtinplhdjgjijiaaPSplitTellsx4
import Derived.Test.YtinplhdjgjijiaaPSplitTellsx5
import Derived.Test.YtinplhdjgjijiaaPSplitTellsx6
import Derived.Test.YtinplhdjgjijiaaPSplitTellsx7
import Derived.Test.YtinplhdjgjijiaaPSplitTellsx8
import Derived.Test.YtinplhdjgjijiaaPSplitTellsx9
namespace Go.Proofs.Ytinplhdjgjijiaa.PSplitTells
open Go.RowKit Go.Proofs.YtinplhdjgjijiaaW.PrintWords Go.Proofs.YtinplhdjgjijiaaW.PrintLast Go.Proofs.YtinplhdjgjijiaaW.PrintMore
attribute [local go_sem] max2_int min2_int max_two min_two max_three min_three max_four min_four   -- for this text's walks alone
set_option linter.unusedVariables false
set_option linter.unusedSimpArgs false

end Go.Proofs.Ytinplhdjgjijiaa.PSplitTells
