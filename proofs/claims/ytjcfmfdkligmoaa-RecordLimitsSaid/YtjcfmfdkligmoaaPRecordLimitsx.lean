/- Written by a program (this session's own): functions that the law reaches, as plain Lean functions, each with the proof that the code comes to it. No conditions but those that stand in the theorems. -/
import Derived.Test.YtjcfmfdkligmoaaPRecordLimitsx0
import Derived.Test.YtjcfmfdkligmoaaPRecordLimitsx1
import Derived.Test.YtjcfmfdkligmoaaPRecordLimitsx2
import Derived.Test.YtjcfmfdkligmoaaPRecordLimitsx3
import Derived.Test.YtjcfmfdkligmoaaPRecordLimitsx4
import Derived.Test.YtjcfmfdkligmoaaPRecordLimitsx5
import Derived.Test.YtjcfmfdkligmoaaPRecordLimitsx6
import Derived.Test.YtjcfmfdkligmoaaPRecordLimitsx7
import Derived.Test.YtjcfmfdkligmoaaPRecordLimitsx8
namespace Go.Proofs.Ytjcfmfdkligmoaa.PRecordLimits
open Go.RowKit Go.Proofs.YtjcfmfdkligmoaaW.PrintWords Go.Proofs.YtjcfmfdkligmoaaW.PrintLast Go.Proofs.YtjcfmfdkligmoaaW.PrintMore
attribute [local go_sem] max2_int min2_int max_two min_two max_three min_three max_four min_four   -- for this text's walks alone
set_option linter.unusedVariables false
set_option linter.unusedSimpArgs false

end Go.Proofs.Ytjcfmfdkligmoaa.PRecordLimits
