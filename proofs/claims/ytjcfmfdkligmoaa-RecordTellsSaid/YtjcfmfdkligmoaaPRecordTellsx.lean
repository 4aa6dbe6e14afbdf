/- Written by a program (this session's own): functions that the law reaches, as plain Lean functions, each with the proof that the code comes to it. No conditions but those that stand in the theorems. -/
import Derived.Test.YtjcfmfdkligmoaaPRecordTellsx0
import Derived.Test.YtjcfmfdkligmoaaPRecordTellsx1
import Derived.Test.YtjcfmfdkligmoaaPRecordTellsx2
import Derived.Test.YtjcfmfdkligmoaaPRecordTellsx3
import Derived.Test.YtjcfmfdkligmoaaPRecordTellsx4
import Derived.Test.YtjcfmfdkligmoaaPRecordTellsx5
import Derived.Test.YtjcfmfdkligmoaaPRecordTellsx6
import Derived.Test.YtjcfmfdkligmoaaPRecordTellsx7
import Derived.Test.YtjcfmfdkligmoaaPRecordTellsx8
import Derived.Test.YtjcfmfdkligmoaaPRecordTellsx9
import Derived.Test.YtjcfmfdkligmoaaPRecordTellsx10
import Derived.Test.YtjcfmfdkligmoaaPRecordTellsx11
import Derived.Test.YtjcfmfdkligmoaaPRecordTellsx12
import Derived.Test.YtjcfmfdkligmoaaPRecordTellsx13
import Derived.Test.YtjcfmfdkligmoaaPRecordTellsx14
namespace Go.Proofs.Ytjcfmfdkligmoaa.PRecordTells
open Go.RowKit Go.Proofs.YtjcfmfdkligmoaaW.PrintWords Go.Proofs.YtjcfmfdkligmoaaW.PrintLast Go.Proofs.YtjcfmfdkligmoaaW.PrintMore
attribute [local go_sem] max2_int min2_int max_two min_two max_three min_three max_four min_four   -- for this text's walks alone
set_option linter.unusedVariables false
set_option linter.unusedSimpArgs false

end Go.Proofs.Ytjcfmfdkligmoaa.PRecordTells
