/- fountainlaw22.LetterTorn: it answers true, if what it calls comes to what is said. Conditions: those that stand in the theorems. Written by mklx.py. -/
import Derived.Test.YtjcfmfdkligmoaaLj
import Derived.Test.YtjcfmfdkligmoaaLw
namespace Go.Proofs.Ytjcfmfdkligmoaa.Lx
open Go.RowKit Go.Lib Go.Proofs.Ytjcfmfdkligmoaa.PRecordTells Go.Proofs.Ytjcfmfdkligmoaa.PLetterLimits Go.Proofs.Ytjcfmfdkligmoaa.PLetterTorn Go.Proofs.Ytjcfmfdkligmoaa.Lt Go.Proofs.Ytjcfmfdkligmoaa.Lr Go.Proofs.Ytjcfmfdkligmoaa.Lq Go.Proofs.Ytjcfmfdkligmoaa.Lg Go.Proofs.Ytjcfmfdkligmoaa.Lj Go.Proofs.Ytjcfmfdkligmoaa.Lw Go.Proofs.YtjcfmfdkligmoaaW.PrintWords Go.Proofs.YtjcfmfdkligmoaaW.PrintLast Go.Proofs.YtjcfmfdkligmoaaW.PrintMore
set_option linter.unusedVariables false
set_option linter.unusedSimpArgs false
set_option maxHeartbeats 8000000
set_option maxRecDepth 100000
end Go.Proofs.Ytjcfmfdkligmoaa.Lx
