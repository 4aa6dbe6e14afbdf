
import Derived.Test.YtjcfmfdkligmoaaWInv
import Derived.Test.YtjcfmfdkligmoaaWFootNe
namespace Go.Proofs.YtjcfmfdkligmoaaW.PrintWords
open Go.RowKit

end Go.Proofs.YtjcfmfdkligmoaaW.PrintWords
namespace Go.Proofs.YtjcfmfdkligmoaaW.PrintLast
section
variable {ops : Array Oper} {a : Act} {o og : Oper} {g : Nat} {t : Tmp} {u : Bool}

end
end Go.Proofs.YtjcfmfdkligmoaaW.PrintLast

