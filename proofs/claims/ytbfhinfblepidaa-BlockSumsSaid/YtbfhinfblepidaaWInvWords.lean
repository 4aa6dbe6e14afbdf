
import Derived.Test.YtbfhinfblepidaaWInv
import Derived.Test.YtbfhinfblepidaaWFootNe
namespace Go.Proofs.YtbfhinfblepidaaW.PrintWords
open Go.RowKit

end Go.Proofs.YtbfhinfblepidaaW.PrintWords
namespace Go.Proofs.YtbfhinfblepidaaW.PrintLast
section
variable {ops : Array Oper} {a : Act} {o og : Oper} {g : Nat} {t : Tmp} {u : Bool}

end
end Go.Proofs.YtbfhinfblepidaaW.PrintLast

