/- A constant string told as bytes ('[]byte("abc")'): what the conversion of the literal to its own type does to a row that the call has just made: nobody may write it any more, and it reads as before. No program is in sight; conditions: the row's elements are bytes. -/
import Derived.Test.YtjcfmfdkligmoaaYtjcfmfdkligmoaaWWords
import Derived.Lib.SlBytesConst
namespace Go.Proofs.Ytjcfmfdkligmoaa.Xw
open Go.RowKit Go.Proofs.YtjcfmfdkligmoaaW.PrintWords Go.Proofs.YtjcfmfdkligmoaaW.PrintWords.Kd Go.Proofs.YtjcfmfdkligmoaaW.PrintLast Go.Proofs.YtjcfmfdkligmoaaW.PrintMore
end Go.Proofs.Ytjcfmfdkligmoaa.Xw
