/- Rows of elements in plain Lean: sums, products, mixtures; cutting and filling. No program is in sight; no condition. -/
import Derived.Test.YtjcfmfdkligmoaaGf
namespace Go.Proofs.Ytjcfmfdkligmoaa.Rw
open Go.Proofs.Ytjcfmfdkligmoaa.Gf
abbrev F := UInt8
def ti (x : F) : Int := (x.toNat : Int)
end Go.Proofs.Ytjcfmfdkligmoaa.Rw
