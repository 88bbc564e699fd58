/- math/bits: sums of two words, by value. -/
import Derived.Test.YtmclpbcipkdmcaaDoorTy
import Derived.Shelf.Bits.Mul64
import Derived.Laws.Externs
set_option linter.all false
namespace Go.Proofs.YtmclpbcipkdmcaaDoor
open Go Go.Abs Go.RowKit Go.Proofs.YtmclpbcipkdmcaaDoor.Ty
set_option maxHeartbeats 1000000
end Go.Proofs.YtmclpbcipkdmcaaDoor
