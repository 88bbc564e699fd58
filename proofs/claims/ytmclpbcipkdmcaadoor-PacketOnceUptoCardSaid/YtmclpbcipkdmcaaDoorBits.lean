/- math/bits: products and sums of two words, by value. -/
import Derived.Test.YtmclpbcipkdmcaaDoorAdd64
import Derived.Test.YtmclpbcipkdmcaaDoorTy
import Derived.Shelf.Bits.Mul64
import Derived.Laws.Externs
set_option linter.all false
namespace Go.Proofs.YtmclpbcipkdmcaaDoor
open Go Go.Abs Go.RowKit Go.Proofs.YtmclpbcipkdmcaaDoor.Ty

theorem shr32 (a : Nat) : (a : Int).fdiv (2 ^ min 32 (IntKind.bits .u64)) = ((a / 4294967296 : Nat) : Int) := by
  rw [show min 32 (IntKind.bits .u64) = 32 from rfl, Int.fdiv_eq_ediv_of_nonneg _ (by decide)]; omega
set_option maxHeartbeats 1000000
end Go.Proofs.YtmclpbcipkdmcaaDoor
