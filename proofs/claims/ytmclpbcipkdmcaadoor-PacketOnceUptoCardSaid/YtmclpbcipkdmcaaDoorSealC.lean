/- seal.Sign, Good: by value. -/
import Derived.Test.YtmclpbcipkdmcaaDoorSealB
set_option linter.all false
namespace Go.Proofs.YtmclpbcipkdmcaaDoor
open Go Go.Abs Go.RowKit Go.Proofs.YtmclpbcipkdmcaaDoor.Ty

def sealD (r s : Nat) : D := .agg [u64D r, u64D s]
theorem pow_lt (b e : Nat) : b ^ e % pN < pN := Nat.mod_lt _ (by decide)

set_option maxHeartbeats 2000000
end Go.Proofs.YtmclpbcipkdmcaaDoor
