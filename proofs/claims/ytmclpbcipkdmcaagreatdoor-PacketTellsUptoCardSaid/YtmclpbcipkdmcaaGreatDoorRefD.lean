/- landref5.At, Show, ShowGap: by value. -/
import Derived.Test.YtmclpbcipkdmcaaGreatDoorRefC
set_option linter.all false
namespace Go.Proofs.YtmclpbcipkdmcaaGreatDoor
open Go Go.Abs Go.RowKit Go.Proofs.YtmclpbcipkdmcaaGreatDoor.Ty
set_option maxHeartbeats 4000000
end Go.Proofs.YtmclpbcipkdmcaaGreatDoor
