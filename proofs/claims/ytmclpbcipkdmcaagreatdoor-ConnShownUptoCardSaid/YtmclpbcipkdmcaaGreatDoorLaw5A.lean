/- ProofShort: plain law and by-value contract. -/
import Derived.Test.YtmclpbcipkdmcaaGreatDoorAlive5
import Derived.Test.YtmclpbcipkdmcaaGreatDoorAbs4
set_option linter.all false
namespace Go.Proofs.YtmclpbcipkdmcaaGreatDoor
open Go Go.Abs Go.RowKit Go.Proofs.YtmclpbcipkdmcaaGreatDoor.Ty

set_option maxHeartbeats 2000000
end Go.Proofs.YtmclpbcipkdmcaaGreatDoor
