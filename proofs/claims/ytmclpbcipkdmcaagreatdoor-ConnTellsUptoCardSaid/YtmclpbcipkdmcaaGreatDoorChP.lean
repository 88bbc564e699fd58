/- Channels: what a step comes to. No program is in sight. -/
import Derived.Test.YtmclpbcipkdmcaaGreatDoorGCo
set_option linter.all false
namespace Go.Proofs.YtmclpbcipkdmcaaGreatDoor
open Go Go.Abs

def zeroCh : ChanD := ⟨0, false, 0, 0, 0, 0, 0⟩
attribute [simp, go_sem] zeroCh
end Go.Proofs.YtmclpbcipkdmcaaGreatDoor
