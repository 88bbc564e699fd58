/- landref8.Digits: by value. -/
import Derived.Test.YtoifllbioldomaaGreatDoorGKs
set_option linter.all false
set_option maxHeartbeats 8000000
set_option maxRecDepth 20000
namespace Go.Proofs.YtoifllbioldomaaGreatDoor
open Go Go.Abs Go.RowKit Go.Proofs.YtoifllbioldomaaGreatDoor.Ty
end Go.Proofs.YtoifllbioldomaaGreatDoor
