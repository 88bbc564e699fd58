/- landref8.Digits: by value. -/
import Derived.Test.YtkbbipgjmoanhaaGreatDoorIto
import Derived.Test.YtkbbipgjmoanhaaGreatDoorStKs
set_option linter.all false
set_option maxHeartbeats 8000000
set_option maxRecDepth 20000
namespace Go.Proofs.YtkbbipgjmoanhaaGreatDoor
open Go Go.Abs Go.RowKit Go.Proofs.YtkbbipgjmoanhaaGreatDoor.Ty
end Go.Proofs.YtkbbipgjmoanhaaGreatDoor
