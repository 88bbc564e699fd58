/- landref8.Digits: by value. -/
import Derived.Test.YtfenipelcpmkpaaGreatDoorIto
import Derived.Test.YtfenipelcpmkpaaGreatDoorStKs
set_option linter.all false
set_option maxHeartbeats 8000000
set_option maxRecDepth 20000
namespace Go.Proofs.YtfenipelcpmkpaaGreatDoor
open Go Go.Abs Go.RowKit Go.Proofs.YtfenipelcpmkpaaGreatDoor.Ty
end Go.Proofs.YtfenipelcpmkpaaGreatDoor
