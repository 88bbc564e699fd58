/- landref8.Digits: by value. -/
import Derived.Test.YtdmeldhlbpdeeaaGreatDoorGKs
set_option linter.all false
set_option maxHeartbeats 8000000
set_option maxRecDepth 20000
namespace Go.Proofs.YtdmeldhlbpdeeaaGreatDoor
open Go Go.Abs Go.RowKit Go.Proofs.YtdmeldhlbpdeeaaGreatDoor.Ty
end Go.Proofs.YtdmeldhlbpdeeaaGreatDoor
