/- What the rows hand in: updates. -/
import Derived.Test.YtkbbipgjmoanhaaGreatDoorClM
import Derived.Test.YtkbbipgjmoanhaaGreatDoorDecHd
set_option linter.all false
namespace Go.Proofs.YtkbbipgjmoanhaaGreatDoor
open Go Go.Abs Go.RowKit Go.Proofs.YtkbbipgjmoanhaaGreatDoor.Ty
end Go.Proofs.YtkbbipgjmoanhaaGreatDoor
