/- What the rows hand in: states, what is shown, packets. -/
import Derived.Test.YtkbbipgjmoanhaaGreatDoorGPk
import Derived.Test.YtkbbipgjmoanhaaGreatDoorGDec
set_option linter.all false
namespace Go.Proofs.YtkbbipgjmoanhaaGreatDoor
open Go Go.Abs Go.RowKit Go.Proofs.YtkbbipgjmoanhaaGreatDoor.Ty
end Go.Proofs.YtkbbipgjmoanhaaGreatDoor
