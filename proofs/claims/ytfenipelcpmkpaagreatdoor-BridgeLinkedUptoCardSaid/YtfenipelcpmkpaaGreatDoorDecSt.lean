/- What the rows hand in: states, what is shown, packets. -/
import Derived.Test.YtfenipelcpmkpaaGreatDoorGPk
import Derived.Test.YtfenipelcpmkpaaGreatDoorGDec
set_option linter.all false
namespace Go.Proofs.YtfenipelcpmkpaaGreatDoor
open Go Go.Abs Go.RowKit Go.Proofs.YtfenipelcpmkpaaGreatDoor.Ty
end Go.Proofs.YtfenipelcpmkpaaGreatDoor
