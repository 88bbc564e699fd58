/- What the rows hand in: updates. -/
import Derived.Test.YtfenipelcpmkpaaGreatDoorClM
import Derived.Test.YtfenipelcpmkpaaGreatDoorDecHd
set_option linter.all false
namespace Go.Proofs.YtfenipelcpmkpaaGreatDoor
open Go Go.Abs Go.RowKit Go.Proofs.YtfenipelcpmkpaaGreatDoor.Ty
end Go.Proofs.YtfenipelcpmkpaaGreatDoor
