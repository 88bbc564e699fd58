/- What the rows hand in: messages. -/
import Derived.Test.YtfenipelcpmkpaaGreatDoorGAp
import Derived.Test.YtfenipelcpmkpaaGreatDoorDecSt
import Derived.Test.YtfenipelcpmkpaaGreatDoorDecCl
set_option linter.all false
namespace Go.Proofs.YtfenipelcpmkpaaGreatDoor
open Go Go.Abs Go.RowKit Go.Proofs.YtfenipelcpmkpaaGreatDoor.Ty
end Go.Proofs.YtfenipelcpmkpaaGreatDoor
