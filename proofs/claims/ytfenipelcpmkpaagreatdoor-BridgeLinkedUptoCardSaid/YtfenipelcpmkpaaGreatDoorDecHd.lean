/- What the rows hand in: validators, headers, what is signed. -/
import Derived.Test.YtfenipelcpmkpaaGreatDoorGHs
import Derived.Test.YtfenipelcpmkpaaGreatDoorGDec
set_option linter.all false
namespace Go.Proofs.YtfenipelcpmkpaaGreatDoor
open Go Go.Abs Go.RowKit Go.Proofs.YtfenipelcpmkpaaGreatDoor.Ty
end Go.Proofs.YtfenipelcpmkpaaGreatDoor
