/- Merged texts: DecB, Dec5, DecC0. -/
import Derived.Test.YtfenipelcpmkpaaGreatDoorGCl
set_option linter.all false
namespace Go.Proofs.YtfenipelcpmkpaaGreatDoor
open Go Go.Abs Go.RowKit
open Go.Proofs.YtfenipelcpmkpaaGreatDoor.Ty
end Go.Proofs.YtfenipelcpmkpaaGreatDoor
