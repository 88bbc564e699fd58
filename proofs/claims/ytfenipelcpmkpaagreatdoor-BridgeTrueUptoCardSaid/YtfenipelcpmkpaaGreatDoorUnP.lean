/- Two states with one book: plain. -/
import Derived.Test.YtfenipelcpmkpaaGreatDoorGSo
set_option linter.all false
namespace Go.Proofs.YtfenipelcpmkpaaGreatDoor
open Go Go.Abs
end Go.Proofs.YtfenipelcpmkpaaGreatDoor
