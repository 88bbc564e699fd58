/- What the rows hand in: updates. -/
import Derived.Test.YtadoaljnfeoecaaGreatDoorClM
import Derived.Test.YtadoaljnfeoecaaGreatDoorGHs
import Derived.Test.YtadoaljnfeoecaaGreatDoorDecHd
import Derived.Test.YtadoaljnfeoecaaGreatDoorGDec
set_option linter.all false
namespace Go.Proofs.YtadoaljnfeoecaaGreatDoor
open Go Go.Abs Go.RowKit Go.Proofs.YtadoaljnfeoecaaGreatDoor.Ty
end Go.Proofs.YtadoaljnfeoecaaGreatDoor
