/- The contract of landref1.Same, by the abstract walk. -/
import Derived.Test.YtckjpabekmhnhaaDoorAbs4
import Derived.Test.YtckjpabekmhnhaaDoorTy
set_option linter.all false
namespace Go.Proofs.YtckjpabekmhnhaaDoor
open Go Go.Abs Go.RowKit Go.Proofs.YtckjpabekmhnhaaDoor.Ty
set_option maxHeartbeats 1000000
end Go.Proofs.YtckjpabekmhnhaaDoor
