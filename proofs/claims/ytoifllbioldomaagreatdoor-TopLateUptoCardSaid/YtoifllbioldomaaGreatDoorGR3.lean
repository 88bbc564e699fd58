/- Merged texts: R3Write, R3B, RNum. -/
import Derived.Test.YtoifllbioldomaaGreatDoorGHd
set_option linter.all false
set_option maxHeartbeats 4000000
namespace Go.Proofs.YtoifllbioldomaaGreatDoor
open Go Go.Abs Go.RowKit Go.Proofs.YtoifllbioldomaaGreatDoor.Ty
theorem Mw (n:Int):PureD Tryz.prog 58 [intD n] (boolD (kz n)):=by
 refine af λR hR=>?_;unfold kz at hR;by_cases h1:0<=n<;>by_cases h2:n<=1000000000000<;>simp only[h1,h2,true_and,false_and,decide_true,decide_false]at hR;all_goals
  refine aa 9 Tryz.func58 ?_;exact wkl trivial
end Go.Proofs.YtoifllbioldomaaGreatDoor
