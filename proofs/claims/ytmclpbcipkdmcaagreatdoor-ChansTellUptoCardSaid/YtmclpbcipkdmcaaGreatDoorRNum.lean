/- landref6.Num: by value. -/
import Derived.Test.YtmclpbcipkdmcaaGreatDoorGHd
import Derived.Test.YtmclpbcipkdmcaaGreatDoorGWk
set_option linter.all false
namespace Go.Proofs.YtmclpbcipkdmcaaGreatDoor
open Go Go.Abs Go.RowKit Go.Proofs.YtmclpbcipkdmcaaGreatDoor.Ty
theorem rnum_A (n:Int):PureD Tryz.prog 118 [intD n] (boolD (numB n)):=by
 refine hide_r fun R hR=>?_
 unfold numB at hR
 by_cases h1:0≤n <;> by_cases h2:n≤1000000000000 <;> simp only [h1,h2,true_and,false_and,decide_true,decide_false] at hR
 all_goals
  refine callD_W 9 Tryz.func118 rfl rfl rfl (fun _ _=>rfl) ?_
  exact wkl trivial
end Go.Proofs.YtmclpbcipkdmcaaGreatDoor
