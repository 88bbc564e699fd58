/- landref6.Num: by value. -/
import Derived.Test.YtkodnlkgblkfdaaGHd
import Derived.Test.YtkodnlkgblkfdaaGWk
set_option linter.all false
namespace Go.Proofs.Ytkodnlkgblkfdaa
open Go Go.Abs Go.RowKit Go.Proofs.Ytkodnlkgblkfdaa.Ty
theorem rnum_A (n:Int):PureD Try.prog 9 [intD n] (boolD (numB n)):=by
 refine hide_r fun R hR=>?_
 unfold numB at hR
 by_cases h1:0≤n <;> by_cases h2:n≤1000000000000 <;> simp only [h1,h2,true_and,false_and,decide_true,decide_false] at hR
 all_goals
  refine callD_W 9 Try.func9 rfl rfl rfl (fun _ _=>rfl) ?_
  exact wkl trivial
end Go.Proofs.Ytkodnlkgblkfdaa
