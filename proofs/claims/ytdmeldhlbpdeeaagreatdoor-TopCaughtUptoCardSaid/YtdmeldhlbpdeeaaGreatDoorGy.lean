/- The old walk's step, where it ends at a call within a drawn region. -/
import Derived.Test.YtdmeldhlbpdeeaaGreatDoorGx
set_option linter.all false
namespace Go.Abs
open Go Go.RowKit
theorem gy {G Q E:Prop}(e:E)(g:G)(h:PLift G->PLift E->Q:=by
 intro hgo hex;have hex:=hex.down
 (repeat(first|(simp -implicitDefEqProofs only[ev,mixed,Nat.reduceLT,Nat.reduceAdd,Nat.reduceMul,reduceIte,Nat.reduceEqDiff,reduceCtorEq,Nat.reducePow,Nat.reduceLeDiff,Int.reduceLE,Int.reduceLT,Int.reduceToNat,Int.reduceEq,Nat.reduceBEq,uq,gdA,aH,uo,RU,ixQ,ldH,aW,aR,ku,faQ,exQ,UC,qD,qX,slQ,stH,Vq,VA,bY,eu,aO,D.one,KF,oH,uw,cvH,hex])|(with_reducible refine⟨?_,?_⟩;(· first|(obtain⟨rfl⟩:=‹Hq _ _›;with_reducible refine chk_ok ?_;kernel_rfl)|kernel_rfl))|(with_reducible intro opz hopz)))
 all_goals(try(revert hopz;revert opz))
 all_goals exact hgo.down):Q:=h ⟨g⟩ ⟨e⟩
end Go.Abs
