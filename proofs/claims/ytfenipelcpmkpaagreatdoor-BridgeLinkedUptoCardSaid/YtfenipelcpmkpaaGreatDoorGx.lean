/- The old walk's step and calls as rules whose proofs are found where they are used; facts come in as one conjunction. -/
import Derived.Test.YtfenipelcpmkpaaGreatDoorAbs4
set_option linter.all false
namespace Go.Abs
open Go Go.RowKit
theorem an {a b:Prop} (x:a) (y:b):a/\b:=⟨x,y⟩
theorem mdr {α β:Type} (f:α->β) (l:List α) (i:Nat):(l.map f).drop i=(l.drop i).map f:=List.map_drop.symm
theorem mtk {α β:Type} (f:α->β) (l:List α) (i:Nat):(l.map f).take i=(l.take i).map f:=List.map_take.symm
theorem gx {G Q E:Prop} (e:E) (g:G) (h:PLift G->PLift E->Q:=by
 intro hgo hex
 have hex:=hex.down
 (repeat (first | (simp -implicitDefEqProofs only [ev,mixed,Nat.reduceLT,Nat.reduceAdd,Nat.reduceMul,reduceIte,Nat.reduceEqDiff,reduceCtorEq,Nat.reducePow,Nat.reduceLeDiff,Int.reduceLE,Int.reduceLT,Int.reduceToNat,Int.reduceEq,Nat.reduceBEq,dV,gdA,af,il,kE,ixQ,ldH,aF,aj,bC,faQ,exQ,kU,dO,bS,slQ,stH,kV,kW,aS,bq,ae,D.one,jP,dH,dX,cvH,hex]) | (with_reducible refine ⟨?_,?_⟩; (· first | (obtain ⟨rfl⟩:=‹Hq _ _›; with_reducible refine chk_ok ?_; kernel_rfl) | kernel_rfl)) | (with_reducible intro ops hops)))
 all_goals exact hgo.down):Q:=h ⟨g⟩ ⟨e⟩
end Go.Abs
