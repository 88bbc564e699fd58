/- The old walk's step and calls as rules whose proofs are found where they are used; facts come in as one conjunction. -/
import Derived.Test.YtdmeldhlbpdeeaaGreatDoorAbs4
set_option linter.all false
namespace Go.Abs
open Go Go.RowKit
theorem mdr {α β:Type}(f:α->β)(l:List α)(i:Nat):(l.map f).drop i=(l.drop i).map f:=List.map_drop.symm
theorem mtk {α β:Type}(f:α->β)(l:List α)(i:Nat):(l.map f).take i=(l.take i).map f:=List.map_take.symm
theorem gx {G Q E:Prop}(e:E)(g:G)(h:PLift G->PLift E->Q:=by
 intro hgo hex;have hex:=hex.down
 (repeat(first|(simp -implicitDefEqProofs only[ev,mixed,Nat.reduceLT,Nat.reduceAdd,Nat.reduceMul,reduceIte,Nat.reduceEqDiff,reduceCtorEq,Nat.reducePow,Nat.reduceLeDiff,Int.reduceLE,Int.reduceLT,Int.reduceToNat,Int.reduceEq,Nat.reduceBEq,uq,gdA,aH,uo,RU,ixQ,ldH,aW,aR,ku,faQ,exQ,UC,qD,qX,slQ,stH,Vq,VA,bY,eu,aO,D.one,KF,oH,uw,cvH,hex])|(with_reducible refine⟨?_,?_⟩;(· first|(obtain⟨rfl⟩:=‹Hq _ _›;with_reducible refine chk_ok ?_;kernel_rfl)|kernel_rfl))|(with_reducible intro ops hops)))
 all_goals exact hgo.down):Q:=h ⟨g⟩ ⟨e⟩
theorem gx2 {G Q E:Prop}(e:E)(g:G)(h:PLift G->PLift E->Q:=by
 intro hgo hex;have hex:=hex.down
 (repeat(first|(simp -implicitDefEqProofs only[ev,mixed,Nat.reduceLT,Nat.reduceAdd,Nat.reduceMul,reduceIte,Nat.reduceEqDiff,reduceCtorEq,Nat.reducePow,Nat.reduceLeDiff,Int.reduceLE,Int.reduceLT,Int.reduceToNat,Int.reduceEq,Nat.reduceBEq,uq,gdA,aH,uo,RU,ixQ,ldH,aW,aR,ku,faQ,exQ,UC,qD,qX,slQ,stH,Vq,VA,bY,eu,aO,D.one,KF,oH,uw,cvH,slX,afK,ZR,apX,cpX,clX,UH,Ua,Bz,hex])|(with_reducible refine⟨?_,?_⟩;(· first|(obtain⟨rfl⟩:=‹Hq _ _›;with_reducible refine chk_ok ?_;kernel_rfl)|kernel_rfl))|(with_reducible intro ops hops)))
 all_goals exact hgo.down):Q:=h ⟨g⟩ ⟨e⟩
theorem gr {G Q E:Prop}(e:E)(g:G)(h:PLift G->PLift E->Q:=by intro hgo hex;have hex:=hex.down;simp -implicitDefEqProofs only[ev,mixed,Nat.reduceLT,Nat.reduceAdd,Nat.reduceMul,reduceIte,Nat.reduceEqDiff,reduceCtorEq,Nat.reducePow,Nat.reduceLeDiff,Int.reduceLE,Int.reduceLT,Int.reduceToNat,Int.reduceEq,Nat.reduceBEq,uq,gdA,aH,uo,RU,ixQ,ldH,aW,aR,ku,faQ,exQ,UC,qD,qX,slQ,stH,Vq,VA,bY,eu,aO,D.one,KF,oH,uw,cvH,hex];exact hgo.down):Q:=h ⟨g⟩ ⟨e⟩
theorem fq {G Q E T:Prop}(e:E)(c:T)(g:G)(h:PLift G->PLift E->PLift T->Q:=by
 intro hgo hex hc;have hex:=hex.down;have hc:=hc.down
 (first|refine ja [] [] hc (by simp[hex]) rfl ?_|refine jK [] [] [] hc (λG _=>by simp[hex]) rfl ?_)
 all_goals exact hgo.down):Q:=h ⟨g⟩ ⟨e⟩ ⟨c⟩
theorem fqz {G Q E T:Prop}(e:E)(c:T)(g:G)(h:PLift G->PLift E->PLift T->Q:=by
 intro hgo hex hc;have hex:=hex.down;have hc:=hc.down
 (first|refine kP [] hc (by simp[hex]) ?_|refine jb [] [] hc (λG _=>by simp[hex]) (by simp) ?_)
 all_goals exact hgo.down):Q:=h ⟨g⟩ ⟨e⟩ ⟨c⟩
end Go.Abs
