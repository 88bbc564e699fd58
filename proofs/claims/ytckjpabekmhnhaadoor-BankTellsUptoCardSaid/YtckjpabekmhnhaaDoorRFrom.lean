/- landref8.From: by value. -/
import Derived.Test.YtckjpabekmhnhaaDoorG0
import Derived.Test.YtckjpabekmhnhaaDoorTy
set_option linter.all false
namespace Go.Proofs.YtckjpabekmhnhaaDoor
open Go Go.Abs Go.RowKit Go.Proofs.YtckjpabekmhnhaaDoor.Ty
theorem tyRFrom0:(type_of% @Ty.T3)∧(type_of% @Ty.T108):=⟨@Ty.T3,@Ty.T108⟩
set_option maxHeartbeats 4000000
def inB (least n:Int):Bool:=decide (least≤n) && decide (n≤1000000000000)
def ints (l:List Int):I:=.sl (l.map fun n=>[.s (.int .i64 n)])
theorem from_A (least:Int) (l:List Int) (hl:l.length≤1000):PureD Tryd.prog 57 [intV least,.i (ints l)] (boolV (l.all (inB least))):=by
 generalize hR:l.all (inB least)=R
 refine callD_W 21 Tryd.func57 rfl rfl rfl (fun _ _=>rfl) ?_
 (repeat (first | (simp -implicitDefEqProofs only [ev,mixed,Nat.reduceLT,Nat.reduceAdd,Nat.reduceMul,reduceIte,Nat.reduceEqDiff,reduceCtorEq,Nat.reducePow,Nat.reduceLeDiff,Int.reduceLE,Int.reduceLT,Int.reduceToNat,Int.reduceEq,Nat.reduceBEq,itsOf,gdA,byteI,opid,lenQ,ixQ,ldH,readAt,readCells,asCell,faQ,exQ,fldQ,partA,buildQ,slQ,stH,bslH,appH,dcells,convI,elemsOf,D.one,nilS,fillD,convN,cvH,tyRFrom0,ints,intV]) | (with_reducible refine ⟨?_,?_⟩; (· first | (obtain ⟨rfl⟩:=‹Hq _ _›; with_reducible refine chk_ok ?_; kernel_rfl) | kernel_rfl)) | (with_reducible intro ops hops)))
 refine W_loopI (ι:=Nat) (fun i=>i≤l.length∧(l.drop i).all (inB least)=R)
  (fun i=>stOf [(0,intV least),(7,.i (ints l)),(8,intV l.length),(9,intV i)] []) (fun i=>l.length - i) 0 ⟨Nat.zero_le _,hR⟩ ?_ ?_
 ·refine le_stOf _ _ [] [] ?_ ?_ rfl rfl
  ·simp [cv,cvL,cv1,cv0,upd,lk,srcOf,intV,ints]
  ·simp
 ·rintro i ⟨hi,hr⟩
  clear hR
  rw [stOf_eq]
  by_cases h:i < l.length
  ·have g1:decide ((i:Int) < (l.length:Int))=true:=decide_eq_true (by omega)
   have e1:(l.map fun n=>[I.s (.int .i64 n)])[i]?=some [.s (.int .i64 l[i])]:=by rw [List.getElem?_map,List.getElem?_eq_getElem h]; rfl
   have w1:IntKind.i64.wrap ((i:Int)+1)=((i+1:Nat):Int):=by rw [wrap64 (by omega) (by omega)]; omega
   rw [List.drop_eq_getElem_cons h,List.all_cons] at hr
   generalize l[i]=n at *
   unfold inB at hr
   by_cases h1:least≤n
   ·have g2:decide (n < least)=false:=decide_eq_false (by omega)
    rw [decide_eq_true h1,Bool.true_and] at hr
    by_cases h2:n≤1000000000000
    ·have g3:decide ((1000000000000:Int) < n)=false:=decide_eq_false (by omega)
     rw [decide_eq_true h2,Bool.true_and] at hr
     (repeat (first | (simp -implicitDefEqProofs only [ev,mixed,Nat.reduceLT,Nat.reduceAdd,Nat.reduceMul,reduceIte,Nat.reduceEqDiff,reduceCtorEq,Nat.reducePow,Nat.reduceLeDiff,Int.reduceLE,Int.reduceLT,Int.reduceToNat,Int.reduceEq,Nat.reduceBEq,itsOf,gdA,byteI,opid,lenQ,ixQ,ldH,readAt,readCells,asCell,faQ,exQ,fldQ,partA,buildQ,slQ,stH,bslH,appH,dcells,convI,elemsOf,D.one,nilS,fillD,convN,cvH,tyRFrom0,intV,ints,g1,e1,g2,g3,w1]) | (with_reducible refine ⟨?_,?_⟩; (· first | (obtain ⟨rfl⟩:=‹Hq _ _›; with_reducible refine chk_ok ?_; kernel_rfl) | kernel_rfl)) | (with_reducible intro ops hops)))
     refine ⟨i+1,⟨h,hr⟩,le_stOf _ _ [] [] ?_ ?_ rfl rfl,by simp; omega⟩
     ·simp [cv,cvL,cv1,cv0,upd,lk,srcOf,intV,ints]
     ·simp
    ·have g3:decide ((1000000000000:Int) < n)=true:=decide_eq_true (by omega)
     rw [decide_eq_false h2,Bool.false_and] at hr
     subst hr
     (repeat (first | (simp -implicitDefEqProofs only [ev,mixed,Nat.reduceLT,Nat.reduceAdd,Nat.reduceMul,reduceIte,Nat.reduceEqDiff,reduceCtorEq,Nat.reducePow,Nat.reduceLeDiff,Int.reduceLE,Int.reduceLT,Int.reduceToNat,Int.reduceEq,Nat.reduceBEq,itsOf,gdA,byteI,opid,lenQ,ixQ,ldH,readAt,readCells,asCell,faQ,exQ,fldQ,partA,buildQ,slQ,stH,bslH,appH,dcells,convI,elemsOf,D.one,nilS,fillD,convN,cvH,tyRFrom0,intV,ints,g1,e1,g2,g3]) | (with_reducible refine ⟨?_,?_⟩; (· first | (obtain ⟨rfl⟩:=‹Hq _ _›; with_reducible refine chk_ok ?_; kernel_rfl) | kernel_rfl)) | (with_reducible intro ops hops)))
     refine fin_ret [] rfl ?_
     simp [cv,cv1,cv0,upd,boolV]
   ·have g2:decide (n < least)=true:=decide_eq_true (by omega)
    rw [decide_eq_false h1,Bool.false_and,Bool.false_and] at hr
    subst hr
    (repeat (first | (simp -implicitDefEqProofs only [ev,mixed,Nat.reduceLT,Nat.reduceAdd,Nat.reduceMul,reduceIte,Nat.reduceEqDiff,reduceCtorEq,Nat.reducePow,Nat.reduceLeDiff,Int.reduceLE,Int.reduceLT,Int.reduceToNat,Int.reduceEq,Nat.reduceBEq,itsOf,gdA,byteI,opid,lenQ,ixQ,ldH,readAt,readCells,asCell,faQ,exQ,fldQ,partA,buildQ,slQ,stH,bslH,appH,dcells,convI,elemsOf,D.one,nilS,fillD,convN,cvH,tyRFrom0,intV,ints,g1,e1,g2]) | (with_reducible refine ⟨?_,?_⟩; (· first | (obtain ⟨rfl⟩:=‹Hq _ _›; with_reducible refine chk_ok ?_; kernel_rfl) | kernel_rfl)) | (with_reducible intro ops hops)))
    refine fin_ret [] rfl ?_
    simp [cv,cv1,cv0,upd,boolV]
  ·have g1:decide ((i:Int) < (l.length:Int))=false:=decide_eq_false (by omega)
   rw [List.drop_eq_nil_of_le (by omega)] at hr
   simp only [List.all_nil] at hr
   subst hr
   (repeat (first | (simp -implicitDefEqProofs only [ev,mixed,Nat.reduceLT,Nat.reduceAdd,Nat.reduceMul,reduceIte,Nat.reduceEqDiff,reduceCtorEq,Nat.reducePow,Nat.reduceLeDiff,Int.reduceLE,Int.reduceLT,Int.reduceToNat,Int.reduceEq,Nat.reduceBEq,itsOf,gdA,byteI,opid,lenQ,ixQ,ldH,readAt,readCells,asCell,faQ,exQ,fldQ,partA,buildQ,slQ,stH,bslH,appH,dcells,convI,elemsOf,D.one,nilS,fillD,convN,cvH,tyRFrom0,intV,ints,g1]) | (with_reducible refine ⟨?_,?_⟩; (· first | (obtain ⟨rfl⟩:=‹Hq _ _›; with_reducible refine chk_ok ?_; kernel_rfl) | kernel_rfl)) | (with_reducible intro ops hops)))
   refine fin_ret [] rfl ?_
   simp [cv,cv1,cv0,upd,boolV]
end Go.Proofs.YtckjpabekmhnhaaDoor
