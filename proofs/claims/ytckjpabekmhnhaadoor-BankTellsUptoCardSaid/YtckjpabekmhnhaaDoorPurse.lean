/- bank.find: by value, of purses that rise. -/
import Derived.Test.YtckjpabekmhnhaaDoorAbs4
import Derived.Test.YtckjpabekmhnhaaDoorStrs
import Derived.Test.YtckjpabekmhnhaaDoorG0
set_option linter.all false
namespace Go.Proofs.YtckjpabekmhnhaaDoor
open Go Go.Abs Go.RowKit Go.Proofs.YtckjpabekmhnhaaDoor.Ty
theorem tyPurse0:(type_of% @Ty.T3)∧(type_of% @Ty.T9)∧(type_of% @Ty.T23)∧(type_of% @Ty.T50):=⟨@Ty.T3,@Ty.T9,@Ty.T23,@Ty.T50⟩
def amtP (l:List PurseD) (o d:ByteArray):Nat:=match getP l o d with | some p=>p.n | none=>0
set_option maxHeartbeats 2000000
theorem pfindc_A (p:PurseD) (o d:ByteArray):PureD Tryd.prog 69 [puD p,sD d,.rp [sI o] 0] (intD (cmpP (pk p) (o,d))):=by
 unfold cmpP pk
 have h1:=scmp_A p.o o
 have h2:=scmp_A p.d d
 simp only
 generalize cmpS p.o o=c1 at *
 generalize cmpS p.d d=c2 at *
 by_cases h:c1=0
 ·rw [if_pos h]
  have g:decide (c1=0)=true:=decide_eq_true h
  refine callD_W 18 Tryd.func69 rfl rfl rfl (fun _ _=>rfl) ?_
  (repeat (first | (simp -implicitDefEqProofs only [ev,mixed,Nat.reduceLT,Nat.reduceAdd,Nat.reduceMul,reduceIte,Nat.reduceEqDiff,reduceCtorEq,Nat.reducePow,Nat.reduceLeDiff,Int.reduceLE,Int.reduceLT,Int.reduceToNat,Int.reduceEq,Nat.reduceBEq,itsOf,gdA,byteI,opid,lenQ,ixQ,ldH,readAt,readCells,asCell,faQ,exQ,fldQ,partA,buildQ,slQ,stH,bslH,appH,dcells,convI,elemsOf,D.one,nilS,fillD,convN,cvH,tyPurse0,puD,sD,sI]) | (with_reducible refine ⟨?_,?_⟩; (· first | (obtain ⟨rfl⟩:=‹Hq _ _›; with_reducible refine chk_ok ?_; kernel_rfl) | kernel_rfl)) | (with_reducible intro ops hops)))
  (first | refine Call_flat [] [] (h1) (by simp [cvAs,cvA,cvRL,cvR,cvBox,cv1,cvL,cv0,bI,byteI,intD,sD,sI,puD,elemsOf,upd]) rfl ?_ | refine CallF_flat [] [] [] (h1) (fun G _=>by simp [cvAs,cvA,cvRL,cvR,cvBox,cv1,cvL,cv0,bI,byteI,intD,sD,sI,puD,elemsOf,upd]) rfl ?_)
  (repeat (first | (simp -implicitDefEqProofs only [ev,mixed,Nat.reduceLT,Nat.reduceAdd,Nat.reduceMul,reduceIte,Nat.reduceEqDiff,reduceCtorEq,Nat.reducePow,Nat.reduceLeDiff,Int.reduceLE,Int.reduceLT,Int.reduceToNat,Int.reduceEq,Nat.reduceBEq,itsOf,gdA,byteI,opid,lenQ,ixQ,ldH,readAt,readCells,asCell,faQ,exQ,fldQ,partA,buildQ,slQ,stH,bslH,appH,dcells,convI,elemsOf,D.one,nilS,fillD,convN,cvH,tyPurse0,g]) | (with_reducible refine ⟨?_,?_⟩; (· first | (obtain ⟨rfl⟩:=‹Hq _ _›; with_reducible refine chk_ok ?_; kernel_rfl) | kernel_rfl)) | (with_reducible intro ops hops)))
  (first | refine Call_flat [] [] (h2) (by simp [cvAs,cvA,cvRL,cvR,cvBox,cv1,cvL,cv0,bI,byteI,intD,sD,sI,puD,elemsOf,upd]) rfl ?_ | refine CallF_flat [] [] [] (h2) (fun G _=>by simp [cvAs,cvA,cvRL,cvR,cvBox,cv1,cvL,cv0,bI,byteI,intD,sD,sI,puD,elemsOf,upd]) rfl ?_)
  (repeat (first | (simp -implicitDefEqProofs only [ev,mixed,Nat.reduceLT,Nat.reduceAdd,Nat.reduceMul,reduceIte,Nat.reduceEqDiff,reduceCtorEq,Nat.reducePow,Nat.reduceLeDiff,Int.reduceLE,Int.reduceLT,Int.reduceToNat,Int.reduceEq,Nat.reduceBEq,itsOf,gdA,byteI,opid,lenQ,ixQ,ldH,readAt,readCells,asCell,faQ,exQ,fldQ,partA,buildQ,slQ,stH,bslH,appH,dcells,convI,elemsOf,D.one,nilS,fillD,convN,cvH,tyPurse0]) | (with_reducible refine ⟨?_,?_⟩; (· first | (obtain ⟨rfl⟩:=‹Hq _ _›; with_reducible refine chk_ok ?_; kernel_rfl) | kernel_rfl)) | (with_reducible intro ops hops)))
  refine fin_ret [] rfl ?_
  simp [cv,cv1,cv0,upd,intD]
 ·rw [if_neg h]
  have g:decide (c1=0)=false:=decide_eq_false h
  refine callD_W 18 Tryd.func69 rfl rfl rfl (fun _ _=>rfl) ?_
  (repeat (first | (simp -implicitDefEqProofs only [ev,mixed,Nat.reduceLT,Nat.reduceAdd,Nat.reduceMul,reduceIte,Nat.reduceEqDiff,reduceCtorEq,Nat.reducePow,Nat.reduceLeDiff,Int.reduceLE,Int.reduceLT,Int.reduceToNat,Int.reduceEq,Nat.reduceBEq,itsOf,gdA,byteI,opid,lenQ,ixQ,ldH,readAt,readCells,asCell,faQ,exQ,fldQ,partA,buildQ,slQ,stH,bslH,appH,dcells,convI,elemsOf,D.one,nilS,fillD,convN,cvH,tyPurse0,puD,sD,sI]) | (with_reducible refine ⟨?_,?_⟩; (· first | (obtain ⟨rfl⟩:=‹Hq _ _›; with_reducible refine chk_ok ?_; kernel_rfl) | kernel_rfl)) | (with_reducible intro ops hops)))
  (first | refine Call_flat [] [] (h1) (by simp [cvAs,cvA,cvRL,cvR,cvBox,cv1,cvL,cv0,bI,byteI,intD,sD,sI,puD,elemsOf,upd]) rfl ?_ | refine CallF_flat [] [] [] (h1) (fun G _=>by simp [cvAs,cvA,cvRL,cvR,cvBox,cv1,cvL,cv0,bI,byteI,intD,sD,sI,puD,elemsOf,upd]) rfl ?_)
  (repeat (first | (simp -implicitDefEqProofs only [ev,mixed,Nat.reduceLT,Nat.reduceAdd,Nat.reduceMul,reduceIte,Nat.reduceEqDiff,reduceCtorEq,Nat.reducePow,Nat.reduceLeDiff,Int.reduceLE,Int.reduceLT,Int.reduceToNat,Int.reduceEq,Nat.reduceBEq,itsOf,gdA,byteI,opid,lenQ,ixQ,ldH,readAt,readCells,asCell,faQ,exQ,fldQ,partA,buildQ,slQ,stH,bslH,appH,dcells,convI,elemsOf,D.one,nilS,fillD,convN,cvH,tyPurse0,g]) | (with_reducible refine ⟨?_,?_⟩; (· first | (obtain ⟨rfl⟩:=‹Hq _ _›; with_reducible refine chk_ok ?_; kernel_rfl) | kernel_rfl)) | (with_reducible intro ops hops)))
  refine fin_ret [] rfl ?_
  simp [cv,cv1,cv0,upd,intD]
end Go.Proofs.YtckjpabekmhnhaaDoor
