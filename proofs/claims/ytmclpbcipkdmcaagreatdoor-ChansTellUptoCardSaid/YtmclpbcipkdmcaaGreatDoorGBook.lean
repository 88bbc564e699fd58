/- Merged texts: Find, BookA, BookB, BookO, BookC. -/
import Derived.Test.YtmclpbcipkdmcaaGreatDoorAbs4
import Derived.Test.YtmclpbcipkdmcaaGreatDoorGHd
import Derived.Test.YtmclpbcipkdmcaaGreatDoorGSha
import Derived.Test.YtmclpbcipkdmcaaGreatDoorG0
set_option linter.all false
namespace Go.Proofs.YtmclpbcipkdmcaaGreatDoor
open Go Go.Abs Go.RowKit Go.Proofs.YtmclpbcipkdmcaaGreatDoor.Ty
structure PairD where
 k:List UInt8
 v:List UInt8
def encPr (p:PairD):List I:=[bI p.k,bI p.v]
def prD (p:PairD):D:=.agg [.i (bI p.k),.i (bI p.v)]
def psI (l:List PairD):I:=.sl (l.map encPr)
set_option maxHeartbeats 2000000
end Go.Proofs.YtmclpbcipkdmcaaGreatDoor
set_option linter.all false
namespace Go.Proofs.YtmclpbcipkdmcaaGreatDoor
open Go Go.Abs Go.RowKit Go.Proofs.YtmclpbcipkdmcaaGreatDoor.Ty
theorem tyBookA0:(type_of% @Ty.T3)∧(type_of% @Ty.T5)∧(type_of% @Ty.T29)∧(type_of% @Ty.T135):=⟨@Ty.T3,@Ty.T5,@Ty.T29,@Ty.T135⟩
theorem tyBookA1:(type_of% @Ty.T3)∧(type_of% @Ty.T5)∧(type_of% @Ty.T29)∧(type_of% @Ty.T37)∧(type_of% @Ty.T62)∧(type_of% @Ty.T135)∧(type_of% @Ty.T149):=⟨@Ty.T3,@Ty.T5,@Ty.T29,@Ty.T37,@Ty.T62,@Ty.T135,@Ty.T149⟩
def fltD (e i:Nat):D:=.agg [intD e,intD i]
def bigP (p:PairD):Bool:=decide (60 < p.k.length) || decide (200 < p.v.length)
def wrongGo (l:List PairD) (i:Nat):Nat × Nat :=
 if h:i < l.length then
  if bigP l[i] then (4,i)
  else if 0 < i∧0≤Lib.compareBytes (l[i - 1]'(by omega)).k l[i].k then (2,i)
  else wrongGo l (i+1)
 else (0,0)
termination_by l.length - i
def wrongF (l:List PairD):Nat × Nat:=if 200 < l.length then (5,0) else wrongGo l 0
set_option maxHeartbeats 2000000
theorem pair_A (p:PairD):PureD Tryz.prog 176 [prD p] (intD (if bigP p then 4 else 0)):=by
 unfold bigP
 refine callD_W 13 Tryz.func176 rfl rfl rfl (fun _ _=>rfl) ?_
 cases g1:decide ((60:Int) < (p.k.length:Int))
 ·have h1:decide (60 < p.k.length)=false:=by simp at g1 ⊢; omega
  (repeat (first | (simp -implicitDefEqProofs only [ev,mixed,Nat.reduceLT,Nat.reduceAdd,Nat.reduceMul,reduceIte,Nat.reduceEqDiff,reduceCtorEq,Nat.reducePow,Nat.reduceLeDiff,Int.reduceLE,Int.reduceLT,Int.reduceToNat,Int.reduceEq,Nat.reduceBEq,itsOf,gdA,byteI,opid,lenQ,ixQ,ldH,readAt,readCells,asCell,faQ,exQ,fldQ,partA,buildQ,slQ,stH,bslH,appH,dcells,convI,elemsOf,D.one,nilS,fillD,convN,cvH,tyBookA0,prD,bI,g1]) | (with_reducible refine ⟨?_,?_⟩; (· first | (obtain ⟨rfl⟩:=‹Hq _ _›; with_reducible refine chk_ok ?_; kernel_rfl) | kernel_rfl)) | (with_reducible intro ops hops)))
  refine Wc_split (fun h=>?_) (fun h=>?_)
  ·have h2:decide (200 < p.v.length)=true:=by simp at h ⊢; omega
   (repeat (first | (simp -implicitDefEqProofs only [ev,mixed,Nat.reduceLT,Nat.reduceAdd,Nat.reduceMul,reduceIte,Nat.reduceEqDiff,reduceCtorEq,Nat.reducePow,Nat.reduceLeDiff,Int.reduceLE,Int.reduceLT,Int.reduceToNat,Int.reduceEq,Nat.reduceBEq,itsOf,gdA,byteI,opid,lenQ,ixQ,ldH,readAt,readCells,asCell,faQ,exQ,fldQ,partA,buildQ,slQ,stH,bslH,appH,dcells,convI,elemsOf,D.one,nilS,fillD,convN,cvH,tyBookA0]) | (with_reducible refine ⟨?_,?_⟩; (· first | (obtain ⟨rfl⟩:=‹Hq _ _›; with_reducible refine chk_ok ?_; kernel_rfl) | kernel_rfl)) | (with_reducible intro ops hops)))
   refine fin_ret [] rfl ?_
   simp [cv,cv1,cv0,upd,intD,h1,h2]
  ·have h2:decide (200 < p.v.length)=false:=by simp at h ⊢; omega
   (repeat (first | (simp -implicitDefEqProofs only [ev,mixed,Nat.reduceLT,Nat.reduceAdd,Nat.reduceMul,reduceIte,Nat.reduceEqDiff,reduceCtorEq,Nat.reducePow,Nat.reduceLeDiff,Int.reduceLE,Int.reduceLT,Int.reduceToNat,Int.reduceEq,Nat.reduceBEq,itsOf,gdA,byteI,opid,lenQ,ixQ,ldH,readAt,readCells,asCell,faQ,exQ,fldQ,partA,buildQ,slQ,stH,bslH,appH,dcells,convI,elemsOf,D.one,nilS,fillD,convN,cvH,tyBookA0]) | (with_reducible refine ⟨?_,?_⟩; (· first | (obtain ⟨rfl⟩:=‹Hq _ _›; with_reducible refine chk_ok ?_; kernel_rfl) | kernel_rfl)) | (with_reducible intro ops hops)))
   refine fin_ret [] rfl ?_
   simp [cv,cv1,cv0,upd,intD,h1,h2]
 ·have h1:decide (60 < p.k.length)=true:=by simp at g1 ⊢; omega
  (repeat (first | (simp -implicitDefEqProofs only [ev,mixed,Nat.reduceLT,Nat.reduceAdd,Nat.reduceMul,reduceIte,Nat.reduceEqDiff,reduceCtorEq,Nat.reducePow,Nat.reduceLeDiff,Int.reduceLE,Int.reduceLT,Int.reduceToNat,Int.reduceEq,Nat.reduceBEq,itsOf,gdA,byteI,opid,lenQ,ixQ,ldH,readAt,readCells,asCell,faQ,exQ,fldQ,partA,buildQ,slQ,stH,bslH,appH,dcells,convI,elemsOf,D.one,nilS,fillD,convN,cvH,tyBookA0,prD,bI,g1]) | (with_reducible refine ⟨?_,?_⟩; (· first | (obtain ⟨rfl⟩:=‹Hq _ _›; with_reducible refine chk_ok ?_; kernel_rfl) | kernel_rfl)) | (with_reducible intro ops hops)))
  refine fin_ret [] rfl ?_
  simp [cv,cv1,cv0,upd,intD,h1]
theorem wrong_A (l:List PairD) (hl:l.length≤1048576):PureD Tryz.prog 135 [.i (psI l)] (fltD (wrongF l).1 (wrongF l).2):=by
 refine callD_W 42 Tryz.func135 rfl rfl rfl (fun _ _=>rfl) ?_
 (repeat (first | (simp -implicitDefEqProofs only [ev,mixed,Nat.reduceLT,Nat.reduceAdd,Nat.reduceMul,reduceIte,Nat.reduceEqDiff,reduceCtorEq,Nat.reducePow,Nat.reduceLeDiff,Int.reduceLE,Int.reduceLT,Int.reduceToNat,Int.reduceEq,Nat.reduceBEq,itsOf,gdA,byteI,opid,lenQ,ixQ,ldH,readAt,readCells,asCell,faQ,exQ,fldQ,partA,buildQ,slQ,stH,bslH,appH,dcells,convI,elemsOf,D.one,nilS,fillD,convN,cvH,tyBookA1,psI]) | (with_reducible refine ⟨?_,?_⟩; (· first | (obtain ⟨rfl⟩:=‹Hq _ _›; with_reducible refine chk_ok ?_; kernel_rfl) | kernel_rfl)) | (with_reducible intro ops hops)))
 refine Wc_split (fun h=>?_) (fun h=>?_)
 ·have h1:200 < l.length:=by simp at h; omega
  clear h
  (repeat (first | (simp -implicitDefEqProofs only [ev,mixed,Nat.reduceLT,Nat.reduceAdd,Nat.reduceMul,reduceIte,Nat.reduceEqDiff,reduceCtorEq,Nat.reducePow,Nat.reduceLeDiff,Int.reduceLE,Int.reduceLT,Int.reduceToNat,Int.reduceEq,Nat.reduceBEq,itsOf,gdA,byteI,opid,lenQ,ixQ,ldH,readAt,readCells,asCell,faQ,exQ,fldQ,partA,buildQ,slQ,stH,bslH,appH,dcells,convI,elemsOf,D.one,nilS,fillD,convN,cvH,tyBookA1]) | (with_reducible refine ⟨?_,?_⟩; (· first | (obtain ⟨rfl⟩:=‹Hq _ _›; with_reducible refine chk_ok ?_; kernel_rfl) | kernel_rfl)) | (with_reducible intro ops hops)))
  refine fin_c [] rfl ag149 sz149 (by simp [upd,readAt,readCells]; rfl) ?_
  simp [cv,cv1,cvL,cv0,upd,wrongF,h1,fltD,intD]
 ·have h1:¬ 200 < l.length:=by simp at h; omega
  clear h
  have hw:wrongF l=wrongGo l 0:=by rw [wrongF,if_neg h1]
  generalize wrongF l=R at hw
  (repeat (first | (simp -implicitDefEqProofs only [ev,mixed,Nat.reduceLT,Nat.reduceAdd,Nat.reduceMul,reduceIte,Nat.reduceEqDiff,reduceCtorEq,Nat.reducePow,Nat.reduceLeDiff,Int.reduceLE,Int.reduceLT,Int.reduceToNat,Int.reduceEq,Nat.reduceBEq,itsOf,gdA,byteI,opid,lenQ,ixQ,ldH,readAt,readCells,asCell,faQ,exQ,fldQ,partA,buildQ,slQ,stH,bslH,appH,dcells,convI,elemsOf,D.one,nilS,fillD,convN,cvH,tyBookA1]) | (with_reducible refine ⟨?_,?_⟩; (· first | (obtain ⟨rfl⟩:=‹Hq _ _›; with_reducible refine chk_ok ?_; kernel_rfl) | kernel_rfl)) | (with_reducible intro ops hops)))
  refine W_loopI (ι:=Nat) (fun i=>i≤l.length∧R=wrongGo l i)
   (fun i=>stOf [(0,.i (.sl (l.map encPr))),(2,.pt 100 0 0 0),(10,.i (.sl (l.map encPr))),(11,intD l.length),(12,intD i)] [(100,.box [intD 0,intD 0])]) (fun i=>l.length - i) 0 ⟨Nat.zero_le _,hw⟩ ?_ ?_
  ·refine le_stOf _ _ [] [(100,1000)] ?_ ?_ rfl rfl
   ·simp [cv,cvL,cv1,cv0,upd,lk,srcOf,intD]
   ·simp [objOk,srcOf,lk,cvO,cvL,cv0,frz,upd,D.one,intD,hO]
  ·rintro i ⟨hi,hR⟩
   rw [stOf_eq]
   (repeat (first | (simp -implicitDefEqProofs only [ev,mixed,Nat.reduceLT,Nat.reduceAdd,Nat.reduceMul,reduceIte,Nat.reduceEqDiff,reduceCtorEq,Nat.reducePow,Nat.reduceLeDiff,Int.reduceLE,Int.reduceLT,Int.reduceToNat,Int.reduceEq,Nat.reduceBEq,itsOf,gdA,byteI,opid,lenQ,ixQ,ldH,readAt,readCells,asCell,faQ,exQ,fldQ,partA,buildQ,slQ,stH,bslH,appH,dcells,convI,elemsOf,D.one,nilS,fillD,convN,cvH,tyBookA1,intD]) | (with_reducible refine ⟨?_,?_⟩; (· first | (obtain ⟨rfl⟩:=‹Hq _ _›; with_reducible refine chk_ok ?_; kernel_rfl) | kernel_rfl)) | (with_reducible intro ops hops)))
   refine Wc_split (fun h=>?_) (fun h=>?_)
   ·have h2:i < l.length:=by simp at h; omega
    clear h
    rw [wrongGo,dif_pos h2] at hR
    have e1:(l.map encPr)[i]?=some [bI l[i].k,bI l[i].v]:=by rw [List.getElem?_map,List.getElem?_eq_getElem h2]; rfl
    have w1:IntKind.i64.wrap ((i:Int)+1)=((i+1:Nat):Int):=by rw [wrap64 (by omega) (by omega)]; omega
    have hpr:=pair_A l[i]
    cases i with
    | zero =>
     have w0:IntKind.i64.wrap 1=1:=by decide
     generalize l[0]=p at *
     (repeat (first | (simp -implicitDefEqProofs only [ev,mixed,Nat.reduceLT,Nat.reduceAdd,Nat.reduceMul,reduceIte,Nat.reduceEqDiff,reduceCtorEq,Nat.reducePow,Nat.reduceLeDiff,Int.reduceLE,Int.reduceLT,Int.reduceToNat,Int.reduceEq,Nat.reduceBEq,itsOf,gdA,byteI,opid,lenQ,ixQ,ldH,readAt,readCells,asCell,faQ,exQ,fldQ,partA,buildQ,slQ,stH,bslH,appH,dcells,convI,elemsOf,D.one,nilS,fillD,convN,cvH,tyBookA1,e1]) | (with_reducible refine ⟨?_,?_⟩; (· first | (obtain ⟨rfl⟩:=‹Hq _ _›; with_reducible refine chk_ok ?_; kernel_rfl) | kernel_rfl)) | (with_reducible intro ops hops)))
     (first | refine Call_flat [] [] (hpr) (by simp [cvAs,cvA,cvRL,cvR,cvBox,cv1,cvL,cv0,bI,byteI,encPr,prD,psI,intD,fltD,elemsOf,upd]) rfl ?_ | refine CallF_flat [] [] [] (hpr) (fun G _=>by simp [cvAs,cvA,cvRL,cvR,cvBox,cv1,cvL,cv0,bI,byteI,encPr,prD,psI,intD,fltD,elemsOf,upd]) rfl ?_)
     cases hb:bigP p
     ·simp only [hb,Bool.false_eq_true,if_false,Nat.lt_irrefl,false_and] at hR
      (repeat (first | (simp -implicitDefEqProofs only [ev,mixed,Nat.reduceLT,Nat.reduceAdd,Nat.reduceMul,reduceIte,Nat.reduceEqDiff,reduceCtorEq,Nat.reducePow,Nat.reduceLeDiff,Int.reduceLE,Int.reduceLT,Int.reduceToNat,Int.reduceEq,Nat.reduceBEq,itsOf,gdA,byteI,opid,lenQ,ixQ,ldH,readAt,readCells,asCell,faQ,exQ,fldQ,partA,buildQ,slQ,stH,bslH,appH,dcells,convI,elemsOf,D.one,nilS,fillD,convN,cvH,tyBookA1,intD,w1]) | (with_reducible refine ⟨?_,?_⟩; (· first | (obtain ⟨rfl⟩:=‹Hq _ _›; with_reducible refine chk_ok ?_; kernel_rfl) | kernel_rfl)) | (with_reducible intro ops hops)))
      refine ⟨0+1,⟨h2,hR⟩,le_stOf _ _ [] [(100,100)] ?_ ?_ rfl rfl,by simp; omega⟩
      ·simp [cv,cvL,cv1,cv0,upd,lk,srcOf,intD,w0]
      ·simp [objOk,srcOf,lk,cvO,cvL,cv0,frz,upd,D.one,intD,hO]
     ·simp only [hb,if_true] at hR
      (repeat (first | (simp -implicitDefEqProofs only [ev,mixed,Nat.reduceLT,Nat.reduceAdd,Nat.reduceMul,reduceIte,Nat.reduceEqDiff,reduceCtorEq,Nat.reducePow,Nat.reduceLeDiff,Int.reduceLE,Int.reduceLT,Int.reduceToNat,Int.reduceEq,Nat.reduceBEq,itsOf,gdA,byteI,opid,lenQ,ixQ,ldH,readAt,readCells,asCell,faQ,exQ,fldQ,partA,buildQ,slQ,stH,bslH,appH,dcells,convI,elemsOf,D.one,nilS,fillD,convN,cvH,tyBookA1,intD]) | (with_reducible refine ⟨?_,?_⟩; (· first | (obtain ⟨rfl⟩:=‹Hq _ _›; with_reducible refine chk_ok ?_; kernel_rfl) | kernel_rfl)) | (with_reducible intro ops hops)))
      refine fin_c [] rfl ag149 sz149 (by simp [upd,readAt,readCells]; rfl) ?_
      simp [cv,cv1,cvL,cv0,upd,hR,fltD,intD]
    | succ i =>
     have h3:i < l.length:=by omega
     have e2:(l.map encPr)[i]?=some [bI l[i].k,bI l[i].v]:=by rw [List.getElem?_map,List.getElem?_eq_getElem h3]; rfl
     have w2:IntKind.i64.wrap (((i+1:Nat):Int) - 1)=(i:Int):=by rw [wrap64 (by omega) (by omega)]; omega
     have g1:decide ((0:Int) < ((i+1:Nat):Int))=true:=decide_eq_true (by omega)
     have hR':R=if bigP l[i+1] then (4,i+1) else if 0≤Lib.compareBytes l[i].k l[i+1].k then (2,i+1) else wrongGo l (i+1+1):=by
      rw [hR]; simp
     clear hR
     generalize l[i+1]=p at *
     generalize l[i]=q at *
     (repeat (first | (simp -implicitDefEqProofs only [ev,mixed,Nat.reduceLT,Nat.reduceAdd,Nat.reduceMul,reduceIte,Nat.reduceEqDiff,reduceCtorEq,Nat.reducePow,Nat.reduceLeDiff,Int.reduceLE,Int.reduceLT,Int.reduceToNat,Int.reduceEq,Nat.reduceBEq,itsOf,gdA,byteI,opid,lenQ,ixQ,ldH,readAt,readCells,asCell,faQ,exQ,fldQ,partA,buildQ,slQ,stH,bslH,appH,dcells,convI,elemsOf,D.one,nilS,fillD,convN,cvH,tyBookA1,e1]) | (with_reducible refine ⟨?_,?_⟩; (· first | (obtain ⟨rfl⟩:=‹Hq _ _›; with_reducible refine chk_ok ?_; kernel_rfl) | kernel_rfl)) | (with_reducible intro ops hops)))
     (first | refine Call_flat [] [] (hpr) (by simp [cvAs,cvA,cvRL,cvR,cvBox,cv1,cvL,cv0,bI,byteI,encPr,prD,psI,intD,fltD,elemsOf,upd]) rfl ?_ | refine CallF_flat [] [] [] (hpr) (fun G _=>by simp [cvAs,cvA,cvRL,cvR,cvBox,cv1,cvL,cv0,bI,byteI,encPr,prD,psI,intD,fltD,elemsOf,upd]) rfl ?_)
     cases hb:bigP p
     ·simp only [hb,Bool.false_eq_true,if_false] at hR'
      (repeat (first | (simp -implicitDefEqProofs only [ev,mixed,Nat.reduceLT,Nat.reduceAdd,Nat.reduceMul,reduceIte,Nat.reduceEqDiff,reduceCtorEq,Nat.reducePow,Nat.reduceLeDiff,Int.reduceLE,Int.reduceLT,Int.reduceToNat,Int.reduceEq,Nat.reduceBEq,itsOf,gdA,byteI,opid,lenQ,ixQ,ldH,readAt,readCells,asCell,faQ,exQ,fldQ,partA,buildQ,slQ,stH,bslH,appH,dcells,convI,elemsOf,D.one,nilS,fillD,convN,cvH,tyBookA1,intD,g1,w2,e2,bI]) | (with_reducible refine ⟨?_,?_⟩; (· first | (obtain ⟨rfl⟩:=‹Hq _ _›; with_reducible refine chk_ok ?_; kernel_rfl) | kernel_rfl)) | (with_reducible intro ops hops)))
      (first | refine Call_flat [] [] (cmp_A q.k p.k) (by simp [cvAs,cvA,cvRL,cvR,cvBox,cv1,cvL,cv0,bI,byteI,encPr,prD,psI,intD,fltD,elemsOf,upd]) rfl ?_ | refine CallF_flat [] [] [] (cmp_A q.k p.k) (fun G _=>by simp [cvAs,cvA,cvRL,cvR,cvBox,cv1,cvL,cv0,bI,byteI,encPr,prD,psI,intD,fltD,elemsOf,upd]) rfl ?_)
      (repeat (first | (simp -implicitDefEqProofs only [ev,mixed,Nat.reduceLT,Nat.reduceAdd,Nat.reduceMul,reduceIte,Nat.reduceEqDiff,reduceCtorEq,Nat.reducePow,Nat.reduceLeDiff,Int.reduceLE,Int.reduceLT,Int.reduceToNat,Int.reduceEq,Nat.reduceBEq,itsOf,gdA,byteI,opid,lenQ,ixQ,ldH,readAt,readCells,asCell,faQ,exQ,fldQ,partA,buildQ,slQ,stH,bslH,appH,dcells,convI,elemsOf,D.one,nilS,fillD,convN,cvH,tyBookA1]) | (with_reducible refine ⟨?_,?_⟩; (· first | (obtain ⟨rfl⟩:=‹Hq _ _›; with_reducible refine chk_ok ?_; kernel_rfl) | kernel_rfl)) | (with_reducible intro ops hops)))
      refine Wc_split (fun h=>?_) (fun h=>?_)
      ·have h4:0≤Lib.compareBytes q.k p.k:=by simpa using h
       rw [if_pos h4] at hR'
       (repeat (first | (simp -implicitDefEqProofs only [ev,mixed,Nat.reduceLT,Nat.reduceAdd,Nat.reduceMul,reduceIte,Nat.reduceEqDiff,reduceCtorEq,Nat.reducePow,Nat.reduceLeDiff,Int.reduceLE,Int.reduceLT,Int.reduceToNat,Int.reduceEq,Nat.reduceBEq,itsOf,gdA,byteI,opid,lenQ,ixQ,ldH,readAt,readCells,asCell,faQ,exQ,fldQ,partA,buildQ,slQ,stH,bslH,appH,dcells,convI,elemsOf,D.one,nilS,fillD,convN,cvH,tyBookA1]) | (with_reducible refine ⟨?_,?_⟩; (· first | (obtain ⟨rfl⟩:=‹Hq _ _›; with_reducible refine chk_ok ?_; kernel_rfl) | kernel_rfl)) | (with_reducible intro ops hops)))
       refine fin_c [] rfl ag149 sz149 (by simp [upd,readAt,readCells]; rfl) ?_
       simp [cv,cv1,cvL,cv0,upd,hR',fltD,intD]
      ·have h4:¬ 0≤Lib.compareBytes q.k p.k:=by simpa using h
       rw [if_neg h4] at hR'
       (repeat (first | (simp -implicitDefEqProofs only [ev,mixed,Nat.reduceLT,Nat.reduceAdd,Nat.reduceMul,reduceIte,Nat.reduceEqDiff,reduceCtorEq,Nat.reducePow,Nat.reduceLeDiff,Int.reduceLE,Int.reduceLT,Int.reduceToNat,Int.reduceEq,Nat.reduceBEq,itsOf,gdA,byteI,opid,lenQ,ixQ,ldH,readAt,readCells,asCell,faQ,exQ,fldQ,partA,buildQ,slQ,stH,bslH,appH,dcells,convI,elemsOf,D.one,nilS,fillD,convN,cvH,tyBookA1,w1]) | (with_reducible refine ⟨?_,?_⟩; (· first | (obtain ⟨rfl⟩:=‹Hq _ _›; with_reducible refine chk_ok ?_; kernel_rfl) | kernel_rfl)) | (with_reducible intro ops hops)))
       refine ⟨i+1+1,⟨h2,hR'⟩,le_stOf _ _ [] [(100,100)] ?_ ?_ rfl rfl,by simp; omega⟩
       ·simp [cv,cvL,cv1,cv0,upd,lk,srcOf,intD]
       ·simp [objOk,srcOf,lk,cvO,cvL,cv0,frz,upd,D.one,intD,hO]
     ·simp only [hb,if_true] at hR'
      (repeat (first | (simp -implicitDefEqProofs only [ev,mixed,Nat.reduceLT,Nat.reduceAdd,Nat.reduceMul,reduceIte,Nat.reduceEqDiff,reduceCtorEq,Nat.reducePow,Nat.reduceLeDiff,Int.reduceLE,Int.reduceLT,Int.reduceToNat,Int.reduceEq,Nat.reduceBEq,itsOf,gdA,byteI,opid,lenQ,ixQ,ldH,readAt,readCells,asCell,faQ,exQ,fldQ,partA,buildQ,slQ,stH,bslH,appH,dcells,convI,elemsOf,D.one,nilS,fillD,convN,cvH,tyBookA1,intD]) | (with_reducible refine ⟨?_,?_⟩; (· first | (obtain ⟨rfl⟩:=‹Hq _ _›; with_reducible refine chk_ok ?_; kernel_rfl) | kernel_rfl)) | (with_reducible intro ops hops)))
      refine fin_c [] rfl ag149 sz149 (by simp [upd,readAt,readCells]; rfl) ?_
      simp [cv,cv1,cvL,cv0,upd,hR',fltD,intD]
   ·have h2:¬ i < l.length:=by simp at h; omega
    clear h
    rw [wrongGo,dif_neg h2] at hR
    (repeat (first | (simp -implicitDefEqProofs only [ev,mixed,Nat.reduceLT,Nat.reduceAdd,Nat.reduceMul,reduceIte,Nat.reduceEqDiff,reduceCtorEq,Nat.reducePow,Nat.reduceLeDiff,Int.reduceLE,Int.reduceLT,Int.reduceToNat,Int.reduceEq,Nat.reduceBEq,itsOf,gdA,byteI,opid,lenQ,ixQ,ldH,readAt,readCells,asCell,faQ,exQ,fldQ,partA,buildQ,slQ,stH,bslH,appH,dcells,convI,elemsOf,D.one,nilS,fillD,convN,cvH,tyBookA1]) | (with_reducible refine ⟨?_,?_⟩; (· first | (obtain ⟨rfl⟩:=‹Hq _ _›; with_reducible refine chk_ok ?_; kernel_rfl) | kernel_rfl)) | (with_reducible intro ops hops)))
    refine fin_c [] rfl ag149 sz149 (by simp [upd,readAt,readCells]; rfl) ?_
    simp [cv,cv1,cvL,cv0,upd,hR,fltD,intD]
end Go.Proofs.YtmclpbcipkdmcaaGreatDoor
set_option linter.all false
namespace Go.Proofs.YtmclpbcipkdmcaaGreatDoor
open Go Go.Abs Go.RowKit Go.Proofs.YtmclpbcipkdmcaaGreatDoor.Ty
theorem tyBookB0:(type_of% @Ty.T3)∧(type_of% @Ty.T4)∧(type_of% @Ty.T5)∧(type_of% @Ty.T29):=⟨@Ty.T3,@Ty.T4,@Ty.T5,@Ty.T29⟩
theorem tyBookB1:(type_of% @Ty.T1)∧(type_of% @Ty.T3)∧(type_of% @Ty.T4)∧(type_of% @Ty.T5)∧(type_of% @Ty.T29)∧(type_of% @Ty.T30):=⟨@Ty.T1,@Ty.T3,@Ty.T4,@Ty.T5,@Ty.T29,@Ty.T30⟩
theorem tyBookB2:(type_of% @Ty.T1)∧(type_of% @Ty.T3)∧(type_of% @Ty.T5)∧(type_of% @Ty.T29)∧(type_of% @Ty.T30):=⟨@Ty.T1,@Ty.T3,@Ty.T5,@Ty.T29,@Ty.T30⟩
theorem tyBookB3:(type_of% @Ty.T1)∧(type_of% @Ty.T3)∧(type_of% @Ty.T5)∧(type_of% @Ty.T29)∧(type_of% @Ty.T30):=⟨@Ty.T1,@Ty.T3,@Ty.T5,@Ty.T29,@Ty.T30⟩
theorem tyBookB4:(type_of% @Ty.T3):=@Ty.T3
theorem tyBookB5:(type_of% @Ty.T3)∧(type_of% @Ty.T5)∧(type_of% @Ty.T29)∧(type_of% @Ty.T62)∧(type_of% @Ty.T135):=⟨@Ty.T3,@Ty.T5,@Ty.T29,@Ty.T62,@Ty.T135⟩
def four (n:Nat):List UInt8:=[byteOf n 16777216,byteOf n 65536,byteOf n 256,byteOf n 1]
def leafF (k v:List UInt8):List UInt8:=sha (0 :: (four k.length++(k++v)))
def nodeF (a b:List UInt8):List UInt8:=sha (1 :: (a++b))
def topF (n:Nat) (t:List UInt8):List UInt8:=sha (2 :: (four n++t))
def splitF (n:Nat):Nat:=2 ^ Nat.log2 (n - 1)
theorem splitF_lt {n:Nat} (h:2≤n):0 < splitF n∧splitF n < n:=by
 have:=Nat.log2_self_le (n:=n - 1) (by omega)
 have h2:0 < 2 ^ Nat.log2 (n - 1):=Nat.pow_pos (by decide)
 simp only [splitF]; omega
theorem splitF_le {n:Nat}:n≤2 * splitF n:=by
 have:=Nat.lt_log2_self (n:=n - 1)
 rw [Nat.pow_succ] at this
 simp only [splitF]; omega
def treeF (l:List PairD):List UInt8 :=
 match l with
 | []=>[]
 | [p]=>leafF p.k p.v
 | p :: q :: r=>nodeF (treeF ((p :: q :: r).take (splitF (p :: q :: r).length))) (treeF ((p :: q :: r).drop (splitF (p :: q :: r).length)))
termination_by l.length
decreasing_by
 all_goals
  have:=splitF_lt (n:=(p :: q :: r).length) (by simp)
  simp only [List.length_take,List.length_drop]
  omega
theorem treeF_one (p:PairD):treeF [p]=leafF p.k p.v:=by rw [treeF]
theorem treeF_two {l:List PairD} (h:2≤l.length):treeF l=nodeF (treeF (l.take (splitF l.length))) (treeF (l.drop (splitF l.length))):=by
 match l,h with
 | p :: q :: r,_=>conv=>lhs; rw [treeF]
theorem treeF_len (l:List PairD) (h:l≠[]):(treeF l).length=32:=by
 match l,h with
 | [p],_=>rw [treeF_one]; exact sha_length _
 | p :: q :: r,_=>rw [treeF_two (by simp)]; exact sha_length _
def rootF (l:List PairD):List UInt8:=topF l.length (treeF l)
theorem byte24 (n d k:Nat) (hd:d=2 ^ k) (hk:k < 64):IntKind.u8.wrap ((n:Int).fdiv (2 ^ min k (IntKind.bits .i64)))=((byteOf n d).toNat:Int):=by
 have hm:min k (IntKind.bits .i64)=k:=by simp [IntKind.bits]; omega
 rw [hm,Int.fdiv_eq_ediv_of_nonneg _ (by exact_mod_cast Nat.zero_le _),IntKind.wrap_u8]
 have:(n:Int) / 2 ^ k=((n / 2 ^ k:Nat):Int):=by rw [Int.natCast_ediv,Int.natCast_pow]; rfl
 rw [this,byteOf,hd]
 generalize n / 2 ^ k=x
 rw [UInt8.toNat_ofNat']; omega
theorem byte1 (n:Nat):IntKind.u8.wrap (n:Int)=((byteOf n 1).toNat:Int):=by
 rw [IntKind.wrap_u8,byteOf,Nat.div_one,UInt8.toNat_ofNat']; omega
set_option maxHeartbeats 2000000
theorem four_A (n:Nat):PureD Tryz.prog 177 [intD n] (.i (bI (four n))):=by
 have b1:=byte24 n 16777216 24 (by decide) (by decide)
 have b2:=byte24 n 65536 16 (by decide) (by decide)
 have b3:=byte24 n 256 8 (by decide) (by decide)
 have b4:=byte1 n
 simp only [four]
 generalize byteOf n 16777216=c1 at *
 generalize byteOf n 65536=c2 at *
 generalize byteOf n 256=c3 at *
 generalize byteOf n 1=c4 at *
 refine callD_W 15 Tryz.func177 rfl rfl rfl (fun _ _=>rfl) ?_
 (repeat (first | (simp -implicitDefEqProofs only [ev,mixed,Nat.reduceLT,Nat.reduceAdd,Nat.reduceMul,reduceIte,Nat.reduceEqDiff,reduceCtorEq,Nat.reducePow,Nat.reduceLeDiff,Int.reduceLE,Int.reduceLT,Int.reduceToNat,Int.reduceEq,Nat.reduceBEq,itsOf,gdA,byteI,opid,lenQ,ixQ,ldH,readAt,readCells,asCell,faQ,exQ,fldQ,partA,buildQ,slQ,stH,bslH,appH,dcells,convI,elemsOf,D.one,nilS,fillD,convN,cvH,tyBookB0,intD,b1,b2,b3,b4]) | (with_reducible refine ⟨?_,?_⟩; (· first | (obtain ⟨rfl⟩:=‹Hq _ _›; with_reducible refine chk_ok ?_; kernel_rfl) | kernel_rfl)) | (with_reducible intro ops hops)))
 refine fin_ret [1267] rfl ?_
 simp [cv,cv1,cv0,upd,elemsOf,bI,byteI]
theorem leaf_A (k v:List UInt8) (hk:k.length≤1048576) (hv:v.length≤1048576):PureD Tryz.prog 178 [.i (bI k),.i (bI v)] (.i (bI (leafF k v))):=by
 have hp:=parts_D [[0],four k.length,k,v] (by simp) (by intro b hb; simp at hb; rcases hb with rfl | rfl | rfl | rfl; simp; (simp [four]); omega; omega)
 have hf:[[0],four k.length,k,v].flatten=0 :: (four k.length++(k++v)):=by simp
 rw [hf] at hp
 rw [show sha (0 :: (four k.length++(k++v)))=leafF k v from rfl] at hp
 generalize leafF k v=R at *
 refine callD_W 13 Tryz.func178 rfl rfl rfl (fun _ _=>rfl) ?_
 (repeat (first | (simp -implicitDefEqProofs only [ev,mixed,Nat.reduceLT,Nat.reduceAdd,Nat.reduceMul,reduceIte,Nat.reduceEqDiff,reduceCtorEq,Nat.reducePow,Nat.reduceLeDiff,Int.reduceLE,Int.reduceLT,Int.reduceToNat,Int.reduceEq,Nat.reduceBEq,itsOf,gdA,byteI,opid,lenQ,ixQ,ldH,readAt,readCells,asCell,faQ,exQ,fldQ,partA,buildQ,slQ,stH,bslH,appH,dcells,convI,elemsOf,D.one,nilS,fillD,convN,cvH,tyBookB1,bI]) | (with_reducible refine ⟨?_,?_⟩; (· first | (obtain ⟨rfl⟩:=‹Hq _ _›; with_reducible refine chk_ok ?_; kernel_rfl) | kernel_rfl)) | (with_reducible intro ops hops)))
 (first | refine Call_frz [] (four_A k.length) (by simp [cvAs,cvA,cvRL,cvR,cvBox,cv1,cvL,cv0,bI,byteI,bbI,encPr,psI,intD,elemsOf,upd]) ?_ | refine CallF_frz [] [] (four_A k.length) (fun G _=>by simp [cvAs,cvA,cvRL,cvR,cvBox,cv1,cvL,cv0,bI,byteI,bbI,encPr,psI,intD,elemsOf,upd]) (by simp) ?_)
 (repeat (first | (simp -implicitDefEqProofs only [ev,mixed,Nat.reduceLT,Nat.reduceAdd,Nat.reduceMul,reduceIte,Nat.reduceEqDiff,reduceCtorEq,Nat.reducePow,Nat.reduceLeDiff,Int.reduceLE,Int.reduceLT,Int.reduceToNat,Int.reduceEq,Nat.reduceBEq,itsOf,gdA,byteI,opid,lenQ,ixQ,ldH,readAt,readCells,asCell,faQ,exQ,fldQ,partA,buildQ,slQ,stH,bslH,appH,dcells,convI,elemsOf,D.one,nilS,fillD,convN,cvH,tyBookB1,bI]) | (with_reducible refine ⟨?_,?_⟩; (· first | (obtain ⟨rfl⟩:=‹Hq _ _›; with_reducible refine chk_ok ?_; kernel_rfl) | kernel_rfl)) | (with_reducible intro ops hops)))
 (first | refine Call_frz [1262] (hp) (by simp [cvAs,cvA,cvRL,cvR,cvBox,cv1,cvL,cv0,bI,byteI,bbI,encPr,psI,intD,elemsOf,upd,frz,bbI]) ?_ | refine CallF_frz [1262] [1262] (hp) (fun G hG=>by (have hG1262:=hG 1262 (by simp); simp [cvAs,cvA,cvRL,cvR,cvBox,cv1,cvL,cv0,bI,byteI,bbI,encPr,psI,intD,elemsOf,upd,frz,bbI,hG1262])) (by simp) ?_)
 (repeat (first | (simp -implicitDefEqProofs only [ev,mixed,Nat.reduceLT,Nat.reduceAdd,Nat.reduceMul,reduceIte,Nat.reduceEqDiff,reduceCtorEq,Nat.reducePow,Nat.reduceLeDiff,Int.reduceLE,Int.reduceLT,Int.reduceToNat,Int.reduceEq,Nat.reduceBEq,itsOf,gdA,byteI,opid,lenQ,ixQ,ldH,readAt,readCells,asCell,faQ,exQ,fldQ,partA,buildQ,slQ,stH,bslH,appH,dcells,convI,elemsOf,D.one,nilS,fillD,convN,cvH,tyBookB1,bI]) | (with_reducible refine ⟨?_,?_⟩; (· first | (obtain ⟨rfl⟩:=‹Hq _ _›; with_reducible refine chk_ok ?_; kernel_rfl) | kernel_rfl)) | (with_reducible intro ops hops)))
 refine fin_ret [] rfl ?_
 simp [cv,cv1,cv0,upd]
theorem node_A (a b:List UInt8) (ha:a.length≤1048576) (hb:b.length≤1048576):PureD Tryz.prog 180 [.i (bI a),.i (bI b)] (.i (bI (nodeF a b))):=by
 have hp:=parts_D [[1],a,b] (by simp) (by intro x hx; simp at hx; rcases hx with rfl | rfl | rfl; simp; omega; omega)
 have hf:[[1],a,b].flatten=1 :: (a++b):=by simp
 rw [hf] at hp
 rw [show sha (1 :: (a++b))=nodeF a b from rfl] at hp
 generalize nodeF a b=R at *
 refine callD_W 10 Tryz.func180 rfl rfl rfl (fun _ _=>rfl) ?_
 (repeat (first | (simp -implicitDefEqProofs only [ev,mixed,Nat.reduceLT,Nat.reduceAdd,Nat.reduceMul,reduceIte,Nat.reduceEqDiff,reduceCtorEq,Nat.reducePow,Nat.reduceLeDiff,Int.reduceLE,Int.reduceLT,Int.reduceToNat,Int.reduceEq,Nat.reduceBEq,itsOf,gdA,byteI,opid,lenQ,ixQ,ldH,readAt,readCells,asCell,faQ,exQ,fldQ,partA,buildQ,slQ,stH,bslH,appH,dcells,convI,elemsOf,D.one,nilS,fillD,convN,cvH,tyBookB2,bI]) | (with_reducible refine ⟨?_,?_⟩; (· first | (obtain ⟨rfl⟩:=‹Hq _ _›; with_reducible refine chk_ok ?_; kernel_rfl) | kernel_rfl)) | (with_reducible intro ops hops)))
 (first | refine Call_frz [1259] (hp) (by simp [cvAs,cvA,cvRL,cvR,cvBox,cv1,cvL,cv0,bI,byteI,bbI,encPr,psI,intD,elemsOf,upd,frz,bbI]) ?_ | refine CallF_frz [1259] [1259] (hp) (fun G hG=>by (have hG1259:=hG 1259 (by simp); simp [cvAs,cvA,cvRL,cvR,cvBox,cv1,cvL,cv0,bI,byteI,bbI,encPr,psI,intD,elemsOf,upd,frz,bbI,hG1259])) (by simp) ?_)
 (repeat (first | (simp -implicitDefEqProofs only [ev,mixed,Nat.reduceLT,Nat.reduceAdd,Nat.reduceMul,reduceIte,Nat.reduceEqDiff,reduceCtorEq,Nat.reducePow,Nat.reduceLeDiff,Int.reduceLE,Int.reduceLT,Int.reduceToNat,Int.reduceEq,Nat.reduceBEq,itsOf,gdA,byteI,opid,lenQ,ixQ,ldH,readAt,readCells,asCell,faQ,exQ,fldQ,partA,buildQ,slQ,stH,bslH,appH,dcells,convI,elemsOf,D.one,nilS,fillD,convN,cvH,tyBookB2,bI]) | (with_reducible refine ⟨?_,?_⟩; (· first | (obtain ⟨rfl⟩:=‹Hq _ _›; with_reducible refine chk_ok ?_; kernel_rfl) | kernel_rfl)) | (with_reducible intro ops hops)))
 refine fin_ret [] rfl ?_
 simp [cv,cv1,cv0,upd]
theorem top_A (n:Nat) (t:List UInt8) (ht:t.length≤1048576):PureD Tryz.prog 136 [intD n,.i (bI t)] (.i (bI (topF n t))):=by
 have hp:=parts_D [[2],four n,t] (by simp) (by intro x hx; simp at hx; rcases hx with rfl | rfl | rfl; simp; (simp [four]); omega)
 have hf:[[2],four n,t].flatten=2 :: (four n++t):=by simp
 rw [hf] at hp
 rw [show sha (2 :: (four n++t))=topF n t from rfl] at hp
 generalize topF n t=R at *
 refine callD_W 11 Tryz.func136 rfl rfl rfl (fun _ _=>rfl) ?_
 (repeat (first | (simp -implicitDefEqProofs only [ev,mixed,Nat.reduceLT,Nat.reduceAdd,Nat.reduceMul,reduceIte,Nat.reduceEqDiff,reduceCtorEq,Nat.reducePow,Nat.reduceLeDiff,Int.reduceLE,Int.reduceLT,Int.reduceToNat,Int.reduceEq,Nat.reduceBEq,itsOf,gdA,byteI,opid,lenQ,ixQ,ldH,readAt,readCells,asCell,faQ,exQ,fldQ,partA,buildQ,slQ,stH,bslH,appH,dcells,convI,elemsOf,D.one,nilS,fillD,convN,cvH,tyBookB3,bI,intD]) | (with_reducible refine ⟨?_,?_⟩; (· first | (obtain ⟨rfl⟩:=‹Hq _ _›; with_reducible refine chk_ok ?_; kernel_rfl) | kernel_rfl)) | (with_reducible intro ops hops)))
 (first | refine Call_frz [] (four_A n) (by simp [cvAs,cvA,cvRL,cvR,cvBox,cv1,cvL,cv0,bI,byteI,bbI,encPr,psI,intD,elemsOf,upd]) ?_ | refine CallF_frz [] [] (four_A n) (fun G _=>by simp [cvAs,cvA,cvRL,cvR,cvBox,cv1,cvL,cv0,bI,byteI,bbI,encPr,psI,intD,elemsOf,upd]) (by simp) ?_)
 (repeat (first | (simp -implicitDefEqProofs only [ev,mixed,Nat.reduceLT,Nat.reduceAdd,Nat.reduceMul,reduceIte,Nat.reduceEqDiff,reduceCtorEq,Nat.reducePow,Nat.reduceLeDiff,Int.reduceLE,Int.reduceLT,Int.reduceToNat,Int.reduceEq,Nat.reduceBEq,itsOf,gdA,byteI,opid,lenQ,ixQ,ldH,readAt,readCells,asCell,faQ,exQ,fldQ,partA,buildQ,slQ,stH,bslH,appH,dcells,convI,elemsOf,D.one,nilS,fillD,convN,cvH,tyBookB3,bI]) | (with_reducible refine ⟨?_,?_⟩; (· first | (obtain ⟨rfl⟩:=‹Hq _ _›; with_reducible refine chk_ok ?_; kernel_rfl) | kernel_rfl)) | (with_reducible intro ops hops)))
 (first | refine Call_frz [1260] (hp) (by simp [cvAs,cvA,cvRL,cvR,cvBox,cv1,cvL,cv0,bI,byteI,bbI,encPr,psI,intD,elemsOf,upd,frz,bbI]) ?_ | refine CallF_frz [1260] [1260] (hp) (fun G hG=>by (have hG1260:=hG 1260 (by simp); simp [cvAs,cvA,cvRL,cvR,cvBox,cv1,cvL,cv0,bI,byteI,bbI,encPr,psI,intD,elemsOf,upd,frz,bbI,hG1260])) (by simp) ?_)
 (repeat (first | (simp -implicitDefEqProofs only [ev,mixed,Nat.reduceLT,Nat.reduceAdd,Nat.reduceMul,reduceIte,Nat.reduceEqDiff,reduceCtorEq,Nat.reducePow,Nat.reduceLeDiff,Int.reduceLE,Int.reduceLT,Int.reduceToNat,Int.reduceEq,Nat.reduceBEq,itsOf,gdA,byteI,opid,lenQ,ixQ,ldH,readAt,readCells,asCell,faQ,exQ,fldQ,partA,buildQ,slQ,stH,bslH,appH,dcells,convI,elemsOf,D.one,nilS,fillD,convN,cvH,tyBookB3,bI]) | (with_reducible refine ⟨?_,?_⟩; (· first | (obtain ⟨rfl⟩:=‹Hq _ _›; with_reducible refine chk_ok ?_; kernel_rfl) | kernel_rfl)) | (with_reducible intro ops hops)))
 refine fin_ret [] rfl ?_
 simp [cv,cv1,cv0,upd]
theorem pow2_split {n i:Nat} (h1:2 ^ i=1∨2 ^ i < n) (h2:n≤2 * 2 ^ i) (hn:1≤n):2 ^ i=splitF n:=by
 unfold splitF
 congr 1
 have hle:i≤Nat.log2 (n - 1)∨n - 1=0:=by
  by_cases h0:n - 1=0
  ·exact .inr h0
  ·refine .inl ((Nat.le_log2 h0).2 ?_)
   rcases h1 with h1 | h1 <;> omega
 have hge:n - 1=0∨Nat.log2 (n - 1) < i+1:=by
  by_cases h0:n - 1=0
  ·exact .inl h0
  ·refine .inr ((Nat.log2_lt h0).2 ?_)
   rw [Nat.pow_succ]; omega
 rcases hle with hle | hle
 ·rcases hge with hge | hge
  ·rw [hge] at hle ⊢; simp at hle ⊢; omega
  ·omega
 ·rw [hle]
  have:n=1:=by omega
  subst this
  simp
  rcases h1 with h1 | h1
  ·cases i with
   | zero=>rfl
   | succ i=>rw [Nat.pow_succ] at h1; omega
  ·have:0 < 2 ^ i:=Nat.pow_pos (by decide); omega
theorem split_A (n:Nat) (h0:1≤n) (hn:n≤1048576):PureD Tryz.prog 179 [intD n] (intD (splitF n)):=by
 refine callD_W 11 Tryz.func179 rfl rfl rfl (fun _ _=>rfl) ?_
 (repeat (first | (simp -implicitDefEqProofs only [ev,mixed,Nat.reduceLT,Nat.reduceAdd,Nat.reduceMul,reduceIte,Nat.reduceEqDiff,reduceCtorEq,Nat.reducePow,Nat.reduceLeDiff,Int.reduceLE,Int.reduceLT,Int.reduceToNat,Int.reduceEq,Nat.reduceBEq,itsOf,gdA,byteI,opid,lenQ,ixQ,ldH,readAt,readCells,asCell,faQ,exQ,fldQ,partA,buildQ,slQ,stH,bslH,appH,dcells,convI,elemsOf,D.one,nilS,fillD,convN,cvH,tyBookB4,intD]) | (with_reducible refine ⟨?_,?_⟩; (· first | (obtain ⟨rfl⟩:=‹Hq _ _›; with_reducible refine chk_ok ?_; kernel_rfl) | kernel_rfl)) | (with_reducible intro ops hops)))
 refine W_loopI (ι:=Nat) (fun i=>2 ^ i=1∨2 ^ i < n)
  (fun i=>stOf [(0,intD n),(3,intD (2 ^ i:Nat))] []) (fun i=>n - 2 ^ i) 0 (.inl rfl) ?_ ?_
 ·refine le_stOf _ _ [] [] ?_ ?_ rfl rfl
  ·simp [cv,cv1,cv0,upd,lk,srcOf,intD]
  ·simp
 ·rintro i hi
  rw [stOf_eq]
  have hp:0 < 2 ^ i:=Nat.pow_pos (by decide)
  have hs:2 ^ (i+1)=2 * 2 ^ i:=by rw [Nat.pow_succ]; omega
  have hfin:=pow2_split hi
  have w1:IntKind.i64.wrap (2 * ((2 ^ i:Nat):Int))=((2 ^ (i+1):Nat):Int):=by rw [hs,wrap64 (by omega) (by omega)]; omega
  have w2:IntKind.i64.wrap (((2 ^ i:Nat):Int) * 2)=((2 ^ (i+1):Nat):Int):=by rw [hs,wrap64 (by omega) (by omega)]; omega
  generalize hx:2 ^ i=x at *
  generalize hy:2 ^ (i+1)=y at *
  (repeat (first | (simp -implicitDefEqProofs only [ev,mixed,Nat.reduceLT,Nat.reduceAdd,Nat.reduceMul,reduceIte,Nat.reduceEqDiff,reduceCtorEq,Nat.reducePow,Nat.reduceLeDiff,Int.reduceLE,Int.reduceLT,Int.reduceToNat,Int.reduceEq,Nat.reduceBEq,itsOf,gdA,byteI,opid,lenQ,ixQ,ldH,readAt,readCells,asCell,faQ,exQ,fldQ,partA,buildQ,slQ,stH,bslH,appH,dcells,convI,elemsOf,D.one,nilS,fillD,convN,cvH,tyBookB4,intD,w1]) | (with_reducible refine ⟨?_,?_⟩; (· first | (obtain ⟨rfl⟩:=‹Hq _ _›; with_reducible refine chk_ok ?_; kernel_rfl) | kernel_rfl)) | (with_reducible intro ops hops)))
  refine Wc_split (fun h=>?_) (fun h=>?_)
  ·have h1:y < n:=by simp at h; omega
   clear h
   (repeat (first | (simp -implicitDefEqProofs only [ev,mixed,Nat.reduceLT,Nat.reduceAdd,Nat.reduceMul,reduceIte,Nat.reduceEqDiff,reduceCtorEq,Nat.reducePow,Nat.reduceLeDiff,Int.reduceLE,Int.reduceLT,Int.reduceToNat,Int.reduceEq,Nat.reduceBEq,itsOf,gdA,byteI,opid,lenQ,ixQ,ldH,readAt,readCells,asCell,faQ,exQ,fldQ,partA,buildQ,slQ,stH,bslH,appH,dcells,convI,elemsOf,D.one,nilS,fillD,convN,cvH,tyBookB4,w2]) | (with_reducible refine ⟨?_,?_⟩; (· first | (obtain ⟨rfl⟩:=‹Hq _ _›; with_reducible refine chk_ok ?_; kernel_rfl) | kernel_rfl)) | (with_reducible intro ops hops)))
   refine ⟨i+1,by show 2 ^ (i+1)=1∨2 ^ (i+1) < n; rw [hy]; exact .inr h1,le_stOf _ _ [] [] ?_ ?_ rfl rfl,by simp only [hx,hy]; omega⟩
   ·simp only [hy]; simp [cv,cv1,cv0,upd,lk,srcOf,intD]
   ·simp
  ·have h1:n≤2 * x:=by simp at h; omega
   clear h
   (repeat (first | (simp -implicitDefEqProofs only [ev,mixed,Nat.reduceLT,Nat.reduceAdd,Nat.reduceMul,reduceIte,Nat.reduceEqDiff,reduceCtorEq,Nat.reducePow,Nat.reduceLeDiff,Int.reduceLE,Int.reduceLT,Int.reduceToNat,Int.reduceEq,Nat.reduceBEq,itsOf,gdA,byteI,opid,lenQ,ixQ,ldH,readAt,readCells,asCell,faQ,exQ,fldQ,partA,buildQ,slQ,stH,bslH,appH,dcells,convI,elemsOf,D.one,nilS,fillD,convN,cvH,tyBookB4]) | (with_reducible refine ⟨?_,?_⟩; (· first | (obtain ⟨rfl⟩:=‹Hq _ _›; with_reducible refine chk_ok ?_; kernel_rfl) | kernel_rfl)) | (with_reducible intro ops hops)))
   refine fin_ret [] rfl ?_
   simp [cv,cv1,cv0,upd,intD,hfin h1 h0]
theorem tree_A:∀ (n:Nat) (l:List PairD),l.length=n→l≠[]→l.length≤1048576→(∀ p∈l,p.k.length≤1048576∧p.v.length≤1048576)→PureD Tryz.prog 137 [.i (psI l)] (.i (bI (treeF l))):=by
 intro n
 induction n using Nat.strongRecOn with
 | _ n ih =>
  intro l hn hne hl hb
  by_cases h1:l.length=1
  ·obtain ⟨p,rfl⟩:=List.length_eq_one_iff.1 h1
   have hp:=hb p (by simp)
   have hlf:=leaf_A p.k p.v hp.1 hp.2
   rw [treeF_one]
   generalize leafF p.k p.v=R at *
   refine callD_W 28 Tryz.func137 rfl rfl rfl (fun _ _=>rfl) ?_
   (repeat (first | (simp -implicitDefEqProofs only [ev,mixed,Nat.reduceLT,Nat.reduceAdd,Nat.reduceMul,reduceIte,Nat.reduceEqDiff,reduceCtorEq,Nat.reducePow,Nat.reduceLeDiff,Int.reduceLE,Int.reduceLT,Int.reduceToNat,Int.reduceEq,Nat.reduceBEq,itsOf,gdA,byteI,opid,lenQ,ixQ,ldH,readAt,readCells,asCell,faQ,exQ,fldQ,partA,buildQ,slQ,stH,bslH,appH,dcells,convI,elemsOf,D.one,nilS,fillD,convN,cvH,tyBookB5,psI,List.map_cons,List.map_nil,encPr,bI]) | (with_reducible refine ⟨?_,?_⟩; (· first | (obtain ⟨rfl⟩:=‹Hq _ _›; with_reducible refine chk_ok ?_; kernel_rfl) | kernel_rfl)) | (with_reducible intro ops hops)))
   (first | refine Call_frz [] (hlf) (by simp [cvAs,cvA,cvRL,cvR,cvBox,cv1,cvL,cv0,bI,byteI,bbI,encPr,psI,intD,elemsOf,upd]) ?_ | refine CallF_frz [] [] (hlf) (fun G _=>by simp [cvAs,cvA,cvRL,cvR,cvBox,cv1,cvL,cv0,bI,byteI,bbI,encPr,psI,intD,elemsOf,upd]) (by simp) ?_)
   (repeat (first | (simp -implicitDefEqProofs only [ev,mixed,Nat.reduceLT,Nat.reduceAdd,Nat.reduceMul,reduceIte,Nat.reduceEqDiff,reduceCtorEq,Nat.reducePow,Nat.reduceLeDiff,Int.reduceLE,Int.reduceLT,Int.reduceToNat,Int.reduceEq,Nat.reduceBEq,itsOf,gdA,byteI,opid,lenQ,ixQ,ldH,readAt,readCells,asCell,faQ,exQ,fldQ,partA,buildQ,slQ,stH,bslH,appH,dcells,convI,elemsOf,D.one,nilS,fillD,convN,cvH,tyBookB5,bI]) | (with_reducible refine ⟨?_,?_⟩; (· first | (obtain ⟨rfl⟩:=‹Hq _ _›; with_reducible refine chk_ok ?_; kernel_rfl) | kernel_rfl)) | (with_reducible intro ops hops)))
   refine fin_ret [] rfl ?_
   simp [cv,cv1,cv0,upd]
  ·have h2:2≤l.length:=by have:=List.length_pos_iff.2 hne; omega
   have hs:=splitF_lt h2
   rw [treeF_two h2]
   have hsp:=split_A l.length (by omega) hl
   generalize splitF l.length=k at *
   have t1:=ih (l.take k).length (by simp; omega) (l.take k) rfl (by intro hc; have:=congrArg List.length hc; simp only [List.length_take,List.length_drop,List.length_nil] at this; omega) (by simp; omega) (fun p hp=>hb p (List.mem_of_mem_take hp))
   have t2:=ih (l.drop k).length (by simp; omega) (l.drop k) rfl (by intro hc; have:=congrArg List.length hc; simp only [List.length_take,List.length_drop,List.length_nil] at this; omega) (by simp; omega) (fun p hp=>hb p (List.mem_of_mem_drop hp))
   have l1:(treeF (l.take k)).length=32:=treeF_len _ (by intro hc; have:=congrArg List.length hc; simp only [List.length_take,List.length_drop,List.length_nil] at this; omega)
   have l2:(treeF (l.drop k)).length=32:=treeF_len _ (by intro hc; have:=congrArg List.length hc; simp only [List.length_take,List.length_drop,List.length_nil] at this; omega)
   have hnd:=node_A (treeF (l.take k)) (treeF (l.drop k)) (by omega) (by omega)
   generalize treeF (l.take k)=T1 at *
   generalize treeF (l.drop k)=T2 at *
   generalize nodeF T1 T2=R at *
   have g1:decide ((l.length:Int)=1)=false:=by simp; omega
   have g2:((k:Int)≤(l.length:Int))=True:=eq_true (by omega)
   have u1:uni 2 (l.map encPr)=true:=by simp [uni,encPr]
   refine callD_W 28 Tryz.func137 rfl rfl rfl (fun _ _=>rfl) ?_
   (repeat (first | (simp -implicitDefEqProofs only [ev,mixed,Nat.reduceLT,Nat.reduceAdd,Nat.reduceMul,reduceIte,Nat.reduceEqDiff,reduceCtorEq,Nat.reducePow,Nat.reduceLeDiff,Int.reduceLE,Int.reduceLT,Int.reduceToNat,Int.reduceEq,Nat.reduceBEq,itsOf,gdA,byteI,opid,lenQ,ixQ,ldH,readAt,readCells,asCell,faQ,exQ,fldQ,partA,buildQ,slQ,stH,bslH,appH,dcells,convI,elemsOf,D.one,nilS,fillD,convN,cvH,tyBookB5,psI,g1]) | (with_reducible refine ⟨?_,?_⟩; (· first | (obtain ⟨rfl⟩:=‹Hq _ _›; with_reducible refine chk_ok ?_; kernel_rfl) | kernel_rfl)) | (with_reducible intro ops hops)))
   (first | refine Call_flat [] [] (hsp) (by simp [cvAs,cvA,cvRL,cvR,cvBox,cv1,cvL,cv0,bI,byteI,bbI,encPr,psI,intD,elemsOf,upd]) rfl ?_ | refine CallF_flat [] [] [] (hsp) (fun G _=>by simp [cvAs,cvA,cvRL,cvR,cvBox,cv1,cvL,cv0,bI,byteI,bbI,encPr,psI,intD,elemsOf,upd]) rfl ?_)
   (repeat (first | (simp -implicitDefEqProofs only [ev,mixed,Nat.reduceLT,Nat.reduceAdd,Nat.reduceMul,reduceIte,Nat.reduceEqDiff,reduceCtorEq,Nat.reducePow,Nat.reduceLeDiff,Int.reduceLE,Int.reduceLT,Int.reduceToNat,Int.reduceEq,Nat.reduceBEq,itsOf,gdA,byteI,opid,lenQ,ixQ,ldH,readAt,readCells,asCell,faQ,exQ,fldQ,partA,buildQ,slQ,stH,bslH,appH,dcells,convI,elemsOf,D.one,nilS,fillD,convN,cvH,tyBookB5,intD,psI,g2,u1,← List.map_take,← List.map_drop]) | (with_reducible refine ⟨?_,?_⟩; (· first | (obtain ⟨rfl⟩:=‹Hq _ _›; with_reducible refine chk_ok ?_; kernel_rfl) | kernel_rfl)) | (with_reducible intro ops hops)))
   (first | refine Call_frz [] (t1) (by simp [cvAs,cvA,cvRL,cvR,cvBox,cv1,cvL,cv0,bI,byteI,bbI,encPr,psI,intD,elemsOf,upd]) ?_ | refine CallF_frz [] [] (t1) (fun G _=>by simp [cvAs,cvA,cvRL,cvR,cvBox,cv1,cvL,cv0,bI,byteI,bbI,encPr,psI,intD,elemsOf,upd]) (by simp) ?_)
   (repeat (first | (simp -implicitDefEqProofs only [ev,mixed,Nat.reduceLT,Nat.reduceAdd,Nat.reduceMul,reduceIte,Nat.reduceEqDiff,reduceCtorEq,Nat.reducePow,Nat.reduceLeDiff,Int.reduceLE,Int.reduceLT,Int.reduceToNat,Int.reduceEq,Nat.reduceBEq,itsOf,gdA,byteI,opid,lenQ,ixQ,ldH,readAt,readCells,asCell,faQ,exQ,fldQ,partA,buildQ,slQ,stH,bslH,appH,dcells,convI,elemsOf,D.one,nilS,fillD,convN,cvH,tyBookB5,bI,psI,g2,u1,← List.map_take,← List.map_drop]) | (with_reducible refine ⟨?_,?_⟩; (· first | (obtain ⟨rfl⟩:=‹Hq _ _›; with_reducible refine chk_ok ?_; kernel_rfl) | kernel_rfl)) | (with_reducible intro ops hops)))
   (first | refine Call_frz [] (t2) (by simp [cvAs,cvA,cvRL,cvR,cvBox,cv1,cvL,cv0,bI,byteI,bbI,encPr,psI,intD,elemsOf,upd]) ?_ | refine CallF_frz [] [] (t2) (fun G _=>by simp [cvAs,cvA,cvRL,cvR,cvBox,cv1,cvL,cv0,bI,byteI,bbI,encPr,psI,intD,elemsOf,upd]) (by simp) ?_)
   (repeat (first | (simp -implicitDefEqProofs only [ev,mixed,Nat.reduceLT,Nat.reduceAdd,Nat.reduceMul,reduceIte,Nat.reduceEqDiff,reduceCtorEq,Nat.reducePow,Nat.reduceLeDiff,Int.reduceLE,Int.reduceLT,Int.reduceToNat,Int.reduceEq,Nat.reduceBEq,itsOf,gdA,byteI,opid,lenQ,ixQ,ldH,readAt,readCells,asCell,faQ,exQ,fldQ,partA,buildQ,slQ,stH,bslH,appH,dcells,convI,elemsOf,D.one,nilS,fillD,convN,cvH,tyBookB5,bI]) | (with_reducible refine ⟨?_,?_⟩; (· first | (obtain ⟨rfl⟩:=‹Hq _ _›; with_reducible refine chk_ok ?_; kernel_rfl) | kernel_rfl)) | (with_reducible intro ops hops)))
   (first | refine Call_frz [] (hnd) (by simp [cvAs,cvA,cvRL,cvR,cvBox,cv1,cvL,cv0,bI,byteI,bbI,encPr,psI,intD,elemsOf,upd]) ?_ | refine CallF_frz [] [] (hnd) (fun G _=>by simp [cvAs,cvA,cvRL,cvR,cvBox,cv1,cvL,cv0,bI,byteI,bbI,encPr,psI,intD,elemsOf,upd]) (by simp) ?_)
   (repeat (first | (simp -implicitDefEqProofs only [ev,mixed,Nat.reduceLT,Nat.reduceAdd,Nat.reduceMul,reduceIte,Nat.reduceEqDiff,reduceCtorEq,Nat.reducePow,Nat.reduceLeDiff,Int.reduceLE,Int.reduceLT,Int.reduceToNat,Int.reduceEq,Nat.reduceBEq,itsOf,gdA,byteI,opid,lenQ,ixQ,ldH,readAt,readCells,asCell,faQ,exQ,fldQ,partA,buildQ,slQ,stH,bslH,appH,dcells,convI,elemsOf,D.one,nilS,fillD,convN,cvH,tyBookB5,bI]) | (with_reducible refine ⟨?_,?_⟩; (· first | (obtain ⟨rfl⟩:=‹Hq _ _›; with_reducible refine chk_ok ?_; kernel_rfl) | kernel_rfl)) | (with_reducible intro ops hops)))
   refine fin_ret [] rfl ?_
   simp [cv,cv1,cv0,upd]
end Go.Proofs.YtmclpbcipkdmcaaGreatDoor
set_option linter.all false
namespace Go.Proofs.YtmclpbcipkdmcaaGreatDoor
open Go Go.Abs
structure Right (l:List PairD):Prop where
 len:l.length≤200
 big:∀ p∈l,p.k.length≤60∧p.v.length≤200
 ord:∀ i j (hi:i < l.length) (hj:j < l.length),i < j→Lib.compareBytes l[i].k l[j].k < 0
theorem bigP_no {p:PairD} (h:bigP p=false):p.k.length≤60∧p.v.length≤200:=by
 simp [bigP] at h; omega
theorem wrongGo_ok (l:List PairD):∀ (d i:Nat),l.length - i=d→(wrongGo l i).1=0→∀ a (ha:a < l.length),i≤a→bigP l[a]=false∧(∀ h:0 < a,Lib.compareBytes (l[a - 1]'(by omega)).k l[a].k < 0):=by
 intro d
 induction d with
 | zero=>intro i hd _ a ha hia; omega
 | succ d ih =>
  intro i hd hw a ha hia
  rw [wrongGo,dif_pos (by omega)] at hw
  split at hw
  ·cases hw
  ·rename_i hb
   split at hw
   ·cases hw
   ·rename_i hc
    by_cases hai:a=i
    ·subst hai
     refine ⟨by simpa using hb,fun h=>?_⟩
     have:¬ 0≤Lib.compareBytes (l[a - 1]'(by omega)).k l[a].k:=fun h'=>hc ⟨h,h'⟩
     omega
    ·exact ih (i+1) (by omega) hw a ha (by omega)
theorem right_of {l:List PairD} (h:(wrongF l).1=0):Right l:=by
 unfold wrongF at h
 split at h
 ·cases h
 ·rename_i hl
  have hw:=wrongGo_ok l _ 0 rfl h
  refine ⟨by omega,fun p hp=>?_,?_⟩
  ·obtain ⟨a,ha,rfl⟩:=List.getElem_of_mem hp
   exact bigP_no (hw a ha (Nat.zero_le _)).1
  ·intro i j
   induction j with
   | zero=>intro _ _ h; omega
   | succ j ih =>
    intro hi hj hij
    have h1:=(hw (j+1) hj (Nat.zero_le _)).2 (by omega)
    simp only [Nat.add_sub_cancel] at h1
    by_cases hc:i=j
    ·subst hc; exact h1
    ·exact cmp_trans _ _ _ (ih hi (by omega) (by omega)) h1
theorem wrongGo_right {l:List PairD} (h:Right l):∀ (d i:Nat),l.length - i=d→wrongGo l i=(0,0):=by
 intro d
 induction d with
 | zero=>intro i hd; rw [wrongGo,dif_neg (by omega)]
 | succ d ih =>
  intro i hd
  have hi:i < l.length:=by omega
  rw [wrongGo,dif_pos hi]
  have hb:=h.big _ (List.getElem_mem hi)
  rw [if_neg (by simp [bigP]; omega),if_neg,ih (i+1) (by omega)]
  rintro ⟨h1,h2⟩
  have:=h.ord (i - 1) i (by omega) hi (by omega)
  omega
theorem wrong_right {l:List PairD} (h:Right l):wrongF l=(0,0):=by
 rw [wrongF,if_neg (by have:=h.len; omega)]; exact wrongGo_right h _ 0 rfl
theorem wrong_zero {l:List PairD} (h:(wrongF l).1=0):wrongF l=(0,0):=wrong_right (right_of h)
def placeF (l:List PairD) (key:List UInt8):Nat:=(l.takeWhile fun p=>decide (Lib.compareBytes p.k key < 0)).length
def thereF (l:List PairD) (key:List UInt8):Bool:=if h:placeF l key < l.length then decide (l[placeF l key].k=key) else false
theorem placeF_le (l:List PairD) (key:List UInt8):placeF l key≤l.length:=(List.takeWhile_sublist _).length_le
theorem placeF_lo (key:List UInt8):∀ (l:List PairD) (a:Nat) (ha:a < l.length),a < placeF l key→Lib.compareBytes l[a].k key < 0
 | [],a,ha,_=>by simp at ha
 | p :: t,a,ha,h=>by
  unfold placeF at h
  rw [List.takeWhile_cons] at h
  split at h
  ·rename_i hp
   cases a with
   | zero=>simpa using hp
   | succ a=>exact placeF_lo key t a (by simpa using ha) (by simpa [placeF] using h)
  ·simp at h
theorem placeF_at (key:List UInt8):∀ (l:List PairD) (h:placeF l key < l.length),¬ Lib.compareBytes l[placeF l key].k key < 0
 | [],h=>by simp at h
 | p :: t,h=>by
  unfold placeF at h
  simp only [placeF]
  by_cases hp:decide (Lib.compareBytes p.k key < 0)=true
  ·have e:(List.takeWhile (fun p=>decide (Lib.compareBytes p.k key < 0)) (p :: t)).length=placeF t key+1:=by
    rw [List.takeWhile_cons,if_pos hp]; rfl
   simp only [e] at h ⊢
   have:=placeF_at key t (by simpa using h)
   simpa using this
  ·have e:(List.takeWhile (fun p=>decide (Lib.compareBytes p.k key < 0)) (p :: t)).length=0:=by
    rw [List.takeWhile_cons,if_neg hp]; rfl
   simp only [e]
   simpa using hp
theorem placeF_iff {l:List PairD} (h:Right l) (key:List UInt8):∀ a (ha:a < l.length),Lib.compareBytes l[a].k key < 0↔a < placeF l key:=by
 intro a ha
 refine ⟨fun h1=>?_,placeF_lo key l a ha⟩
 apply Decidable.byContradiction
 intro hc
 have hp:placeF l key < l.length:=by omega
 have h2:=placeF_at key l hp
 by_cases he:a=placeF l key
 ·subst he; exact h2 h1
 ·exact h2 (cmp_trans _ _ _ (h.ord _ a hp ha (by omega)) h1)
end Go.Proofs.YtmclpbcipkdmcaaGreatDoor
set_option linter.all false
namespace Go.Proofs.YtmclpbcipkdmcaaGreatDoor
open Go Go.Abs Go.RowKit Go.Proofs.YtmclpbcipkdmcaaGreatDoor.Ty
theorem tyBookC0:(type_of% @Ty.T3)∧(type_of% @Ty.T5)∧(type_of% @Ty.T29)∧(type_of% @Ty.T37)∧(type_of% @Ty.T62)∧(type_of% @Ty.T135)∧(type_of% @Ty.T149):=⟨@Ty.T3,@Ty.T5,@Ty.T29,@Ty.T37,@Ty.T62,@Ty.T135,@Ty.T149⟩
set_option maxHeartbeats 2000000
def rootR (l:List PairD):List UInt8:=if (wrongF l).1=0 then rootF l else []
theorem root_B (l:List PairD) (hl:l.length≤1048576):PureD Tryz.prog 95 [.i (psI l)] (.tup [.i (bI (rootR l)),fltD (wrongF l).1 (wrongF l).2]):=by
 have hw:=wrong_A l hl
 unfold rootR
 by_cases h0:(wrongF l).1=0
 ·have hr:=right_of h0
  have hz:=wrong_zero h0
  rw [if_pos h0,hz]
  rw [hz] at hw
  simp only at *
  cases l with
  | nil =>
   have ht:=top_A 0 [] (by simp)
   rw [show topF 0 []=rootF [] by rw [rootF,treeF]; rfl] at ht
   generalize rootF []=R at *
   refine callD_W 22 Tryz.func95 rfl rfl rfl (fun _ _=>rfl) ?_
   (repeat (first | (simp -implicitDefEqProofs only [ev,mixed,Nat.reduceLT,Nat.reduceAdd,Nat.reduceMul,reduceIte,Nat.reduceEqDiff,reduceCtorEq,Nat.reducePow,Nat.reduceLeDiff,Int.reduceLE,Int.reduceLT,Int.reduceToNat,Int.reduceEq,Nat.reduceBEq,itsOf,gdA,byteI,opid,lenQ,ixQ,ldH,readAt,readCells,asCell,faQ,exQ,fldQ,partA,buildQ,slQ,stH,bslH,appH,dcells,convI,elemsOf,D.one,nilS,fillD,convN,cvH,tyBookC0,psI]) | (with_reducible refine ⟨?_,?_⟩; (· first | (obtain ⟨rfl⟩:=‹Hq _ _›; with_reducible refine chk_ok ?_; kernel_rfl) | kernel_rfl)) | (with_reducible intro ops hops)))
   (first | refine Call_flat [] [] (hw) (by simp [cvAs,cvA,cvRL,cvR,cvBox,cv1,cvL,cv0,bI,byteI,psI,intD,fltD,elemsOf,upd]) rfl ?_ | refine CallF_flat [] [] [] (hw) (fun G _=>by simp [cvAs,cvA,cvRL,cvR,cvBox,cv1,cvL,cv0,bI,byteI,psI,intD,fltD,elemsOf,upd]) rfl ?_)
   (repeat (first | (simp -implicitDefEqProofs only [ev,mixed,Nat.reduceLT,Nat.reduceAdd,Nat.reduceMul,reduceIte,Nat.reduceEqDiff,reduceCtorEq,Nat.reducePow,Nat.reduceLeDiff,Int.reduceLE,Int.reduceLT,Int.reduceToNat,Int.reduceEq,Nat.reduceBEq,itsOf,gdA,byteI,opid,lenQ,ixQ,ldH,readAt,readCells,asCell,faQ,exQ,fldQ,partA,buildQ,slQ,stH,bslH,appH,dcells,convI,elemsOf,D.one,nilS,fillD,convN,cvH,tyBookC0,fltD,intD,List.map_nil]) | (with_reducible refine ⟨?_,?_⟩; (· first | (obtain ⟨rfl⟩:=‹Hq _ _›; with_reducible refine chk_ok ?_; kernel_rfl) | kernel_rfl)) | (with_reducible intro ops hops)))
   (first | refine Call_frz [] (ht) (by simp [cvAs,cvA,cvRL,cvR,cvBox,cv1,cvL,cv0,bI,byteI,psI,intD,fltD,elemsOf,upd]) ?_ | refine CallF_frz [] [] (ht) (fun G _=>by simp [cvAs,cvA,cvRL,cvR,cvBox,cv1,cvL,cv0,bI,byteI,psI,intD,fltD,elemsOf,upd]) (by simp) ?_)
   (repeat (first | (simp -implicitDefEqProofs only [ev,mixed,Nat.reduceLT,Nat.reduceAdd,Nat.reduceMul,reduceIte,Nat.reduceEqDiff,reduceCtorEq,Nat.reducePow,Nat.reduceLeDiff,Int.reduceLE,Int.reduceLT,Int.reduceToNat,Int.reduceEq,Nat.reduceBEq,itsOf,gdA,byteI,opid,lenQ,ixQ,ldH,readAt,readCells,asCell,faQ,exQ,fldQ,partA,buildQ,slQ,stH,bslH,appH,dcells,convI,elemsOf,D.one,nilS,fillD,convN,cvH,tyBookC0,bI]) | (with_reducible refine ⟨?_,?_⟩; (· first | (obtain ⟨rfl⟩:=‹Hq _ _›; with_reducible refine chk_ok ?_; kernel_rfl) | kernel_rfl)) | (with_reducible intro ops hops)))
   refine fin_2 [] rfl ag149 sz149 (by simp [upd,readAt,readCells]; rfl) ?_
   simp [cv,cvT,cv1,cvL,cv0,upd,fltD,intD,bI]
  | cons p t =>
   have htl:=treeF_len (p :: t) (by simp)
   have htr:=tree_A _ (p :: t) rfl (by simp) hl (fun q hq=>by have:=hr.big q hq; omega)
   have ht:=top_A (p :: t).length (treeF (p :: t)) (by omega)
   rw [show topF (p :: t).length (treeF (p :: t))=rootF (p :: t) from rfl] at ht
   generalize rootF (p :: t)=R at *
   generalize treeF (p :: t)=T at *
   have g1:decide (((p :: t).length:Int)=0)=false:=by simp; omega
   generalize p :: t=l at *
   refine callD_W 22 Tryz.func95 rfl rfl rfl (fun _ _=>rfl) ?_
   (repeat (first | (simp -implicitDefEqProofs only [ev,mixed,Nat.reduceLT,Nat.reduceAdd,Nat.reduceMul,reduceIte,Nat.reduceEqDiff,reduceCtorEq,Nat.reducePow,Nat.reduceLeDiff,Int.reduceLE,Int.reduceLT,Int.reduceToNat,Int.reduceEq,Nat.reduceBEq,itsOf,gdA,byteI,opid,lenQ,ixQ,ldH,readAt,readCells,asCell,faQ,exQ,fldQ,partA,buildQ,slQ,stH,bslH,appH,dcells,convI,elemsOf,D.one,nilS,fillD,convN,cvH,tyBookC0,psI]) | (with_reducible refine ⟨?_,?_⟩; (· first | (obtain ⟨rfl⟩:=‹Hq _ _›; with_reducible refine chk_ok ?_; kernel_rfl) | kernel_rfl)) | (with_reducible intro ops hops)))
   (first | refine Call_flat [] [] (hw) (by simp [cvAs,cvA,cvRL,cvR,cvBox,cv1,cvL,cv0,bI,byteI,psI,intD,fltD,elemsOf,upd]) rfl ?_ | refine CallF_flat [] [] [] (hw) (fun G _=>by simp [cvAs,cvA,cvRL,cvR,cvBox,cv1,cvL,cv0,bI,byteI,psI,intD,fltD,elemsOf,upd]) rfl ?_)
   (repeat (first | (simp -implicitDefEqProofs only [ev,mixed,Nat.reduceLT,Nat.reduceAdd,Nat.reduceMul,reduceIte,Nat.reduceEqDiff,reduceCtorEq,Nat.reducePow,Nat.reduceLeDiff,Int.reduceLE,Int.reduceLT,Int.reduceToNat,Int.reduceEq,Nat.reduceBEq,itsOf,gdA,byteI,opid,lenQ,ixQ,ldH,readAt,readCells,asCell,faQ,exQ,fldQ,partA,buildQ,slQ,stH,bslH,appH,dcells,convI,elemsOf,D.one,nilS,fillD,convN,cvH,tyBookC0,fltD,intD,psI,g1]) | (with_reducible refine ⟨?_,?_⟩; (· first | (obtain ⟨rfl⟩:=‹Hq _ _›; with_reducible refine chk_ok ?_; kernel_rfl) | kernel_rfl)) | (with_reducible intro ops hops)))
   (first | refine Call_frz [] (htr) (by simp [cvAs,cvA,cvRL,cvR,cvBox,cv1,cvL,cv0,bI,byteI,psI,intD,fltD,elemsOf,upd]) ?_ | refine CallF_frz [] [] (htr) (fun G _=>by simp [cvAs,cvA,cvRL,cvR,cvBox,cv1,cvL,cv0,bI,byteI,psI,intD,fltD,elemsOf,upd]) (by simp) ?_)
   (repeat (first | (simp -implicitDefEqProofs only [ev,mixed,Nat.reduceLT,Nat.reduceAdd,Nat.reduceMul,reduceIte,Nat.reduceEqDiff,reduceCtorEq,Nat.reducePow,Nat.reduceLeDiff,Int.reduceLE,Int.reduceLT,Int.reduceToNat,Int.reduceEq,Nat.reduceBEq,itsOf,gdA,byteI,opid,lenQ,ixQ,ldH,readAt,readCells,asCell,faQ,exQ,fldQ,partA,buildQ,slQ,stH,bslH,appH,dcells,convI,elemsOf,D.one,nilS,fillD,convN,cvH,tyBookC0,bI]) | (with_reducible refine ⟨?_,?_⟩; (· first | (obtain ⟨rfl⟩:=‹Hq _ _›; with_reducible refine chk_ok ?_; kernel_rfl) | kernel_rfl)) | (with_reducible intro ops hops)))
   (first | refine Call_frz [] (ht) (by simp [cvAs,cvA,cvRL,cvR,cvBox,cv1,cvL,cv0,bI,byteI,psI,intD,fltD,elemsOf,upd]) ?_ | refine CallF_frz [] [] (ht) (fun G _=>by simp [cvAs,cvA,cvRL,cvR,cvBox,cv1,cvL,cv0,bI,byteI,psI,intD,fltD,elemsOf,upd]) (by simp) ?_)
   (repeat (first | (simp -implicitDefEqProofs only [ev,mixed,Nat.reduceLT,Nat.reduceAdd,Nat.reduceMul,reduceIte,Nat.reduceEqDiff,reduceCtorEq,Nat.reducePow,Nat.reduceLeDiff,Int.reduceLE,Int.reduceLT,Int.reduceToNat,Int.reduceEq,Nat.reduceBEq,itsOf,gdA,byteI,opid,lenQ,ixQ,ldH,readAt,readCells,asCell,faQ,exQ,fldQ,partA,buildQ,slQ,stH,bslH,appH,dcells,convI,elemsOf,D.one,nilS,fillD,convN,cvH,tyBookC0,bI]) | (with_reducible refine ⟨?_,?_⟩; (· first | (obtain ⟨rfl⟩:=‹Hq _ _›; with_reducible refine chk_ok ?_; kernel_rfl) | kernel_rfl)) | (with_reducible intro ops hops)))
   refine fin_2 [] rfl ag149 sz149 (by simp [upd,readAt,readCells]; rfl) ?_
   simp [cv,cvT,cv1,cvL,cv0,upd,fltD,intD,bI]
 ·rw [if_neg h0]
  generalize wrongF l=W at *
  have g1:decide ((W.1:Int)=0)=false:=by simp; omega
  refine callD_W 22 Tryz.func95 rfl rfl rfl (fun _ _=>rfl) ?_
  (repeat (first | (simp -implicitDefEqProofs only [ev,mixed,Nat.reduceLT,Nat.reduceAdd,Nat.reduceMul,reduceIte,Nat.reduceEqDiff,reduceCtorEq,Nat.reducePow,Nat.reduceLeDiff,Int.reduceLE,Int.reduceLT,Int.reduceToNat,Int.reduceEq,Nat.reduceBEq,itsOf,gdA,byteI,opid,lenQ,ixQ,ldH,readAt,readCells,asCell,faQ,exQ,fldQ,partA,buildQ,slQ,stH,bslH,appH,dcells,convI,elemsOf,D.one,nilS,fillD,convN,cvH,tyBookC0,psI]) | (with_reducible refine ⟨?_,?_⟩; (· first | (obtain ⟨rfl⟩:=‹Hq _ _›; with_reducible refine chk_ok ?_; kernel_rfl) | kernel_rfl)) | (with_reducible intro ops hops)))
  (first | refine Call_flat [] [] (hw) (by simp [cvAs,cvA,cvRL,cvR,cvBox,cv1,cvL,cv0,bI,byteI,psI,intD,fltD,elemsOf,upd]) rfl ?_ | refine CallF_flat [] [] [] (hw) (fun G _=>by simp [cvAs,cvA,cvRL,cvR,cvBox,cv1,cvL,cv0,bI,byteI,psI,intD,fltD,elemsOf,upd]) rfl ?_)
  (repeat (first | (simp -implicitDefEqProofs only [ev,mixed,Nat.reduceLT,Nat.reduceAdd,Nat.reduceMul,reduceIte,Nat.reduceEqDiff,reduceCtorEq,Nat.reducePow,Nat.reduceLeDiff,Int.reduceLE,Int.reduceLT,Int.reduceToNat,Int.reduceEq,Nat.reduceBEq,itsOf,gdA,byteI,opid,lenQ,ixQ,ldH,readAt,readCells,asCell,faQ,exQ,fldQ,partA,buildQ,slQ,stH,bslH,appH,dcells,convI,elemsOf,D.one,nilS,fillD,convN,cvH,tyBookC0,fltD,intD,g1]) | (with_reducible refine ⟨?_,?_⟩; (· first | (obtain ⟨rfl⟩:=‹Hq _ _›; with_reducible refine chk_ok ?_; kernel_rfl) | kernel_rfl)) | (with_reducible intro ops hops)))
  refine fin_2 [] rfl ag149 sz149 (by simp [upd,readAt,readCells]; rfl) ?_
  simp [cv,cvT,cv1,cvL,cv0,upd,fltD,intD,bI]
end Go.Proofs.YtmclpbcipkdmcaaGreatDoor
