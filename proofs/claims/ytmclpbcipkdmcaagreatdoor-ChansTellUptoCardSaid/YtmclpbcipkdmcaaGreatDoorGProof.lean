/- Merged texts: ProofA, ProofB, ProofC, ProofT, R1Same, GapA, GapB. -/
import Derived.Test.YtmclpbcipkdmcaaGreatDoorGBook
import Derived.Test.YtmclpbcipkdmcaaGreatDoorAbs4
import Derived.Test.YtmclpbcipkdmcaaGreatDoorTy
import Derived.Test.YtmclpbcipkdmcaaGreatDoorGWk
set_option linter.all false
namespace Go.Proofs.YtmclpbcipkdmcaaGreatDoor
open Go Go.Abs Go.RowKit Go.Proofs.YtmclpbcipkdmcaaGreatDoor.Ty
structure ProofD where
 i:Int
 n:Int
 k:List UInt8
 v:List UInt8
 path:List (List UInt8)
def proofD (p:ProofD):D:=.agg [intD p.i,intD p.n,.i (bI p.k),.i (bI p.v),.i (bbI p.path)]
def pathF (l:List PairD) (i:Nat):List (List UInt8) :=
 if h:l.length≤1 then []
 else if i < splitF l.length then pathF (l.take (splitF l.length)) i++[treeF (l.drop (splitF l.length))]
 else pathF (l.drop (splitF l.length)) (i - splitF l.length)++[treeF (l.take (splitF l.length))]
termination_by l.length
decreasing_by
 all_goals
  have:=splitF_lt (n:=l.length) (by omega)
  simp only [List.length_take,List.length_drop]
  omega
theorem pathF_one {l:List PairD} (i:Nat) (h:l.length≤1):pathF l i=[]:=by rw [pathF,dif_pos h]
theorem pathF_lo {l:List PairD} {i:Nat} (h:2≤l.length) (hi:i < splitF l.length):pathF l i=pathF (l.take (splitF l.length)) i++[treeF (l.drop (splitF l.length))]:=by
 rw [pathF,dif_neg (by omega),if_pos hi]
theorem pathF_hi {l:List PairD} {i:Nat} (h:2≤l.length) (hi:¬ i < splitF l.length):pathF l i=pathF (l.drop (splitF l.length)) (i - splitF l.length)++[treeF (l.take (splitF l.length))]:=by
 rw [pathF,dif_neg (by omega),if_neg hi]
theorem pathF_len:∀ (n:Nat) (l:List PairD) (i:Nat),l.length=n→(pathF l i).length≤n:=by
 intro n
 induction n using Nat.strongRecOn with
 | _ n ih =>
  intro l i hn
  by_cases h:l.length≤1
  ·rw [pathF_one i h]; simp
  ·have hs:=splitF_lt (n:=l.length) (by omega)
   by_cases hi:i < splitF l.length
   ·rw [pathF_lo (by omega) hi]
    have:=ih (l.take (splitF l.length)).length (by simp; omega) _ i rfl
    simp at this ⊢; omega
   ·rw [pathF_hi (by omega) hi]
    have:=ih (l.drop (splitF l.length)).length (by simp; omega) _ (i - splitF l.length) rfl
    simp at this ⊢; omega
def bbE (b:List UInt8):List I:=[bI b]
set_option maxHeartbeats 2000000
end Go.Proofs.YtmclpbcipkdmcaaGreatDoor
set_option linter.all false
namespace Go.Proofs.YtmclpbcipkdmcaaGreatDoor
open Go Go.Abs Go.RowKit Go.Proofs.YtmclpbcipkdmcaaGreatDoor.Ty
theorem fin_ct {P:Program} {fn:Func} {sl:Nat→D} {H:Nat→Ob} {t:TypeId} {p i:Tmp} {k:Nat} {cs:List D} {r:D} (F:List Nat) (h:fn.results=#[.cell p t,.tmp i]) (ha:aggOf P t=some true) (hs:szOf P t=some k) (hr:readAt H (sl p) k=some cs) (hv:cv H F (fun _=>none) (.tup [.agg cs,sl i]) r):Fin P fn noH r noH .ret ⟨sl,H⟩ :=
 ⟨_,by simp [resA,h,resOne,ha,hs,hr],ler_pure F hv⟩
def atF (l:List PairD) (i:Nat) (h:i < l.length):ProofD:=⟨i,l.length,l[i].k,l[i].v,pathF l i⟩
set_option maxHeartbeats 2000000
def zeroP:ProofD:=⟨0,0,[],[],[]⟩
def showF (l:List PairD) (key:List UInt8):ProofD × Nat :=
 if (wrongF l).1=0 then (if h:placeF l key < l.length then (if l[placeF l key].k=key then (atF l (placeF l key) h,0) else (zeroP,6)) else (zeroP,6)) else (zeroP,(wrongF l).1)
end Go.Proofs.YtmclpbcipkdmcaaGreatDoor
set_option linter.all false
namespace Go.Proofs.YtmclpbcipkdmcaaGreatDoor
open Go Go.Abs Go.RowKit Go.Proofs.YtmclpbcipkdmcaaGreatDoor.Ty
theorem tyProofC0:(type_of% @Ty.T3)∧(type_of% @Ty.T5)∧(type_of% @Ty.T29)∧(type_of% @Ty.T30)∧(type_of% @Ty.T32):=⟨@Ty.T3,@Ty.T5,@Ty.T29,@Ty.T30,@Ty.T32⟩
def formI (p:ProofD):List I:=[.s (.int .i64 p.i),.s (.int .i64 p.n),bI p.k,bI p.v,bbI p.path]
def formG (p:ProofD):Bool:=decide (p.n < 1) || decide (200 < p.n) || decide (p.i < 0) || decide (p.n≤p.i) || decide (60 < p.k.length) || decide (200 < p.v.length) || decide (40 < p.path.length)
def formF (p:ProofD):Bool:=!formG p && p.path.all fun d=>decide (d.length=32)
theorem formF_no {p:ProofD} (h:formG p=true):formF p=false:=by simp [formF,h]
theorem all_drop {l:List (List UInt8)} {i:Nat} (h:i < l.length):(l.drop i).all (fun d=>decide (d.length=32))=(decide (l[i].length=32) && (l.drop (i+1)).all fun d=>decide (d.length=32)):=by
 rw [List.drop_eq_getElem_cons h]; rfl
set_option maxHeartbeats 4000000
theorem form_A (p:ProofD):PureD Tryz.prog 190 [.rp (formI p) 0] (boolD (formF p)):=by
 have hN:=formF_no (p:=p)
 unfold formG at hN
 obtain ⟨i,n,k,v,q⟩:=p
 have hl:(q.map fun b=>[bI b]).length=q.length:=by simp
 have e0:∀ j (h:j < q.length),(q.map fun b=>[bI b])[j]?=some [bI q[j]]:=fun j h=>by rw [List.getElem?_map,List.getElem?_eq_getElem h]; rfl
 cases g1:decide (n < 1)
 case true =>
  rw [hN (by simp [g1])]
  refine callD_W 72 Tryz.func190 rfl rfl rfl (fun _ _=>rfl) ?_
  (repeat (first | (simp -implicitDefEqProofs only [ev,mixed,Nat.reduceLT,Nat.reduceAdd,Nat.reduceMul,reduceIte,Nat.reduceEqDiff,reduceCtorEq,Nat.reducePow,Nat.reduceLeDiff,Int.reduceLE,Int.reduceLT,Int.reduceToNat,Int.reduceEq,Nat.reduceBEq,itsOf,gdA,byteI,opid,lenQ,ixQ,ldH,readAt,readCells,asCell,faQ,exQ,fldQ,partA,buildQ,slQ,stH,bslH,appH,dcells,convI,elemsOf,D.one,nilS,fillD,convN,cvH,tyProofC0,formI,g1]) | (with_reducible refine ⟨?_,?_⟩; (· first | (obtain ⟨rfl⟩:=‹Hq _ _›; with_reducible refine chk_ok ?_; kernel_rfl) | kernel_rfl)) | (with_reducible intro ops hops)))
  refine fin_ret [] rfl ?_
  simp [cv,cv1,cv0,upd,boolD]
 cases g2:decide ((200:Int) < n)
 case true =>
  rw [hN (by simp [g2])]
  refine callD_W 72 Tryz.func190 rfl rfl rfl (fun _ _=>rfl) ?_
  (repeat (first | (simp -implicitDefEqProofs only [ev,mixed,Nat.reduceLT,Nat.reduceAdd,Nat.reduceMul,reduceIte,Nat.reduceEqDiff,reduceCtorEq,Nat.reducePow,Nat.reduceLeDiff,Int.reduceLE,Int.reduceLT,Int.reduceToNat,Int.reduceEq,Nat.reduceBEq,itsOf,gdA,byteI,opid,lenQ,ixQ,ldH,readAt,readCells,asCell,faQ,exQ,fldQ,partA,buildQ,slQ,stH,bslH,appH,dcells,convI,elemsOf,D.one,nilS,fillD,convN,cvH,tyProofC0,formI,g1,g2]) | (with_reducible refine ⟨?_,?_⟩; (· first | (obtain ⟨rfl⟩:=‹Hq _ _›; with_reducible refine chk_ok ?_; kernel_rfl) | kernel_rfl)) | (with_reducible intro ops hops)))
  refine fin_ret [] rfl ?_
  simp [cv,cv1,cv0,upd,boolD]
 cases g3:decide (i < 0)
 case true =>
  rw [hN (by simp [g3])]
  refine callD_W 72 Tryz.func190 rfl rfl rfl (fun _ _=>rfl) ?_
  (repeat (first | (simp -implicitDefEqProofs only [ev,mixed,Nat.reduceLT,Nat.reduceAdd,Nat.reduceMul,reduceIte,Nat.reduceEqDiff,reduceCtorEq,Nat.reducePow,Nat.reduceLeDiff,Int.reduceLE,Int.reduceLT,Int.reduceToNat,Int.reduceEq,Nat.reduceBEq,itsOf,gdA,byteI,opid,lenQ,ixQ,ldH,readAt,readCells,asCell,faQ,exQ,fldQ,partA,buildQ,slQ,stH,bslH,appH,dcells,convI,elemsOf,D.one,nilS,fillD,convN,cvH,tyProofC0,formI,g1,g2,g3]) | (with_reducible refine ⟨?_,?_⟩; (· first | (obtain ⟨rfl⟩:=‹Hq _ _›; with_reducible refine chk_ok ?_; kernel_rfl) | kernel_rfl)) | (with_reducible intro ops hops)))
  refine fin_ret [] rfl ?_
  simp [cv,cv1,cv0,upd,boolD]
 cases g4:decide (n≤i)
 case true =>
  rw [hN (by simp [g4])]
  refine callD_W 72 Tryz.func190 rfl rfl rfl (fun _ _=>rfl) ?_
  (repeat (first | (simp -implicitDefEqProofs only [ev,mixed,Nat.reduceLT,Nat.reduceAdd,Nat.reduceMul,reduceIte,Nat.reduceEqDiff,reduceCtorEq,Nat.reducePow,Nat.reduceLeDiff,Int.reduceLE,Int.reduceLT,Int.reduceToNat,Int.reduceEq,Nat.reduceBEq,itsOf,gdA,byteI,opid,lenQ,ixQ,ldH,readAt,readCells,asCell,faQ,exQ,fldQ,partA,buildQ,slQ,stH,bslH,appH,dcells,convI,elemsOf,D.one,nilS,fillD,convN,cvH,tyProofC0,formI,g1,g2,g3,g4]) | (with_reducible refine ⟨?_,?_⟩; (· first | (obtain ⟨rfl⟩:=‹Hq _ _›; with_reducible refine chk_ok ?_; kernel_rfl) | kernel_rfl)) | (with_reducible intro ops hops)))
  refine fin_ret [] rfl ?_
  simp [cv,cv1,cv0,upd,boolD]
 cases g5:decide ((60:Int) < (k.length:Int))
 case true =>
  rw [hN (by simp at g5; simp; omega)]
  refine callD_W 72 Tryz.func190 rfl rfl rfl (fun _ _=>rfl) ?_
  (repeat (first | (simp -implicitDefEqProofs only [ev,mixed,Nat.reduceLT,Nat.reduceAdd,Nat.reduceMul,reduceIte,Nat.reduceEqDiff,reduceCtorEq,Nat.reducePow,Nat.reduceLeDiff,Int.reduceLE,Int.reduceLT,Int.reduceToNat,Int.reduceEq,Nat.reduceBEq,itsOf,gdA,byteI,opid,lenQ,ixQ,ldH,readAt,readCells,asCell,faQ,exQ,fldQ,partA,buildQ,slQ,stH,bslH,appH,dcells,convI,elemsOf,D.one,nilS,fillD,convN,cvH,tyProofC0,formI,g1,g2,g3,g4,g5,bI]) | (with_reducible refine ⟨?_,?_⟩; (· first | (obtain ⟨rfl⟩:=‹Hq _ _›; with_reducible refine chk_ok ?_; kernel_rfl) | kernel_rfl)) | (with_reducible intro ops hops)))
  refine fin_ret [] rfl ?_
  simp [cv,cv1,cv0,upd,boolD]
 cases g6:decide ((200:Int) < (v.length:Int))
 case true =>
  rw [hN (by simp at g6; simp; omega)]
  refine callD_W 72 Tryz.func190 rfl rfl rfl (fun _ _=>rfl) ?_
  (repeat (first | (simp -implicitDefEqProofs only [ev,mixed,Nat.reduceLT,Nat.reduceAdd,Nat.reduceMul,reduceIte,Nat.reduceEqDiff,reduceCtorEq,Nat.reducePow,Nat.reduceLeDiff,Int.reduceLE,Int.reduceLT,Int.reduceToNat,Int.reduceEq,Nat.reduceBEq,itsOf,gdA,byteI,opid,lenQ,ixQ,ldH,readAt,readCells,asCell,faQ,exQ,fldQ,partA,buildQ,slQ,stH,bslH,appH,dcells,convI,elemsOf,D.one,nilS,fillD,convN,cvH,tyProofC0,formI,g1,g2,g3,g4,g5,g6,bI]) | (with_reducible refine ⟨?_,?_⟩; (· first | (obtain ⟨rfl⟩:=‹Hq _ _›; with_reducible refine chk_ok ?_; kernel_rfl) | kernel_rfl)) | (with_reducible intro ops hops)))
  refine fin_ret [] rfl ?_
  simp [cv,cv1,cv0,upd,boolD]
 cases g7:decide ((40:Int) < (q.length:Int))
 case true =>
  rw [hN (by simp at g7; simp; omega)]
  refine callD_W 72 Tryz.func190 rfl rfl rfl (fun _ _=>rfl) ?_
  (repeat (first | (simp -implicitDefEqProofs only [ev,mixed,Nat.reduceLT,Nat.reduceAdd,Nat.reduceMul,reduceIte,Nat.reduceEqDiff,reduceCtorEq,Nat.reducePow,Nat.reduceLeDiff,Int.reduceLE,Int.reduceLT,Int.reduceToNat,Int.reduceEq,Nat.reduceBEq,itsOf,gdA,byteI,opid,lenQ,ixQ,ldH,readAt,readCells,asCell,faQ,exQ,fldQ,partA,buildQ,slQ,stH,bslH,appH,dcells,convI,elemsOf,D.one,nilS,fillD,convN,cvH,tyProofC0,formI,g1,g2,g3,g4,g5,g6,g7,bI,bbI,hl]) | (with_reducible refine ⟨?_,?_⟩; (· first | (obtain ⟨rfl⟩:=‹Hq _ _›; with_reducible refine chk_ok ?_; kernel_rfl) | kernel_rfl)) | (with_reducible intro ops hops)))
  refine fin_ret [] rfl ?_
  simp [cv,cv1,cv0,upd,boolD]
 have hF:formF ⟨i,n,k,v,q⟩=(q.drop 0).all fun d=>decide (d.length=32):=by
  have b5:decide (60 < k.length)=false:=by simp at g5 ⊢; omega
  have b6:decide (200 < v.length)=false:=by simp at g6 ⊢; omega
  have b7:decide (40 < q.length)=false:=by simp at g7 ⊢; omega
  simp [formF,formG,g1,g2,g3,g4,b5,b6,b7]
 have hq:q.length≤40:=by simp at g7; omega
 generalize formF ⟨i,n,k,v,q⟩=R at hF
 clear hN
 refine callD_W 72 Tryz.func190 rfl rfl rfl (fun _ _=>rfl) ?_
 (repeat (first | (simp -implicitDefEqProofs only [ev,mixed,Nat.reduceLT,Nat.reduceAdd,Nat.reduceMul,reduceIte,Nat.reduceEqDiff,reduceCtorEq,Nat.reducePow,Nat.reduceLeDiff,Int.reduceLE,Int.reduceLT,Int.reduceToNat,Int.reduceEq,Nat.reduceBEq,itsOf,gdA,byteI,opid,lenQ,ixQ,ldH,readAt,readCells,asCell,faQ,exQ,fldQ,partA,buildQ,slQ,stH,bslH,appH,dcells,convI,elemsOf,D.one,nilS,fillD,convN,cvH,tyProofC0,formI,g1,g2,g3,g4,g5,g6,g7,bI,bbI,hl]) | (with_reducible refine ⟨?_,?_⟩; (· first | (obtain ⟨rfl⟩:=‹Hq _ _›; with_reducible refine chk_ok ?_; kernel_rfl) | kernel_rfl)) | (with_reducible intro ops hops)))
 refine W_loopI (ι:=Nat) (fun j=>j≤q.length∧R=(q.drop j).all fun d=>decide (d.length=32))
  (fun j=>stOf [(62,.i (bbI q)),(63,intD q.length),(64,intD j)] []) (fun j=>q.length - j) 0 ⟨Nat.zero_le _,hF⟩ ?_ ?_
 ·refine le_stOf _ _ [] [] ?_ ?_ rfl rfl
  ·simp [cv,cvL,cv1,cv0,upd,lk,srcOf,intD,bbI,bI]
  ·simp
 ·rintro j ⟨hj,hR⟩
  rw [stOf_eq]
  (repeat (first | (simp -implicitDefEqProofs only [ev,mixed,Nat.reduceLT,Nat.reduceAdd,Nat.reduceMul,reduceIte,Nat.reduceEqDiff,reduceCtorEq,Nat.reducePow,Nat.reduceLeDiff,Int.reduceLE,Int.reduceLT,Int.reduceToNat,Int.reduceEq,Nat.reduceBEq,itsOf,gdA,byteI,opid,lenQ,ixQ,ldH,readAt,readCells,asCell,faQ,exQ,fldQ,partA,buildQ,slQ,stH,bslH,appH,dcells,convI,elemsOf,D.one,nilS,fillD,convN,cvH,tyProofC0,intD]) | (with_reducible refine ⟨?_,?_⟩; (· first | (obtain ⟨rfl⟩:=‹Hq _ _›; with_reducible refine chk_ok ?_; kernel_rfl) | kernel_rfl)) | (with_reducible intro ops hops)))
  refine Wc_split (fun h=>?_) (fun h=>?_)
  ·have h2:j < q.length:=by simp at h; omega
   clear h
   have e1:=e0 j h2
   simp only [bI] at e1
   rw [all_drop h2] at hR
   have w1:IntKind.i64.wrap ((j:Int)+1)=((j+1:Nat):Int):=by rw [wrap64 (by omega) (by omega)]; omega
   generalize q[j]=d at *
   (repeat (first | (simp -implicitDefEqProofs only [ev,mixed,Nat.reduceLT,Nat.reduceAdd,Nat.reduceMul,reduceIte,Nat.reduceEqDiff,reduceCtorEq,Nat.reducePow,Nat.reduceLeDiff,Int.reduceLE,Int.reduceLT,Int.reduceToNat,Int.reduceEq,Nat.reduceBEq,itsOf,gdA,byteI,opid,lenQ,ixQ,ldH,readAt,readCells,asCell,faQ,exQ,fldQ,partA,buildQ,slQ,stH,bslH,appH,dcells,convI,elemsOf,D.one,nilS,fillD,convN,cvH,tyProofC0,bbI,e1,bI]) | (with_reducible refine ⟨?_,?_⟩; (· first | (obtain ⟨rfl⟩:=‹Hq _ _›; with_reducible refine chk_ok ?_; kernel_rfl) | kernel_rfl)) | (with_reducible intro ops hops)))
   refine Wc_split (fun h=>?_) (fun h=>?_)
   ·have h3:d.length≠32:=by simp at h; omega
    simp only [h3,decide_false,Bool.false_and] at hR
    (repeat (first | (simp -implicitDefEqProofs only [ev,mixed,Nat.reduceLT,Nat.reduceAdd,Nat.reduceMul,reduceIte,Nat.reduceEqDiff,reduceCtorEq,Nat.reducePow,Nat.reduceLeDiff,Int.reduceLE,Int.reduceLT,Int.reduceToNat,Int.reduceEq,Nat.reduceBEq,itsOf,gdA,byteI,opid,lenQ,ixQ,ldH,readAt,readCells,asCell,faQ,exQ,fldQ,partA,buildQ,slQ,stH,bslH,appH,dcells,convI,elemsOf,D.one,nilS,fillD,convN,cvH,tyProofC0]) | (with_reducible refine ⟨?_,?_⟩; (· first | (obtain ⟨rfl⟩:=‹Hq _ _›; with_reducible refine chk_ok ?_; kernel_rfl) | kernel_rfl)) | (with_reducible intro ops hops)))
    refine fin_ret [] rfl ?_
    simp [cv,cv1,cv0,upd,hR,boolD]
   ·have h3:d.length=32:=by simp at h; omega
    simp only [h3,decide_true,Bool.true_and] at hR
    (repeat (first | (simp -implicitDefEqProofs only [ev,mixed,Nat.reduceLT,Nat.reduceAdd,Nat.reduceMul,reduceIte,Nat.reduceEqDiff,reduceCtorEq,Nat.reducePow,Nat.reduceLeDiff,Int.reduceLE,Int.reduceLT,Int.reduceToNat,Int.reduceEq,Nat.reduceBEq,itsOf,gdA,byteI,opid,lenQ,ixQ,ldH,readAt,readCells,asCell,faQ,exQ,fldQ,partA,buildQ,slQ,stH,bslH,appH,dcells,convI,elemsOf,D.one,nilS,fillD,convN,cvH,tyProofC0,w1]) | (with_reducible refine ⟨?_,?_⟩; (· first | (obtain ⟨rfl⟩:=‹Hq _ _›; with_reducible refine chk_ok ?_; kernel_rfl) | kernel_rfl)) | (with_reducible intro ops hops)))
    refine ⟨j+1,⟨h2,hR⟩,le_stOf _ _ [] [] ?_ ?_ rfl rfl,by simp; omega⟩
    ·simp [cv,cvL,cv1,cv0,upd,lk,srcOf,intD,bbI,bI]
    ·simp
  ·have h2:¬ j < q.length:=by simp at h; omega
   clear h
   rw [List.drop_eq_nil_of_le (by omega)] at hR
   (repeat (first | (simp -implicitDefEqProofs only [ev,mixed,Nat.reduceLT,Nat.reduceAdd,Nat.reduceMul,reduceIte,Nat.reduceEqDiff,reduceCtorEq,Nat.reducePow,Nat.reduceLeDiff,Int.reduceLE,Int.reduceLT,Int.reduceToNat,Int.reduceEq,Nat.reduceBEq,itsOf,gdA,byteI,opid,lenQ,ixQ,ldH,readAt,readCells,asCell,faQ,exQ,fldQ,partA,buildQ,slQ,stH,bslH,appH,dcells,convI,elemsOf,D.one,nilS,fillD,convN,cvH,tyProofC0]) | (with_reducible refine ⟨?_,?_⟩; (· first | (obtain ⟨rfl⟩:=‹Hq _ _›; with_reducible refine chk_ok ?_; kernel_rfl) | kernel_rfl)) | (with_reducible intro ops hops)))
   refine fin_ret [] rfl ?_
   simp [cv,cv1,cv0,upd,hR,boolD]
end Go.Proofs.YtmclpbcipkdmcaaGreatDoor
set_option linter.all false
namespace Go.Proofs.YtmclpbcipkdmcaaGreatDoor
open Go Go.Abs Go.RowKit Go.Proofs.YtmclpbcipkdmcaaGreatDoor.Ty
theorem tyProofT0:(type_of% @Ty.T3)∧(type_of% @Ty.T5)∧(type_of% @Ty.T29)∧(type_of% @Ty.T30):=⟨@Ty.T3,@Ty.T5,@Ty.T29,@Ty.T30⟩
theorem tyProofT1:(type_of% @Ty.T3)∧(type_of% @Ty.T4)∧(type_of% @Ty.T5)∧(type_of% @Ty.T29)∧(type_of% @Ty.T30)∧(type_of% @Ty.T32)∧(type_of% @Ty.T229):=⟨@Ty.T3,@Ty.T4,@Ty.T5,@Ty.T29,@Ty.T30,@Ty.T32,@Ty.T229⟩
def foldR (leaf:List UInt8):Nat→Nat→List (List UInt8)→List UInt8 × Bool
 | _,n,[]=>if n=1 then (leaf,true) else ([],false)
 | i,n,d :: r=>if n=1 then (leaf,false) else if i < splitF n then (nodeF (foldR leaf i (splitF n) r).1 d,(foldR leaf i (splitF n) r).2)
   else (nodeF d (foldR leaf (i - splitF n) (n - splitF n) r).1,(foldR leaf (i - splitF n) (n - splitF n) r).2)
theorem foldR_len (leaf:List UInt8) (h:leaf.length≤32):∀ (r:List (List UInt8)) (i n:Nat),(foldR leaf i n r).1.length≤32:=by
 intro r
 induction r with
 | nil=>intro i n; simp only [foldR]; split <;> simp [h]
 | cons d r ih =>
  intro i n; simp only [foldR]; split
  ·exact h
  ·split <;> simp only [nodeF] <;> exact Nat.le_of_eq (sha_length _)
set_option maxHeartbeats 4000000
theorem ptree_A (leaf:List UInt8) (hlf:leaf.length≤32):∀ (r:List (List UInt8)) (i n:Nat),(∀ d∈r,d.length=32)→r.length≤1048576→i≤1048576→1≤n→n≤1048576 →
  PureD Tryz.prog 191 [.i (bI leaf),intD i,intD n,.i (bbI r.reverse)] (.tup [.i (bI (foldR leaf i n r).1),boolD (foldR leaf i n r).2]):=by
 intro r
 induction r with
 | nil =>
  intro i n _ _ _ h1 h2
  by_cases hn:n=1
  ·subst hn
   simp only [foldR,if_true]
   refine callD_W 71 Tryz.func191 rfl rfl rfl (fun _ _=>rfl) ?_
   (repeat (first | (simp -implicitDefEqProofs only [ev,mixed,Nat.reduceLT,Nat.reduceAdd,Nat.reduceMul,reduceIte,Nat.reduceEqDiff,reduceCtorEq,Nat.reducePow,Nat.reduceLeDiff,Int.reduceLE,Int.reduceLT,Int.reduceToNat,Int.reduceEq,Nat.reduceBEq,itsOf,gdA,byteI,opid,lenQ,ixQ,ldH,readAt,readCells,asCell,faQ,exQ,fldQ,partA,buildQ,slQ,stH,bslH,appH,dcells,convI,elemsOf,D.one,nilS,fillD,convN,cvH,tyProofT0,intD,bI,bbI,List.reverse_nil,List.map_nil]) | (with_reducible refine ⟨?_,?_⟩; (· first | (obtain ⟨rfl⟩:=‹Hq _ _›; with_reducible refine chk_ok ?_; kernel_rfl) | kernel_rfl)) | (with_reducible intro ops hops)))
   refine fin_tt [] rfl ?_
   simp [cv,cvT,cv1,cv0,upd,intD,boolD,bI]
  ·simp only [foldR,hn,if_false]
   have g1:decide ((n:Int)=1)=false:=by simp; omega
   refine callD_W 71 Tryz.func191 rfl rfl rfl (fun _ _=>rfl) ?_
   (repeat (first | (simp -implicitDefEqProofs only [ev,mixed,Nat.reduceLT,Nat.reduceAdd,Nat.reduceMul,reduceIte,Nat.reduceEqDiff,reduceCtorEq,Nat.reducePow,Nat.reduceLeDiff,Int.reduceLE,Int.reduceLT,Int.reduceToNat,Int.reduceEq,Nat.reduceBEq,itsOf,gdA,byteI,opid,lenQ,ixQ,ldH,readAt,readCells,asCell,faQ,exQ,fldQ,partA,buildQ,slQ,stH,bslH,appH,dcells,convI,elemsOf,D.one,nilS,fillD,convN,cvH,tyProofT0,intD,bI,bbI,List.reverse_nil,List.map_nil,g1]) | (with_reducible refine ⟨?_,?_⟩; (· first | (obtain ⟨rfl⟩:=‹Hq _ _›; with_reducible refine chk_ok ?_; kernel_rfl) | kernel_rfl)) | (with_reducible intro ops hops)))
   refine fin_tt [] rfl ?_
   simp [cv,cvT,cv1,cv0,upd,intD,boolD,bI]
 | cons d r ih =>
  intro i n hd hr hi h1 h2
  have hd0:d.length=32:=hd d (by simp)
  simp only [List.length_cons] at hr
  have L1:((d :: r).reverse.map fun b=>[bI b]).length=r.length+1:=by simp
  have L2:((d :: r).reverse.map fun b=>[bI b])[r.length]?=some [bI d]:=by simp
  have L3:((d :: r).reverse.map fun b=>[bI b]).take r.length=r.reverse.map fun b=>[bI b]:=by simp
  have L4:uni 1 ((d :: r).reverse.map fun b=>[bI b])=true:=by simp [uni]
  have hq:bbI (d :: r).reverse=.sl ((d :: r).reverse.map fun b=>[bI b]):=rfl
  rw [hq]
  generalize ((d :: r).reverse.map fun b=>[bI b])=L at *
  clear hq
  by_cases hn:n=1
  ·subst hn
   simp only [foldR,if_true]
   have g1:decide (((r.length+1:Nat):Int)=0)=false:=by simp; omega
   refine callD_W 71 Tryz.func191 rfl rfl rfl (fun _ _=>rfl) ?_
   (repeat (first | (simp -implicitDefEqProofs only [ev,mixed,Nat.reduceLT,Nat.reduceAdd,Nat.reduceMul,reduceIte,Nat.reduceEqDiff,reduceCtorEq,Nat.reducePow,Nat.reduceLeDiff,Int.reduceLE,Int.reduceLT,Int.reduceToNat,Int.reduceEq,Nat.reduceBEq,itsOf,gdA,byteI,opid,lenQ,ixQ,ldH,readAt,readCells,asCell,faQ,exQ,fldQ,partA,buildQ,slQ,stH,bslH,appH,dcells,convI,elemsOf,D.one,nilS,fillD,convN,cvH,tyProofT0,intD,L1,g1]) | (with_reducible refine ⟨?_,?_⟩; (· first | (obtain ⟨rfl⟩:=‹Hq _ _›; with_reducible refine chk_ok ?_; kernel_rfl) | kernel_rfl)) | (with_reducible intro ops hops)))
   refine fin_tt [] rfl ?_
   simp [cv,cvT,cv1,cv0,upd,intD,boolD,bI]
  ·have hs:=splitF_lt (n:=n) (by omega)
   have hsp:=split_A n h1 h2
   have i1:=ih i (splitF n) (fun d hd'=>hd d (by simp [hd'])) (by omega) hi (by omega) (by omega)
   have i2:=ih (i - splitF n) (n - splitF n) (fun d hd'=>hd d (by simp [hd'])) (by omega) (by omega) (by omega) (by omega)
   have n1:=foldR_len leaf hlf r i (splitF n)
   have n2:=foldR_len leaf hlf r (i - splitF n) (n - splitF n)
   have g1:decide ((n:Int)=1)=false:=by simp; omega
   have g2:decide (((r.length+1:Nat):Int)=0)=false:=by simp; omega
   have g4:((r.length:Int)≤((r.length+1:Nat):Int))=True:=eq_true (by omega)
   have w1:IntKind.i64.wrap (((r.length+1:Nat):Int) - 1)=(r.length:Int):=by rw [wrap64 (by omega) (by omega)]; omega
   have hc1:i < splitF n→foldR leaf i n (d :: r)=(nodeF (foldR leaf i (splitF n) r).1 d,(foldR leaf i (splitF n) r).2):=fun h=>by simp only [foldR,if_neg hn,if_pos h]
   have hc2:¬ i < splitF n→foldR leaf i n (d :: r)=(nodeF d (foldR leaf (i - splitF n) (n - splitF n) r).1,(foldR leaf (i - splitF n) (n - splitF n) r).2):=fun h=>by simp only [foldR,if_neg hn,if_neg h]
   clear hd
   generalize splitF n=k at *
   simp only [bbI] at i1 i2
   rw [← L3] at i1 i2
   by_cases hc:i < k
   ·have g3:decide ((i:Int) < (k:Int))=true:=by simp; omega
    rw [hc1 hc]
    clear i2 hc1 hc2
    generalize foldR leaf i k r=T at *
    have hnd:=node_A T.1 d (by omega) (by omega)
    generalize nodeF T.1 d=R at *
    refine callD_W 71 Tryz.func191 rfl rfl rfl (fun _ _=>rfl) ?_
    (repeat (first | (simp -implicitDefEqProofs only [ev,mixed,Nat.reduceLT,Nat.reduceAdd,Nat.reduceMul,reduceIte,Nat.reduceEqDiff,reduceCtorEq,Nat.reducePow,Nat.reduceLeDiff,Int.reduceLE,Int.reduceLT,Int.reduceToNat,Int.reduceEq,Nat.reduceBEq,itsOf,gdA,byteI,opid,lenQ,ixQ,ldH,readAt,readCells,asCell,faQ,exQ,fldQ,partA,buildQ,slQ,stH,bslH,appH,dcells,convI,elemsOf,D.one,nilS,fillD,convN,cvH,tyProofT0,intD,L1,g1,g2,w1]) | (with_reducible refine ⟨?_,?_⟩; (· first | (obtain ⟨rfl⟩:=‹Hq _ _›; with_reducible refine chk_ok ?_; kernel_rfl) | kernel_rfl)) | (with_reducible intro ops hops)))
    (first | refine Call_flat [] [] (hsp) (by simp [cvAs,cvA,cvRL,cvR,cvBox,cv1,cvL,cv0,bI,byteI,bbI,intD,boolD,proofD,elemsOf,upd]) rfl ?_ | refine CallF_flat [] [] [] (hsp) (fun G _=>by simp [cvAs,cvA,cvRL,cvR,cvBox,cv1,cvL,cv0,bI,byteI,bbI,intD,boolD,proofD,elemsOf,upd]) rfl ?_)
    (repeat (first | (simp -implicitDefEqProofs only [ev,mixed,Nat.reduceLT,Nat.reduceAdd,Nat.reduceMul,reduceIte,Nat.reduceEqDiff,reduceCtorEq,Nat.reducePow,Nat.reduceLeDiff,Int.reduceLE,Int.reduceLT,Int.reduceToNat,Int.reduceEq,Nat.reduceBEq,itsOf,gdA,byteI,opid,lenQ,ixQ,ldH,readAt,readCells,asCell,faQ,exQ,fldQ,partA,buildQ,slQ,stH,bslH,appH,dcells,convI,elemsOf,D.one,nilS,fillD,convN,cvH,tyProofT0,intD,g3,L1,L4,g4]) | (with_reducible refine ⟨?_,?_⟩; (· first | (obtain ⟨rfl⟩:=‹Hq _ _›; with_reducible refine chk_ok ?_; kernel_rfl) | kernel_rfl)) | (with_reducible intro ops hops)))
    (first | refine Call_frz [] (i1) (by simp [cvAs,cvA,cvRL,cvR,cvBox,cv1,cvL,cv0,bI,byteI,bbI,intD,boolD,proofD,elemsOf,upd]) ?_ | refine CallF_frz [] [] (i1) (fun G _=>by simp [cvAs,cvA,cvRL,cvR,cvBox,cv1,cvL,cv0,bI,byteI,bbI,intD,boolD,proofD,elemsOf,upd]) (by simp) ?_)
    (repeat (first | (simp -implicitDefEqProofs only [ev,mixed,Nat.reduceLT,Nat.reduceAdd,Nat.reduceMul,reduceIte,Nat.reduceEqDiff,reduceCtorEq,Nat.reducePow,Nat.reduceLeDiff,Int.reduceLE,Int.reduceLT,Int.reduceToNat,Int.reduceEq,Nat.reduceBEq,itsOf,gdA,byteI,opid,lenQ,ixQ,ldH,readAt,readCells,asCell,faQ,exQ,fldQ,partA,buildQ,slQ,stH,bslH,appH,dcells,convI,elemsOf,D.one,nilS,fillD,convN,cvH,tyProofT0,boolD,L2]) | (with_reducible refine ⟨?_,?_⟩; (· first | (obtain ⟨rfl⟩:=‹Hq _ _›; with_reducible refine chk_ok ?_; kernel_rfl) | kernel_rfl)) | (with_reducible intro ops hops)))
    (first | refine Call_frz [] (hnd) (by simp [cvAs,cvA,cvRL,cvR,cvBox,cv1,cvL,cv0,bI,byteI,bbI,intD,boolD,proofD,elemsOf,upd]) ?_ | refine CallF_frz [] [] (hnd) (fun G _=>by simp [cvAs,cvA,cvRL,cvR,cvBox,cv1,cvL,cv0,bI,byteI,bbI,intD,boolD,proofD,elemsOf,upd]) (by simp) ?_)
    (repeat (first | (simp -implicitDefEqProofs only [ev,mixed,Nat.reduceLT,Nat.reduceAdd,Nat.reduceMul,reduceIte,Nat.reduceEqDiff,reduceCtorEq,Nat.reducePow,Nat.reduceLeDiff,Int.reduceLE,Int.reduceLT,Int.reduceToNat,Int.reduceEq,Nat.reduceBEq,itsOf,gdA,byteI,opid,lenQ,ixQ,ldH,readAt,readCells,asCell,faQ,exQ,fldQ,partA,buildQ,slQ,stH,bslH,appH,dcells,convI,elemsOf,D.one,nilS,fillD,convN,cvH,tyProofT0,bI]) | (with_reducible refine ⟨?_,?_⟩; (· first | (obtain ⟨rfl⟩:=‹Hq _ _›; with_reducible refine chk_ok ?_; kernel_rfl) | kernel_rfl)) | (with_reducible intro ops hops)))
    refine fin_tt [] rfl ?_
    simp [cv,cvT,cv1,cv0,upd,intD,boolD,bI]
   ·have g3:decide ((i:Int) < (k:Int))=false:=by simp; omega
    have w2:IntKind.i64.wrap ((i:Int) - (k:Int))=((i - k:Nat):Int):=by rw [wrap64 (by omega) (by omega)]; omega
    have w3:IntKind.i64.wrap ((n:Int) - (k:Int))=((n - k:Nat):Int):=by rw [wrap64 (by omega) (by omega)]; omega
    rw [hc2 hc]
    clear i1 hc1 hc2
    generalize foldR leaf (i - k) (n - k) r=T at *
    have hnd:=node_A d T.1 (by omega) (by omega)
    generalize nodeF d T.1=R at *
    refine callD_W 71 Tryz.func191 rfl rfl rfl (fun _ _=>rfl) ?_
    (repeat (first | (simp -implicitDefEqProofs only [ev,mixed,Nat.reduceLT,Nat.reduceAdd,Nat.reduceMul,reduceIte,Nat.reduceEqDiff,reduceCtorEq,Nat.reducePow,Nat.reduceLeDiff,Int.reduceLE,Int.reduceLT,Int.reduceToNat,Int.reduceEq,Nat.reduceBEq,itsOf,gdA,byteI,opid,lenQ,ixQ,ldH,readAt,readCells,asCell,faQ,exQ,fldQ,partA,buildQ,slQ,stH,bslH,appH,dcells,convI,elemsOf,D.one,nilS,fillD,convN,cvH,tyProofT0,intD,L1,g1,g2,w1]) | (with_reducible refine ⟨?_,?_⟩; (· first | (obtain ⟨rfl⟩:=‹Hq _ _›; with_reducible refine chk_ok ?_; kernel_rfl) | kernel_rfl)) | (with_reducible intro ops hops)))
    (first | refine Call_flat [] [] (hsp) (by simp [cvAs,cvA,cvRL,cvR,cvBox,cv1,cvL,cv0,bI,byteI,bbI,intD,boolD,proofD,elemsOf,upd]) rfl ?_ | refine CallF_flat [] [] [] (hsp) (fun G _=>by simp [cvAs,cvA,cvRL,cvR,cvBox,cv1,cvL,cv0,bI,byteI,bbI,intD,boolD,proofD,elemsOf,upd]) rfl ?_)
    (repeat (first | (simp -implicitDefEqProofs only [ev,mixed,Nat.reduceLT,Nat.reduceAdd,Nat.reduceMul,reduceIte,Nat.reduceEqDiff,reduceCtorEq,Nat.reducePow,Nat.reduceLeDiff,Int.reduceLE,Int.reduceLT,Int.reduceToNat,Int.reduceEq,Nat.reduceBEq,itsOf,gdA,byteI,opid,lenQ,ixQ,ldH,readAt,readCells,asCell,faQ,exQ,fldQ,partA,buildQ,slQ,stH,bslH,appH,dcells,convI,elemsOf,D.one,nilS,fillD,convN,cvH,tyProofT0,intD,g3,L1,L4,g4,w2,w3]) | (with_reducible refine ⟨?_,?_⟩; (· first | (obtain ⟨rfl⟩:=‹Hq _ _›; with_reducible refine chk_ok ?_; kernel_rfl) | kernel_rfl)) | (with_reducible intro ops hops)))
    (first | refine Call_frz [] (i2) (by simp [cvAs,cvA,cvRL,cvR,cvBox,cv1,cvL,cv0,bI,byteI,bbI,intD,boolD,proofD,elemsOf,upd]) ?_ | refine CallF_frz [] [] (i2) (fun G _=>by simp [cvAs,cvA,cvRL,cvR,cvBox,cv1,cvL,cv0,bI,byteI,bbI,intD,boolD,proofD,elemsOf,upd]) (by simp) ?_)
    (repeat (first | (simp -implicitDefEqProofs only [ev,mixed,Nat.reduceLT,Nat.reduceAdd,Nat.reduceMul,reduceIte,Nat.reduceEqDiff,reduceCtorEq,Nat.reducePow,Nat.reduceLeDiff,Int.reduceLE,Int.reduceLT,Int.reduceToNat,Int.reduceEq,Nat.reduceBEq,itsOf,gdA,byteI,opid,lenQ,ixQ,ldH,readAt,readCells,asCell,faQ,exQ,fldQ,partA,buildQ,slQ,stH,bslH,appH,dcells,convI,elemsOf,D.one,nilS,fillD,convN,cvH,tyProofT0,boolD,L2]) | (with_reducible refine ⟨?_,?_⟩; (· first | (obtain ⟨rfl⟩:=‹Hq _ _›; with_reducible refine chk_ok ?_; kernel_rfl) | kernel_rfl)) | (with_reducible intro ops hops)))
    (first | refine Call_frz [] (hnd) (by simp [cvAs,cvA,cvRL,cvR,cvBox,cv1,cvL,cv0,bI,byteI,bbI,intD,boolD,proofD,elemsOf,upd]) ?_ | refine CallF_frz [] [] (hnd) (fun G _=>by simp [cvAs,cvA,cvRL,cvR,cvBox,cv1,cvL,cv0,bI,byteI,bbI,intD,boolD,proofD,elemsOf,upd]) (by simp) ?_)
    (repeat (first | (simp -implicitDefEqProofs only [ev,mixed,Nat.reduceLT,Nat.reduceAdd,Nat.reduceMul,reduceIte,Nat.reduceEqDiff,reduceCtorEq,Nat.reducePow,Nat.reduceLeDiff,Int.reduceLE,Int.reduceLT,Int.reduceToNat,Int.reduceEq,Nat.reduceBEq,itsOf,gdA,byteI,opid,lenQ,ixQ,ldH,readAt,readCells,asCell,faQ,exQ,fldQ,partA,buildQ,slQ,stH,bslH,appH,dcells,convI,elemsOf,D.one,nilS,fillD,convN,cvH,tyProofT0,bI]) | (with_reducible refine ⟨?_,?_⟩; (· first | (obtain ⟨rfl⟩:=‹Hq _ _›; with_reducible refine chk_ok ?_; kernel_rfl) | kernel_rfl)) | (with_reducible intro ops hops)))
    refine fin_tt [] rfl ?_
    simp [cv,cvT,cv1,cv0,upd,intD,boolD,bI]
def treeOf (p:ProofD):List UInt8 × Bool:=foldR (leafF p.k p.v) p.i.toNat p.n.toNat p.path.reverse
def shownF (root:List UInt8) (p:ProofD):Bool:=formF p && (treeOf p).2 && decide (topF p.n.toNat (treeOf p).1=root)
theorem formF_yes {p:ProofD} (h:formF p=true):1≤p.n∧p.n≤200∧0≤p.i∧p.i < p.n∧p.k.length≤60∧p.v.length≤200∧p.path.length≤40∧∀ d∈p.path,d.length=32:=by
 simp [formF,formG] at h
 exact ⟨by omega,by omega,by omega,by omega,by omega,by omega,by omega,h.2⟩
theorem shown_A (root:List UInt8) (p:ProofD):PureD Tryz.prog 157 [.i (bI root),proofD p] (boolD (shownF root p)):=by
 have hfm:=form_A p
 unfold shownF treeOf
 cases hf:formF p
 ·rw [hf] at hfm
  simp only [Bool.false_and]
  refine callD_W 33 Tryz.func157 rfl rfl rfl (fun _ _=>rfl) ?_
  (repeat (first | (simp -implicitDefEqProofs only [ev,mixed,Nat.reduceLT,Nat.reduceAdd,Nat.reduceMul,reduceIte,Nat.reduceEqDiff,reduceCtorEq,Nat.reducePow,Nat.reduceLeDiff,Int.reduceLE,Int.reduceLT,Int.reduceToNat,Int.reduceEq,Nat.reduceBEq,itsOf,gdA,byteI,opid,lenQ,ixQ,ldH,readAt,readCells,asCell,faQ,exQ,fldQ,partA,buildQ,slQ,stH,bslH,appH,dcells,convI,elemsOf,D.one,nilS,fillD,convN,cvH,tyProofT1,proofD,intD]) | (with_reducible refine ⟨?_,?_⟩; (· first | (obtain ⟨rfl⟩:=‹Hq _ _›; with_reducible refine chk_ok ?_; kernel_rfl) | kernel_rfl)) | (with_reducible intro ops hops)))
  refine Call_flat [] [1000] hfm ⟨.inr ⟨1000,_,_,rfl,.inl ⟨by simp,rfl,_,by simp [upd]; rfl,by simp [formI,cvBox,cv0]⟩⟩,trivial⟩ rfl ?_
  (repeat (first | (simp -implicitDefEqProofs only [ev,mixed,Nat.reduceLT,Nat.reduceAdd,Nat.reduceMul,reduceIte,Nat.reduceEqDiff,reduceCtorEq,Nat.reducePow,Nat.reduceLeDiff,Int.reduceLE,Int.reduceLT,Int.reduceToNat,Int.reduceEq,Nat.reduceBEq,itsOf,gdA,byteI,opid,lenQ,ixQ,ldH,readAt,readCells,asCell,faQ,exQ,fldQ,partA,buildQ,slQ,stH,bslH,appH,dcells,convI,elemsOf,D.one,nilS,fillD,convN,cvH,tyProofT1,boolD]) | (with_reducible refine ⟨?_,?_⟩; (· first | (obtain ⟨rfl⟩:=‹Hq _ _›; with_reducible refine chk_ok ?_; kernel_rfl) | kernel_rfl)) | (with_reducible intro ops hops)))
  refine fin_ret [] rfl ?_
  simp [cv,cv1,cv0,upd,boolD]
 ·rw [hf] at hfm
  simp only [Bool.true_and]
  obtain ⟨a1,a2,a3,a4,a5,a6,a7,a8⟩:=formF_yes hf
  clear hf
  have hl:=leaf_A p.k p.v (by omega) (by omega)
  have hlen:(leafF p.k p.v).length=32:=sha_length _
  generalize leafF p.k p.v=F at *
  have ht:=ptree_A F (by omega) p.path.reverse p.i.toNat p.n.toNat (fun d hd=>a8 d (by simpa using hd)) (by simp; omega) (by omega) (by omega) (by omega)
  have hT:=foldR_len F (by omega) p.path.reverse p.i.toNat p.n.toNat
  rw [List.reverse_reverse,Int.toNat_of_nonneg a3,Int.toNat_of_nonneg (by omega)] at ht
  generalize foldR F p.i.toNat p.n.toNat p.path.reverse=T at *
  have htp:=top_A p.n.toNat T.1 (by omega)
  rw [Int.toNat_of_nonneg (by omega)] at htp
  generalize topF p.n.toNat T.1=R at *
  clear a1 a2 a3 a4 a5 a6 a7 a8
  obtain ⟨i,n,k,v,q⟩:=p
  obtain ⟨t,ok⟩:=T
  simp only at *
  refine callD_W 33 Tryz.func157 rfl rfl rfl (fun _ _=>rfl) ?_
  (repeat (first | (simp -implicitDefEqProofs only [ev,mixed,Nat.reduceLT,Nat.reduceAdd,Nat.reduceMul,reduceIte,Nat.reduceEqDiff,reduceCtorEq,Nat.reducePow,Nat.reduceLeDiff,Int.reduceLE,Int.reduceLT,Int.reduceToNat,Int.reduceEq,Nat.reduceBEq,itsOf,gdA,byteI,opid,lenQ,ixQ,ldH,readAt,readCells,asCell,faQ,exQ,fldQ,partA,buildQ,slQ,stH,bslH,appH,dcells,convI,elemsOf,D.one,nilS,fillD,convN,cvH,tyProofT1,proofD,intD]) | (with_reducible refine ⟨?_,?_⟩; (· first | (obtain ⟨rfl⟩:=‹Hq _ _›; with_reducible refine chk_ok ?_; kernel_rfl) | kernel_rfl)) | (with_reducible intro ops hops)))
  refine Call_flat [] [1000] hfm ⟨.inr ⟨1000,_,_,rfl,.inl ⟨by simp,rfl,_,by simp [upd]; rfl,by simp [formI,cvBox,cv0]⟩⟩,trivial⟩ rfl ?_
  (repeat (first | (simp -implicitDefEqProofs only [ev,mixed,Nat.reduceLT,Nat.reduceAdd,Nat.reduceMul,reduceIte,Nat.reduceEqDiff,reduceCtorEq,Nat.reducePow,Nat.reduceLeDiff,Int.reduceLE,Int.reduceLT,Int.reduceToNat,Int.reduceEq,Nat.reduceBEq,itsOf,gdA,byteI,opid,lenQ,ixQ,ldH,readAt,readCells,asCell,faQ,exQ,fldQ,partA,buildQ,slQ,stH,bslH,appH,dcells,convI,elemsOf,D.one,nilS,fillD,convN,cvH,tyProofT1,boolD]) | (with_reducible refine ⟨?_,?_⟩; (· first | (obtain ⟨rfl⟩:=‹Hq _ _›; with_reducible refine chk_ok ?_; kernel_rfl) | kernel_rfl)) | (with_reducible intro ops hops)))
  (first | refine Call_frz [] (hl) (by simp [cvAs,cvA,cvRL,cvR,cvBox,cv1,cvL,cv0,bI,byteI,bbI,intD,boolD,proofD,elemsOf,upd]) ?_ | refine CallF_frz [] [] (hl) (fun G _=>by simp [cvAs,cvA,cvRL,cvR,cvBox,cv1,cvL,cv0,bI,byteI,bbI,intD,boolD,proofD,elemsOf,upd]) (by simp) ?_)
  (repeat (first | (simp -implicitDefEqProofs only [ev,mixed,Nat.reduceLT,Nat.reduceAdd,Nat.reduceMul,reduceIte,Nat.reduceEqDiff,reduceCtorEq,Nat.reducePow,Nat.reduceLeDiff,Int.reduceLE,Int.reduceLT,Int.reduceToNat,Int.reduceEq,Nat.reduceBEq,itsOf,gdA,byteI,opid,lenQ,ixQ,ldH,readAt,readCells,asCell,faQ,exQ,fldQ,partA,buildQ,slQ,stH,bslH,appH,dcells,convI,elemsOf,D.one,nilS,fillD,convN,cvH,tyProofT1]) | (with_reducible refine ⟨?_,?_⟩; (· first | (obtain ⟨rfl⟩:=‹Hq _ _›; with_reducible refine chk_ok ?_; kernel_rfl) | kernel_rfl)) | (with_reducible intro ops hops)))
  (first | refine Call_frz [] (ht) (by simp [cvAs,cvA,cvRL,cvR,cvBox,cv1,cvL,cv0,bI,byteI,bbI,intD,boolD,proofD,elemsOf,upd]) ?_ | refine CallF_frz [] [] (ht) (fun G _=>by simp [cvAs,cvA,cvRL,cvR,cvBox,cv1,cvL,cv0,bI,byteI,bbI,intD,boolD,proofD,elemsOf,upd]) (by simp) ?_)
  cases ok
  ·(repeat (first | (simp -implicitDefEqProofs only [ev,mixed,Nat.reduceLT,Nat.reduceAdd,Nat.reduceMul,reduceIte,Nat.reduceEqDiff,reduceCtorEq,Nat.reducePow,Nat.reduceLeDiff,Int.reduceLE,Int.reduceLT,Int.reduceToNat,Int.reduceEq,Nat.reduceBEq,itsOf,gdA,byteI,opid,lenQ,ixQ,ldH,readAt,readCells,asCell,faQ,exQ,fldQ,partA,buildQ,slQ,stH,bslH,appH,dcells,convI,elemsOf,D.one,nilS,fillD,convN,cvH,tyProofT1,boolD]) | (with_reducible refine ⟨?_,?_⟩; (· first | (obtain ⟨rfl⟩:=‹Hq _ _›; with_reducible refine chk_ok ?_; kernel_rfl) | kernel_rfl)) | (with_reducible intro ops hops)))
   refine fin_ret [] rfl ?_
   simp [cv,cv1,cv0,upd,boolD]
  ·(repeat (first | (simp -implicitDefEqProofs only [ev,mixed,Nat.reduceLT,Nat.reduceAdd,Nat.reduceMul,reduceIte,Nat.reduceEqDiff,reduceCtorEq,Nat.reducePow,Nat.reduceLeDiff,Int.reduceLE,Int.reduceLT,Int.reduceToNat,Int.reduceEq,Nat.reduceBEq,itsOf,gdA,byteI,opid,lenQ,ixQ,ldH,readAt,readCells,asCell,faQ,exQ,fldQ,partA,buildQ,slQ,stH,bslH,appH,dcells,convI,elemsOf,D.one,nilS,fillD,convN,cvH,tyProofT1,boolD]) | (with_reducible refine ⟨?_,?_⟩; (· first | (obtain ⟨rfl⟩:=‹Hq _ _›; with_reducible refine chk_ok ?_; kernel_rfl) | kernel_rfl)) | (with_reducible intro ops hops)))
   (first | refine Call_frz [] (htp) (by simp [cvAs,cvA,cvRL,cvR,cvBox,cv1,cvL,cv0,bI,byteI,bbI,intD,boolD,proofD,elemsOf,upd]) ?_ | refine CallF_frz [] [] (htp) (fun G _=>by simp [cvAs,cvA,cvRL,cvR,cvBox,cv1,cvL,cv0,bI,byteI,bbI,intD,boolD,proofD,elemsOf,upd]) (by simp) ?_)
   (repeat (first | (simp -implicitDefEqProofs only [ev,mixed,Nat.reduceLT,Nat.reduceAdd,Nat.reduceMul,reduceIte,Nat.reduceEqDiff,reduceCtorEq,Nat.reducePow,Nat.reduceLeDiff,Int.reduceLE,Int.reduceLT,Int.reduceToNat,Int.reduceEq,Nat.reduceBEq,itsOf,gdA,byteI,opid,lenQ,ixQ,ldH,readAt,readCells,asCell,faQ,exQ,fldQ,partA,buildQ,slQ,stH,bslH,appH,dcells,convI,elemsOf,D.one,nilS,fillD,convN,cvH,tyProofT1]) | (with_reducible refine ⟨?_,?_⟩; (· first | (obtain ⟨rfl⟩:=‹Hq _ _›; with_reducible refine chk_ok ?_; kernel_rfl) | kernel_rfl)) | (with_reducible intro ops hops)))
   (first | refine Call_flat [] [] (equal_A R root) (by simp [cvAs,cvA,cvRL,cvR,cvBox,cv1,cvL,cv0,bI,byteI,bbI,intD,boolD,proofD,elemsOf,upd]) rfl ?_ | refine CallF_flat [] [] [] (equal_A R root) (fun G _=>by simp [cvAs,cvA,cvRL,cvR,cvBox,cv1,cvL,cv0,bI,byteI,bbI,intD,boolD,proofD,elemsOf,upd]) rfl ?_)
   (repeat (first | (simp -implicitDefEqProofs only [ev,mixed,Nat.reduceLT,Nat.reduceAdd,Nat.reduceMul,reduceIte,Nat.reduceEqDiff,reduceCtorEq,Nat.reducePow,Nat.reduceLeDiff,Int.reduceLE,Int.reduceLT,Int.reduceToNat,Int.reduceEq,Nat.reduceBEq,itsOf,gdA,byteI,opid,lenQ,ixQ,ldH,readAt,readCells,asCell,faQ,exQ,fldQ,partA,buildQ,slQ,stH,bslH,appH,dcells,convI,elemsOf,D.one,nilS,fillD,convN,cvH,tyProofT1]) | (with_reducible refine ⟨?_,?_⟩; (· first | (obtain ⟨rfl⟩:=‹Hq _ _›; with_reducible refine chk_ok ?_; kernel_rfl) | kernel_rfl)) | (with_reducible intro ops hops)))
   refine fin_ret [] rfl ?_
   simp [cv,cv1,cv0,upd,boolD]
end Go.Proofs.YtmclpbcipkdmcaaGreatDoor
set_option linter.all false
namespace Go.Proofs.YtmclpbcipkdmcaaGreatDoor
open Go Go.Abs Go.RowKit Go.Proofs.YtmclpbcipkdmcaaGreatDoor.Ty
theorem tyR1Same0:(type_of% @Ty.T3)∧(type_of% @Ty.T5)∧(type_of% @Ty.T29):=⟨@Ty.T3,@Ty.T5,@Ty.T29⟩
set_option maxHeartbeats 1000000
theorem same_A (x y:List UInt8) (hx:x.length≤1099511627776):PureD Tryz.prog 32 [.i (bI x),.i (bI y)] (.i (.s (.bool (decide (x=y))))):=by
 refine callD_W 26 Tryz.func32 rfl rfl rfl (fun _ _=>rfl) ?_
 (repeat (first | (simp -implicitDefEqProofs only [ev,mixed,Nat.reduceLT,Nat.reduceAdd,Nat.reduceMul,reduceIte,Nat.reduceEqDiff,reduceCtorEq,Nat.reducePow,Nat.reduceLeDiff,Int.reduceLE,Int.reduceLT,Int.reduceToNat,Int.reduceEq,Nat.reduceBEq,itsOf,gdA,byteI,opid,lenQ,ixQ,ldH,readAt,readCells,asCell,faQ,exQ,fldQ,partA,buildQ,slQ,stH,bslH,appH,dcells,convI,elemsOf,D.one,nilS,fillD,convN,cvH,tyR1Same0,bI]) | (with_reducible refine ⟨?_,?_⟩; (· first | (obtain ⟨rfl⟩:=‹Hq _ _›; with_reducible refine chk_ok ?_; kernel_rfl) | kernel_rfl)) | (with_reducible intro ops hops)))
 refine Wc_split (fun h=>?_) (fun h=>?_)
 ·(repeat (first | (simp -implicitDefEqProofs only [ev,mixed,Nat.reduceLT,Nat.reduceAdd,Nat.reduceMul,reduceIte,Nat.reduceEqDiff,reduceCtorEq,Nat.reducePow,Nat.reduceLeDiff,Int.reduceLE,Int.reduceLT,Int.reduceToNat,Int.reduceEq,Nat.reduceBEq,itsOf,gdA,byteI,opid,lenQ,ixQ,ldH,readAt,readCells,asCell,faQ,exQ,fldQ,partA,buildQ,slQ,stH,bslH,appH,dcells,convI,elemsOf,D.one,nilS,fillD,convN,cvH,tyR1Same0,bI]) | (with_reducible refine ⟨?_,?_⟩; (· first | (obtain ⟨rfl⟩:=‹Hq _ _›; with_reducible refine chk_ok ?_; kernel_rfl) | kernel_rfl)) | (with_reducible intro ops hops)))
  refine fin_ret [] rfl ?_
  have:x≠y:=by intro e; subst e; simp at h
  simp [cv,cv1,cv0,upd,this]
 ·have hl:x.length=y.length:=by simp at h; omega
  clear h
  (repeat (first | (simp -implicitDefEqProofs only [ev,mixed,Nat.reduceLT,Nat.reduceAdd,Nat.reduceMul,reduceIte,Nat.reduceEqDiff,reduceCtorEq,Nat.reducePow,Nat.reduceLeDiff,Int.reduceLE,Int.reduceLT,Int.reduceToNat,Int.reduceEq,Nat.reduceBEq,itsOf,gdA,byteI,opid,lenQ,ixQ,ldH,readAt,readCells,asCell,faQ,exQ,fldQ,partA,buildQ,slQ,stH,bslH,appH,dcells,convI,elemsOf,D.one,nilS,fillD,convN,cvH,tyR1Same0,bI]) | (with_reducible refine ⟨?_,?_⟩; (· first | (obtain ⟨rfl⟩:=‹Hq _ _›; with_reducible refine chk_ok ?_; kernel_rfl) | kernel_rfl)) | (with_reducible intro ops hops)))
  refine W_loop (ι:={ k:Nat // k≤x.length∧x.take k=y.take k }) (fun k=>stOf [(0,.i (.sl (x.map byteI))),(1,.i (.sl (y.map byteI))),(12,.i (.s (.int .i64 x.length))),(13,.i (.s (.int .i64 (k.1:Nat))))] []) (fun k=>x.length - k.1) ⟨0,by simp⟩ ?_ ?_
  ·refine le_stOf _ _ [] [] ?_ ?_ rfl rfl
   ·simp [cv,cv1,cv0,upd,lk]
   ·simp
  ·rintro ⟨k,hk,ht⟩
   rw [stOf_eq]
   (repeat (first | (simp -implicitDefEqProofs only [ev,mixed,Nat.reduceLT,Nat.reduceAdd,Nat.reduceMul,reduceIte,Nat.reduceEqDiff,reduceCtorEq,Nat.reducePow,Nat.reduceLeDiff,Int.reduceLE,Int.reduceLT,Int.reduceToNat,Int.reduceEq,Nat.reduceBEq,itsOf,gdA,byteI,opid,lenQ,ixQ,ldH,readAt,readCells,asCell,faQ,exQ,fldQ,partA,buildQ,slQ,stH,bslH,appH,dcells,convI,elemsOf,D.one,nilS,fillD,convN,cvH,tyR1Same0]) | (with_reducible refine ⟨?_,?_⟩; (· first | (obtain ⟨rfl⟩:=‹Hq _ _›; with_reducible refine chk_ok ?_; kernel_rfl) | kernel_rfl)) | (with_reducible intro ops hops)))
   refine Wc_split (fun h=>?_) (fun h=>?_)
   ·have hlt:k < x.length:=by simp at h; omega
    clear h
    have e1:(x.map byteI)[k]?=some [.s (.int .u8 (x[k].toNat:Int))]:=by simp [hlt,byteI]
    have e2:(y.map byteI)[k]?=some [.s (.int .u8 ((y[k]'(by omega)).toNat:Int))]:=by simp [show k < y.length by omega,byteI]
    (repeat (first | (simp -implicitDefEqProofs only [ev,mixed,Nat.reduceLT,Nat.reduceAdd,Nat.reduceMul,reduceIte,Nat.reduceEqDiff,reduceCtorEq,Nat.reducePow,Nat.reduceLeDiff,Int.reduceLE,Int.reduceLT,Int.reduceToNat,Int.reduceEq,Nat.reduceBEq,itsOf,gdA,byteI,opid,lenQ,ixQ,ldH,readAt,readCells,asCell,faQ,exQ,fldQ,partA,buildQ,slQ,stH,bslH,appH,dcells,convI,elemsOf,D.one,nilS,fillD,convN,cvH,tyR1Same0,e1,e2]) | (with_reducible refine ⟨?_,?_⟩; (· first | (obtain ⟨rfl⟩:=‹Hq _ _›; with_reducible refine chk_ok ?_; kernel_rfl) | kernel_rfl)) | (with_reducible intro ops hops)))
    refine Wc_split (fun h=>?_) (fun h=>?_)
    ·(repeat (first | (simp -implicitDefEqProofs only [ev,mixed,Nat.reduceLT,Nat.reduceAdd,Nat.reduceMul,reduceIte,Nat.reduceEqDiff,reduceCtorEq,Nat.reducePow,Nat.reduceLeDiff,Int.reduceLE,Int.reduceLT,Int.reduceToNat,Int.reduceEq,Nat.reduceBEq,itsOf,gdA,byteI,opid,lenQ,ixQ,ldH,readAt,readCells,asCell,faQ,exQ,fldQ,partA,buildQ,slQ,stH,bslH,appH,dcells,convI,elemsOf,D.one,nilS,fillD,convN,cvH,tyR1Same0]) | (with_reducible refine ⟨?_,?_⟩; (· first | (obtain ⟨rfl⟩:=‹Hq _ _›; with_reducible refine chk_ok ?_; kernel_rfl) | kernel_rfl)) | (with_reducible intro ops hops)))
     refine fin_ret [] rfl ?_
     have:x≠y:=by intro e; subst e; simp at h
     simp [cv,cv1,cv0,upd,this]
    ·have hb:x[k]=y[k]:=UInt8.toNat_inj.1 (by simp at h; omega)
     clear h
     have hw:IntKind.i64.wrap ((k:Int)+1)=((k+1:Nat):Int):=by rw [wrap64 (by omega) (by omega)]; omega
     (repeat (first | (simp -implicitDefEqProofs only [ev,mixed,Nat.reduceLT,Nat.reduceAdd,Nat.reduceMul,reduceIte,Nat.reduceEqDiff,reduceCtorEq,Nat.reducePow,Nat.reduceLeDiff,Int.reduceLE,Int.reduceLT,Int.reduceToNat,Int.reduceEq,Nat.reduceBEq,itsOf,gdA,byteI,opid,lenQ,ixQ,ldH,readAt,readCells,asCell,faQ,exQ,fldQ,partA,buildQ,slQ,stH,bslH,appH,dcells,convI,elemsOf,D.one,nilS,fillD,convN,cvH,tyR1Same0,hw]) | (with_reducible refine ⟨?_,?_⟩; (· first | (obtain ⟨rfl⟩:=‹Hq _ _›; with_reducible refine chk_ok ?_; kernel_rfl) | kernel_rfl)) | (with_reducible intro ops hops)))
     refine ⟨⟨k+1,hlt,?_⟩,le_stOf _ _ [] [] ?_ ?_ rfl rfl,?_⟩
     ·rw [List.take_succ_eq_append_getElem hlt,List.take_succ_eq_append_getElem (by omega),ht,hb]
     ·simp [cv,cv1,cv0,upd,lk]
     ·simp
     ·simp; omega
   ·have hk':k=x.length:=by simp at h; omega
    subst hk'
    (repeat (first | (simp -implicitDefEqProofs only [ev,mixed,Nat.reduceLT,Nat.reduceAdd,Nat.reduceMul,reduceIte,Nat.reduceEqDiff,reduceCtorEq,Nat.reducePow,Nat.reduceLeDiff,Int.reduceLE,Int.reduceLT,Int.reduceToNat,Int.reduceEq,Nat.reduceBEq,itsOf,gdA,byteI,opid,lenQ,ixQ,ldH,readAt,readCells,asCell,faQ,exQ,fldQ,partA,buildQ,slQ,stH,bslH,appH,dcells,convI,elemsOf,D.one,nilS,fillD,convN,cvH,tyR1Same0]) | (with_reducible refine ⟨?_,?_⟩; (· first | (obtain ⟨rfl⟩:=‹Hq _ _›; with_reducible refine chk_ok ?_; kernel_rfl) | kernel_rfl)) | (with_reducible intro ops hops)))
    refine fin_ret [] rfl ?_
    have:x=y:=by rw [List.take_length,hl,List.take_length] at ht; exact ht
    simp [cv,cv1,cv0,upd,this]
end Go.Proofs.YtmclpbcipkdmcaaGreatDoor
set_option linter.all false
namespace Go.Proofs.YtmclpbcipkdmcaaGreatDoor
open Go Go.Abs Go.RowKit Go.Proofs.YtmclpbcipkdmcaaGreatDoor.Ty
def getF (l:List PairD) (key:List UInt8):List UInt8 × Bool :=
 if h:placeF l key < l.length then (if l[placeF l key].k=key then (l[placeF l key].v,true) else ([],false)) else ([],false)
structure GapD where
 hl:Bool
 hr:Bool
 left:ProofD
 right:ProofD
def gapD (g:GapD):D:=.agg [boolD g.hl,boolD g.hr,intD g.left.i,intD g.left.n,.i (bI g.left.k),.i (bI g.left.v),.i (bbI g.left.path),intD g.right.i,intD g.right.n,.i (bI g.right.k),.i (bI g.right.v),.i (bbI g.right.path)]
def zeroG:GapD:=⟨false,false,zeroP,zeroP⟩
def atZ (l:List PairD) (b:Bool) (i:Nat):ProofD:=if h:b=true∧i < l.length then atF l i h.2 else zeroP
def gapF (l:List PairD) (key:List UInt8):GapD × Nat :=
 if (wrongF l).1=0 then (if thereF l key then (zeroG,7) else (⟨decide (0 < placeF l key),decide (placeF l key < l.length),atZ l (decide (0 < placeF l key)) (placeF l key - 1),atZ l (decide (placeF l key < l.length)) (placeF l key)⟩,0)) else (zeroG,(wrongF l).1)
set_option maxHeartbeats 4000000
end Go.Proofs.YtmclpbcipkdmcaaGreatDoor
set_option linter.all false
namespace Go.Proofs.YtmclpbcipkdmcaaGreatDoor
open Go Go.Abs Go.RowKit Go.Proofs.YtmclpbcipkdmcaaGreatDoor.Ty
def absentF (root key:List UInt8) (g:GapD):Bool :=
 match g.hl,g.hr with
 | false,false=>decide (topF 0 []=root)
 | true,false=>shownF root g.left && decide (Lib.compareBytes g.left.k key < 0) && decide (g.left.i=g.left.n - 1)
 | false,true=>shownF root g.right && decide (Lib.compareBytes key g.right.k < 0) && decide (g.right.i=0)
 | true,true=>shownF root g.left && decide (Lib.compareBytes g.left.k key < 0) && (shownF root g.right && decide (Lib.compareBytes key g.right.k < 0)) && (decide (g.left.n=g.right.n) && decide (g.left.i+1=g.right.i))
theorem shownF_form {r:List UInt8} {p:ProofD} (h:shownF r p=true):formF p=true:=by
 unfold shownF at h; simp only [Bool.and_eq_true] at h; exact h.1.1
attribute [local simp,local go_sem] proofD gapD bbI
set_option maxHeartbeats 4000000
set_option maxRecDepth 20000
theorem absent_A (root key:List UInt8) (g:GapD):PureD Tryz.prog 160 [.i (bI root),.i (bI key),gapD g] (boolD (absentF root key g)):=by
 refine hide_r fun R hR=>?_
 obtain ⟨hl,hr,⟨li,ln,lk,lv,lp⟩,⟨ri,rn,rk,rv,rp⟩⟩:=g
 have c1:=shown_A root ⟨li,ln,lk,lv,lp⟩
 have c2:=shown_A root ⟨ri,rn,rk,rv,rp⟩
 have c3:=cmp_A lk key
 have c4:=cmp_A key rk
 have c5:=top_A 0 [] (by simp)
 have c6:=equal_A (topF 0 []) root
 have fL:shownF root ⟨li,ln,lk,lv,lp⟩=true→1≤ln∧ln≤200∧0≤li∧li < ln:=fun h=>by
  obtain ⟨a1,a2,a3,a4,_⟩:=formF_yes (shownF_form h)
  exact ⟨a1,a2,a3,a4⟩
 cases hl <;> cases hr <;> simp only [absentF] at hR
 ·clear c1 c2 fL
  generalize topF 0 []=T at *
  refine callD_W 89 Tryz.func160 rfl rfl rfl (fun _ _=>rfl) ?_
  exact wkl trivial
 ·clear c1 fL
  generalize shownF root ⟨ri,rn,rk,rv,rp⟩=S at *
  generalize Lib.compareBytes key rk=C at *
  cases S <;> by_cases q:C < 0 <;> simp only [q,decide_true,decide_false,Bool.true_and,Bool.false_and,Bool.and_false,Bool.and_true] at hR
  all_goals
   refine callD_W 89 Tryz.func160 rfl rfl rfl (fun _ _=>rfl) ?_
   exact wkl trivial
 ·clear c2
  generalize shownF root ⟨li,ln,lk,lv,lp⟩=S at *
  generalize Lib.compareBytes lk key=C at *
  cases S <;> by_cases q:C < 0 <;> simp only [q,decide_true,decide_false,Bool.true_and,Bool.false_and,Bool.and_false,Bool.and_true] at hR
  all_goals
   try (have fL:=fL rfl)
   refine callD_W 89 Tryz.func160 rfl rfl rfl (fun _ _=>rfl) ?_
   exact wkl trivial
 ·generalize shownF root ⟨li,ln,lk,lv,lp⟩=S at *
  generalize shownF root ⟨ri,rn,rk,rv,rp⟩=S' at *
  generalize Lib.compareBytes lk key=C at *
  generalize Lib.compareBytes key rk=C' at *
  cases S
  ·simp only [Bool.false_and] at hR
   refine callD_W 89 Tryz.func160 rfl rfl rfl (fun _ _=>rfl) ?_
   exact wkl trivial
  ·have fL:=fL rfl
   by_cases q:C < 0
   ·cases S' <;> by_cases q':C' < 0 <;> simp only [q,q',decide_true,decide_false,Bool.true_and,Bool.false_and,Bool.and_false,Bool.and_true] at hR
    all_goals
     refine callD_W 89 Tryz.func160 rfl rfl rfl (fun _ _=>rfl) ?_
     exact wkl trivial
   ·simp only [q,decide_false,Bool.and_false,Bool.false_and] at hR
    refine callD_W 89 Tryz.func160 rfl rfl rfl (fun _ _=>rfl) ?_
    exact wkl trivial
end Go.Proofs.YtmclpbcipkdmcaaGreatDoor
