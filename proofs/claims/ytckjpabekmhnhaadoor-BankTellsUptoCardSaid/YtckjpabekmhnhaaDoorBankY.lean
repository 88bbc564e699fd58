/- bank.Mint, Move: by value. -/
import Derived.Test.YtckjpabekmhnhaaDoorBankX
set_option linter.all false
namespace Go.Proofs.YtckjpabekmhnhaaDoor
open Go Go.Abs Go.RowKit Go.Proofs.YtckjpabekmhnhaaDoor.Ty
theorem tyBankY0:(type_of% @Ty.T1)∧(type_of% @Ty.T2)∧(type_of% @Ty.T3)∧(type_of% @Ty.T9)∧(type_of% @Ty.T22)∧(type_of% @Ty.T23)∧(type_of% @Ty.T30)∧(type_of% @Ty.T50)∧(type_of% @Ty.T100):=⟨@Ty.T1,@Ty.T2,@Ty.T3,@Ty.T9,@Ty.T22,@Ty.T23,@Ty.T30,@Ty.T50,@Ty.T100⟩
theorem tyBankY1:(type_of% @Ty.T9)∧(type_of% @Ty.T22)∧(type_of% @Ty.T23)∧(type_of% @Ty.T30)∧(type_of% @Ty.T50):=⟨@Ty.T9,@Ty.T22,@Ty.T23,@Ty.T30,@Ty.T50⟩
set_option maxHeartbeats 4000000
theorem mint_A (l:List PurseD) (h:RightP l) (o d:ByteArray) (n:Nat) (hn:n < 18446744073709551616) :
  PureD Tryd.prog 22 [.i (pusI l),sD o,sD d,wD n] (.tup [.i (pusI (mintP l o d n).1),intD (mintP l o d n).2]):=by
 have hw:=word_A [o,d] (by simp)
 rw [wordOk2] at hw
 have hlen:=h.len
 have hcl:=clonePu_new l (by omega)
 have hf:=pfind_A l o d (by omega) h.srt
 have hsu:=supply_A l d (by omega) (fun p hp=>(h.pos p hp).2)
 have hga:=getP_amt h o d
 have has:=amt_le_sup h o d
 simp only [List.map_cons,List.map_nil,sI] at hw
 unfold mintP
 cases hb:(wordOk o && wordOk d)
 ·rw [hb] at hw
  simp only [Bool.not_false,if_true]
  refine callD_W 78 Tryd.func22 rfl rfl rfl (fun _ _=>rfl) ?_
  (repeat (first | (simp -implicitDefEqProofs only [ev,mixed,Nat.reduceLT,Nat.reduceAdd,Nat.reduceMul,reduceIte,Nat.reduceEqDiff,reduceCtorEq,Nat.reducePow,Nat.reduceLeDiff,Int.reduceLE,Int.reduceLT,Int.reduceToNat,Int.reduceEq,Nat.reduceBEq,itsOf,gdA,byteI,opid,lenQ,ixQ,ldH,readAt,readCells,asCell,faQ,exQ,fldQ,partA,buildQ,slQ,stH,bslH,appH,dcells,convI,elemsOf,D.one,nilS,fillD,convN,cvH,tyBankY0,pusI,sD,wD]) | (with_reducible refine ⟨?_,?_⟩; (· first | (obtain ⟨rfl⟩:=‹Hq _ _›; with_reducible refine chk_ok ?_; kernel_rfl) | kernel_rfl)) | (with_reducible intro ops hops)))
  (first | refine Call_flat [1258] [] (hw) (by simp [cvAs,cvA,cvRL,cvR,cvBox,cv1,cvL,cv0,bI,byteI,intD,boolD,sD,sI,pusI,wD,elemsOf,upd,hO,lk]) rfl ?_ | refine CallF_flat [1258] [] [1258] (hw) (fun G hG=>by (have hG1258:=hG 1258 (by simp); simp [cvAs,cvA,cvRL,cvR,cvBox,cv1,cvL,cv0,bI,byteI,intD,boolD,sD,sI,pusI,wD,elemsOf,upd,hO,lk,hG1258])) rfl ?_)
  (repeat (first | (simp -implicitDefEqProofs only [ev,mixed,Nat.reduceLT,Nat.reduceAdd,Nat.reduceMul,reduceIte,Nat.reduceEqDiff,reduceCtorEq,Nat.reducePow,Nat.reduceLeDiff,Int.reduceLE,Int.reduceLT,Int.reduceToNat,Int.reduceEq,Nat.reduceBEq,itsOf,gdA,byteI,opid,lenQ,ixQ,ldH,readAt,readCells,asCell,faQ,exQ,fldQ,partA,buildQ,slQ,stH,bslH,appH,dcells,convI,elemsOf,D.one,nilS,fillD,convN,cvH,tyBankY0,intD]) | (with_reducible refine ⟨?_,?_⟩; (· first | (obtain ⟨rfl⟩:=‹Hq _ _›; with_reducible refine chk_ok ?_; kernel_rfl) | kernel_rfl)) | (with_reducible intro ops hops)))
  refine fin_tt [] rfl ?_
  simp [cv,cvT,cv1,cv0,upd,intD,pusI]
 ·rw [hb] at hw
  simp only [Bool.not_true,Bool.false_eq_true,if_false]
  simp only [if_true] at hw
  by_cases h0:n=0
  ·have g1:decide ((n:Int)=0)=true:=decide_eq_true (by omega)
   rw [if_pos h0]
   refine callD_W 78 Tryd.func22 rfl rfl rfl (fun _ _=>rfl) ?_
   (repeat (first | (simp -implicitDefEqProofs only [ev,mixed,Nat.reduceLT,Nat.reduceAdd,Nat.reduceMul,reduceIte,Nat.reduceEqDiff,reduceCtorEq,Nat.reducePow,Nat.reduceLeDiff,Int.reduceLE,Int.reduceLT,Int.reduceToNat,Int.reduceEq,Nat.reduceBEq,itsOf,gdA,byteI,opid,lenQ,ixQ,ldH,readAt,readCells,asCell,faQ,exQ,fldQ,partA,buildQ,slQ,stH,bslH,appH,dcells,convI,elemsOf,D.one,nilS,fillD,convN,cvH,tyBankY0,pusI,sD,wD]) | (with_reducible refine ⟨?_,?_⟩; (· first | (obtain ⟨rfl⟩:=‹Hq _ _›; with_reducible refine chk_ok ?_; kernel_rfl) | kernel_rfl)) | (with_reducible intro ops hops)))
   (first | refine Call_flat [1258] [] (hw) (by simp [cvAs,cvA,cvRL,cvR,cvBox,cv1,cvL,cv0,bI,byteI,intD,boolD,sD,sI,pusI,wD,elemsOf,upd,hO,lk]) rfl ?_ | refine CallF_flat [1258] [] [1258] (hw) (fun G hG=>by (have hG1258:=hG 1258 (by simp); simp [cvAs,cvA,cvRL,cvR,cvBox,cv1,cvL,cv0,bI,byteI,intD,boolD,sD,sI,pusI,wD,elemsOf,upd,hO,lk,hG1258])) rfl ?_)
   (repeat (first | (simp -implicitDefEqProofs only [ev,mixed,Nat.reduceLT,Nat.reduceAdd,Nat.reduceMul,reduceIte,Nat.reduceEqDiff,reduceCtorEq,Nat.reducePow,Nat.reduceLeDiff,Int.reduceLE,Int.reduceLT,Int.reduceToNat,Int.reduceEq,Nat.reduceBEq,itsOf,gdA,byteI,opid,lenQ,ixQ,ldH,readAt,readCells,asCell,faQ,exQ,fldQ,partA,buildQ,slQ,stH,bslH,appH,dcells,convI,elemsOf,D.one,nilS,fillD,convN,cvH,tyBankY0,intD]) | (with_reducible refine ⟨?_,?_⟩; (· first | (obtain ⟨rfl⟩:=‹Hq _ _›; with_reducible refine chk_ok ?_; kernel_rfl) | kernel_rfl)) | (with_reducible intro ops hops)))
   refine Call_new 2025 hcl (by simp [hO,lk,upd,noH]) rfl ?_
   (repeat (first | (simp -implicitDefEqProofs only [ev,mixed,Nat.reduceLT,Nat.reduceAdd,Nat.reduceMul,reduceIte,Nat.reduceEqDiff,reduceCtorEq,Nat.reducePow,Nat.reduceLeDiff,Int.reduceLE,Int.reduceLT,Int.reduceToNat,Int.reduceEq,Nat.reduceBEq,itsOf,gdA,byteI,opid,lenQ,ixQ,ldH,readAt,readCells,asCell,faQ,exQ,fldQ,partA,buildQ,slQ,stH,bslH,appH,dcells,convI,elemsOf,D.one,nilS,fillD,convN,cvH,tyBankY0,intD,sD,wD,g1]) | (with_reducible refine ⟨?_,?_⟩; (· first | (obtain ⟨rfl⟩:=‹Hq _ _›; with_reducible refine chk_ok ?_; kernel_rfl) | kernel_rfl)) | (with_reducible intro ops hops)))
   refine fin_tt [2025] rfl ?_
   simp [cv,cvT,cv1,cv0,upd,intD,pusI,elemsOf,take_len_map]
  ·have g1:decide ((n:Int)=0)=false:=decide_eq_false (by omega)
   rw [if_neg h0]
   generalize hS:supP l d=S at *
   by_cases hov:18446744073709551616≤S
   ·rw [if_pos hov,decide_eq_true hov] at hsu
    rw [if_pos (by omega)]
    have hadd:=add64_X 0 n 0 (by decide) hn (by decide)
    generalize (0+n+0) % 18446744073709551616=x1 at hadd
    generalize (0+n+0) / 18446744073709551616=x2 at hadd
    refine callD_W 78 Tryd.func22 rfl rfl rfl (fun _ _=>rfl) ?_
    (repeat (first | (simp -implicitDefEqProofs only [ev,mixed,Nat.reduceLT,Nat.reduceAdd,Nat.reduceMul,reduceIte,Nat.reduceEqDiff,reduceCtorEq,Nat.reducePow,Nat.reduceLeDiff,Int.reduceLE,Int.reduceLT,Int.reduceToNat,Int.reduceEq,Nat.reduceBEq,itsOf,gdA,byteI,opid,lenQ,ixQ,ldH,readAt,readCells,asCell,faQ,exQ,fldQ,partA,buildQ,slQ,stH,bslH,appH,dcells,convI,elemsOf,D.one,nilS,fillD,convN,cvH,tyBankY0,pusI,sD,wD]) | (with_reducible refine ⟨?_,?_⟩; (· first | (obtain ⟨rfl⟩:=‹Hq _ _›; with_reducible refine chk_ok ?_; kernel_rfl) | kernel_rfl)) | (with_reducible intro ops hops)))
    (first | refine Call_flat [1258] [] (hw) (by simp [cvAs,cvA,cvRL,cvR,cvBox,cv1,cvL,cv0,bI,byteI,intD,boolD,sD,sI,pusI,wD,elemsOf,upd,hO,lk]) rfl ?_ | refine CallF_flat [1258] [] [1258] (hw) (fun G hG=>by (have hG1258:=hG 1258 (by simp); simp [cvAs,cvA,cvRL,cvR,cvBox,cv1,cvL,cv0,bI,byteI,intD,boolD,sD,sI,pusI,wD,elemsOf,upd,hO,lk,hG1258])) rfl ?_)
    (repeat (first | (simp -implicitDefEqProofs only [ev,mixed,Nat.reduceLT,Nat.reduceAdd,Nat.reduceMul,reduceIte,Nat.reduceEqDiff,reduceCtorEq,Nat.reducePow,Nat.reduceLeDiff,Int.reduceLE,Int.reduceLT,Int.reduceToNat,Int.reduceEq,Nat.reduceBEq,itsOf,gdA,byteI,opid,lenQ,ixQ,ldH,readAt,readCells,asCell,faQ,exQ,fldQ,partA,buildQ,slQ,stH,bslH,appH,dcells,convI,elemsOf,D.one,nilS,fillD,convN,cvH,tyBankY0,intD]) | (with_reducible refine ⟨?_,?_⟩; (· first | (obtain ⟨rfl⟩:=‹Hq _ _›; with_reducible refine chk_ok ?_; kernel_rfl) | kernel_rfl)) | (with_reducible intro ops hops)))
    refine Call_new 2025 hcl (by simp [hO,lk,upd,noH]) rfl ?_
    (repeat (first | (simp -implicitDefEqProofs only [ev,mixed,Nat.reduceLT,Nat.reduceAdd,Nat.reduceMul,reduceIte,Nat.reduceEqDiff,reduceCtorEq,Nat.reducePow,Nat.reduceLeDiff,Int.reduceLE,Int.reduceLT,Int.reduceToNat,Int.reduceEq,Nat.reduceBEq,itsOf,gdA,byteI,opid,lenQ,ixQ,ldH,readAt,readCells,asCell,faQ,exQ,fldQ,partA,buildQ,slQ,stH,bslH,appH,dcells,convI,elemsOf,D.one,nilS,fillD,convN,cvH,tyBankY0,intD,sD,wD,g1]) | (with_reducible refine ⟨?_,?_⟩; (· first | (obtain ⟨rfl⟩:=‹Hq _ _›; with_reducible refine chk_ok ?_; kernel_rfl) | kernel_rfl)) | (with_reducible intro ops hops)))
    (first | refine Call_frz [] (hsu) (by simp [cvAs,cvA,cvRL,cvR,cvBox,cv1,cvL,cv0,bI,byteI,intD,boolD,sD,sI,pusI,wD,elemsOf,upd]) ?_ | refine CallF_frz [] [] (hsu) (fun G _=>by simp [cvAs,cvA,cvRL,cvR,cvBox,cv1,cvL,cv0,bI,byteI,intD,boolD,sD,sI,pusI,wD,elemsOf,upd]) (by simp) ?_)
    (repeat (first | (simp -implicitDefEqProofs only [ev,mixed,Nat.reduceLT,Nat.reduceAdd,Nat.reduceMul,reduceIte,Nat.reduceEqDiff,reduceCtorEq,Nat.reducePow,Nat.reduceLeDiff,Int.reduceLE,Int.reduceLT,Int.reduceToNat,Int.reduceEq,Nat.reduceBEq,itsOf,gdA,byteI,opid,lenQ,ixQ,ldH,readAt,readCells,asCell,faQ,exQ,fldQ,partA,buildQ,slQ,stH,bslH,appH,dcells,convI,elemsOf,D.one,nilS,fillD,convN,cvH,tyBankY0,intD,sD,wD,boolD]) | (with_reducible refine ⟨?_,?_⟩; (· first | (obtain ⟨rfl⟩:=‹Hq _ _›; with_reducible refine chk_ok ?_; kernel_rfl) | kernel_rfl)) | (with_reducible intro ops hops)))
    refine Call_dir hadd ?_
    (repeat (first | (simp -implicitDefEqProofs only [ev,mixed,Nat.reduceLT,Nat.reduceAdd,Nat.reduceMul,reduceIte,Nat.reduceEqDiff,reduceCtorEq,Nat.reducePow,Nat.reduceLeDiff,Int.reduceLE,Int.reduceLT,Int.reduceToNat,Int.reduceEq,Nat.reduceBEq,itsOf,gdA,byteI,opid,lenQ,ixQ,ldH,readAt,readCells,asCell,faQ,exQ,fldQ,partA,buildQ,slQ,stH,bslH,appH,dcells,convI,elemsOf,D.one,nilS,fillD,convN,cvH,tyBankY0,intD,sD,wD,boolD]) | (with_reducible refine ⟨?_,?_⟩; (· first | (obtain ⟨rfl⟩:=‹Hq _ _›; with_reducible refine chk_ok ?_; kernel_rfl) | kernel_rfl)) | (with_reducible intro ops hops)))
    refine fin_tt [] rfl ?_
    simp [cv,cvT,cv1,cv0,upd,intD,pusI]
   ·rw [if_neg hov,decide_eq_false hov] at hsu
    have hadd:=add64_X S n 0 (by omega) hn (by decide)
    generalize (S+n+0) % 18446744073709551616=x1 at hadd
    generalize hx2:(S+n+0) / 18446744073709551616=x2 at hadd
    by_cases hsn:18446744073709551616≤S+n
    ·rw [if_pos hsn]
     have g2:decide ((0:Int) < (x2:Int))=true:=decide_eq_true (by omega)
     refine callD_W 78 Tryd.func22 rfl rfl rfl (fun _ _=>rfl) ?_
     (repeat (first | (simp -implicitDefEqProofs only [ev,mixed,Nat.reduceLT,Nat.reduceAdd,Nat.reduceMul,reduceIte,Nat.reduceEqDiff,reduceCtorEq,Nat.reducePow,Nat.reduceLeDiff,Int.reduceLE,Int.reduceLT,Int.reduceToNat,Int.reduceEq,Nat.reduceBEq,itsOf,gdA,byteI,opid,lenQ,ixQ,ldH,readAt,readCells,asCell,faQ,exQ,fldQ,partA,buildQ,slQ,stH,bslH,appH,dcells,convI,elemsOf,D.one,nilS,fillD,convN,cvH,tyBankY0,pusI,sD,wD]) | (with_reducible refine ⟨?_,?_⟩; (· first | (obtain ⟨rfl⟩:=‹Hq _ _›; with_reducible refine chk_ok ?_; kernel_rfl) | kernel_rfl)) | (with_reducible intro ops hops)))
     (first | refine Call_flat [1258] [] (hw) (by simp [cvAs,cvA,cvRL,cvR,cvBox,cv1,cvL,cv0,bI,byteI,intD,boolD,sD,sI,pusI,wD,elemsOf,upd,hO,lk]) rfl ?_ | refine CallF_flat [1258] [] [1258] (hw) (fun G hG=>by (have hG1258:=hG 1258 (by simp); simp [cvAs,cvA,cvRL,cvR,cvBox,cv1,cvL,cv0,bI,byteI,intD,boolD,sD,sI,pusI,wD,elemsOf,upd,hO,lk,hG1258])) rfl ?_)
     (repeat (first | (simp -implicitDefEqProofs only [ev,mixed,Nat.reduceLT,Nat.reduceAdd,Nat.reduceMul,reduceIte,Nat.reduceEqDiff,reduceCtorEq,Nat.reducePow,Nat.reduceLeDiff,Int.reduceLE,Int.reduceLT,Int.reduceToNat,Int.reduceEq,Nat.reduceBEq,itsOf,gdA,byteI,opid,lenQ,ixQ,ldH,readAt,readCells,asCell,faQ,exQ,fldQ,partA,buildQ,slQ,stH,bslH,appH,dcells,convI,elemsOf,D.one,nilS,fillD,convN,cvH,tyBankY0,intD]) | (with_reducible refine ⟨?_,?_⟩; (· first | (obtain ⟨rfl⟩:=‹Hq _ _›; with_reducible refine chk_ok ?_; kernel_rfl) | kernel_rfl)) | (with_reducible intro ops hops)))
     refine Call_new 2025 hcl (by simp [hO,lk,upd,noH]) rfl ?_
     (repeat (first | (simp -implicitDefEqProofs only [ev,mixed,Nat.reduceLT,Nat.reduceAdd,Nat.reduceMul,reduceIte,Nat.reduceEqDiff,reduceCtorEq,Nat.reducePow,Nat.reduceLeDiff,Int.reduceLE,Int.reduceLT,Int.reduceToNat,Int.reduceEq,Nat.reduceBEq,itsOf,gdA,byteI,opid,lenQ,ixQ,ldH,readAt,readCells,asCell,faQ,exQ,fldQ,partA,buildQ,slQ,stH,bslH,appH,dcells,convI,elemsOf,D.one,nilS,fillD,convN,cvH,tyBankY0,intD,sD,wD,g1]) | (with_reducible refine ⟨?_,?_⟩; (· first | (obtain ⟨rfl⟩:=‹Hq _ _›; with_reducible refine chk_ok ?_; kernel_rfl) | kernel_rfl)) | (with_reducible intro ops hops)))
     (first | refine Call_frz [] (hsu) (by simp [cvAs,cvA,cvRL,cvR,cvBox,cv1,cvL,cv0,bI,byteI,intD,boolD,sD,sI,pusI,wD,elemsOf,upd]) ?_ | refine CallF_frz [] [] (hsu) (fun G _=>by simp [cvAs,cvA,cvRL,cvR,cvBox,cv1,cvL,cv0,bI,byteI,intD,boolD,sD,sI,pusI,wD,elemsOf,upd]) (by simp) ?_)
     (repeat (first | (simp -implicitDefEqProofs only [ev,mixed,Nat.reduceLT,Nat.reduceAdd,Nat.reduceMul,reduceIte,Nat.reduceEqDiff,reduceCtorEq,Nat.reducePow,Nat.reduceLeDiff,Int.reduceLE,Int.reduceLT,Int.reduceToNat,Int.reduceEq,Nat.reduceBEq,itsOf,gdA,byteI,opid,lenQ,ixQ,ldH,readAt,readCells,asCell,faQ,exQ,fldQ,partA,buildQ,slQ,stH,bslH,appH,dcells,convI,elemsOf,D.one,nilS,fillD,convN,cvH,tyBankY0,intD,sD,wD,boolD]) | (with_reducible refine ⟨?_,?_⟩; (· first | (obtain ⟨rfl⟩:=‹Hq _ _›; with_reducible refine chk_ok ?_; kernel_rfl) | kernel_rfl)) | (with_reducible intro ops hops)))
     refine Call_dir hadd ?_
     (repeat (first | (simp -implicitDefEqProofs only [ev,mixed,Nat.reduceLT,Nat.reduceAdd,Nat.reduceMul,reduceIte,Nat.reduceEqDiff,reduceCtorEq,Nat.reducePow,Nat.reduceLeDiff,Int.reduceLE,Int.reduceLT,Int.reduceToNat,Int.reduceEq,Nat.reduceBEq,itsOf,gdA,byteI,opid,lenQ,ixQ,ldH,readAt,readCells,asCell,faQ,exQ,fldQ,partA,buildQ,slQ,stH,bslH,appH,dcells,convI,elemsOf,D.one,nilS,fillD,convN,cvH,tyBankY0,intD,sD,wD,boolD,g2]) | (with_reducible refine ⟨?_,?_⟩; (· first | (obtain ⟨rfl⟩:=‹Hq _ _›; with_reducible refine chk_ok ?_; kernel_rfl) | kernel_rfl)) | (with_reducible intro ops hops)))
     refine fin_tt [] rfl ?_
     simp [cv,cvT,cv1,cv0,upd,intD,pusI]
    ·rw [if_neg hsn]
     have g2:decide ((0:Int) < (x2:Int))=false:=decide_eq_false (by omega)
     generalize hA:amtP l o d=A at *
     cases hg:getP l o d with
     | none =>
      rw [hg] at hf hga
      have hA0:A=0:=by
       apply Decidable.byContradiction; intro hc
       rw [if_neg hc] at hga; cases hga
      subst hA0
      by_cases h60:l.length=60
      ·have g3:decide ((l.length:Int)=60)=true:=decide_eq_true (by omega)
       rw [if_pos ⟨rfl,h60⟩]
       generalize placeP l o d=j at *
       refine callD_W 78 Tryd.func22 rfl rfl rfl (fun _ _=>rfl) ?_
       (repeat (first | (simp -implicitDefEqProofs only [ev,mixed,Nat.reduceLT,Nat.reduceAdd,Nat.reduceMul,reduceIte,Nat.reduceEqDiff,reduceCtorEq,Nat.reducePow,Nat.reduceLeDiff,Int.reduceLE,Int.reduceLT,Int.reduceToNat,Int.reduceEq,Nat.reduceBEq,itsOf,gdA,byteI,opid,lenQ,ixQ,ldH,readAt,readCells,asCell,faQ,exQ,fldQ,partA,buildQ,slQ,stH,bslH,appH,dcells,convI,elemsOf,D.one,nilS,fillD,convN,cvH,tyBankY0,pusI,sD,wD]) | (with_reducible refine ⟨?_,?_⟩; (· first | (obtain ⟨rfl⟩:=‹Hq _ _›; with_reducible refine chk_ok ?_; kernel_rfl) | kernel_rfl)) | (with_reducible intro ops hops)))
       (first | refine Call_flat [1258] [] (hw) (by simp [cvAs,cvA,cvRL,cvR,cvBox,cv1,cvL,cv0,bI,byteI,intD,boolD,sD,sI,pusI,wD,elemsOf,upd,hO,lk]) rfl ?_ | refine CallF_flat [1258] [] [1258] (hw) (fun G hG=>by (have hG1258:=hG 1258 (by simp); simp [cvAs,cvA,cvRL,cvR,cvBox,cv1,cvL,cv0,bI,byteI,intD,boolD,sD,sI,pusI,wD,elemsOf,upd,hO,lk,hG1258])) rfl ?_)
       (repeat (first | (simp -implicitDefEqProofs only [ev,mixed,Nat.reduceLT,Nat.reduceAdd,Nat.reduceMul,reduceIte,Nat.reduceEqDiff,reduceCtorEq,Nat.reducePow,Nat.reduceLeDiff,Int.reduceLE,Int.reduceLT,Int.reduceToNat,Int.reduceEq,Nat.reduceBEq,itsOf,gdA,byteI,opid,lenQ,ixQ,ldH,readAt,readCells,asCell,faQ,exQ,fldQ,partA,buildQ,slQ,stH,bslH,appH,dcells,convI,elemsOf,D.one,nilS,fillD,convN,cvH,tyBankY0,intD]) | (with_reducible refine ⟨?_,?_⟩; (· first | (obtain ⟨rfl⟩:=‹Hq _ _›; with_reducible refine chk_ok ?_; kernel_rfl) | kernel_rfl)) | (with_reducible intro ops hops)))
       refine Call_new 2025 hcl (by simp [hO,lk,upd,noH]) rfl ?_
       (repeat (first | (simp -implicitDefEqProofs only [ev,mixed,Nat.reduceLT,Nat.reduceAdd,Nat.reduceMul,reduceIte,Nat.reduceEqDiff,reduceCtorEq,Nat.reducePow,Nat.reduceLeDiff,Int.reduceLE,Int.reduceLT,Int.reduceToNat,Int.reduceEq,Nat.reduceBEq,itsOf,gdA,byteI,opid,lenQ,ixQ,ldH,readAt,readCells,asCell,faQ,exQ,fldQ,partA,buildQ,slQ,stH,bslH,appH,dcells,convI,elemsOf,D.one,nilS,fillD,convN,cvH,tyBankY0,intD,sD,wD,g1]) | (with_reducible refine ⟨?_,?_⟩; (· first | (obtain ⟨rfl⟩:=‹Hq _ _›; with_reducible refine chk_ok ?_; kernel_rfl) | kernel_rfl)) | (with_reducible intro ops hops)))
       (first | refine Call_frz [] (hsu) (by simp [cvAs,cvA,cvRL,cvR,cvBox,cv1,cvL,cv0,bI,byteI,intD,boolD,sD,sI,pusI,wD,elemsOf,upd]) ?_ | refine CallF_frz [] [] (hsu) (fun G _=>by simp [cvAs,cvA,cvRL,cvR,cvBox,cv1,cvL,cv0,bI,byteI,intD,boolD,sD,sI,pusI,wD,elemsOf,upd]) (by simp) ?_)
       (repeat (first | (simp -implicitDefEqProofs only [ev,mixed,Nat.reduceLT,Nat.reduceAdd,Nat.reduceMul,reduceIte,Nat.reduceEqDiff,reduceCtorEq,Nat.reducePow,Nat.reduceLeDiff,Int.reduceLE,Int.reduceLT,Int.reduceToNat,Int.reduceEq,Nat.reduceBEq,itsOf,gdA,byteI,opid,lenQ,ixQ,ldH,readAt,readCells,asCell,faQ,exQ,fldQ,partA,buildQ,slQ,stH,bslH,appH,dcells,convI,elemsOf,D.one,nilS,fillD,convN,cvH,tyBankY0,intD,sD,wD,boolD]) | (with_reducible refine ⟨?_,?_⟩; (· first | (obtain ⟨rfl⟩:=‹Hq _ _›; with_reducible refine chk_ok ?_; kernel_rfl) | kernel_rfl)) | (with_reducible intro ops hops)))
       refine Call_dir hadd ?_
       (repeat (first | (simp -implicitDefEqProofs only [ev,mixed,Nat.reduceLT,Nat.reduceAdd,Nat.reduceMul,reduceIte,Nat.reduceEqDiff,reduceCtorEq,Nat.reducePow,Nat.reduceLeDiff,Int.reduceLE,Int.reduceLT,Int.reduceToNat,Int.reduceEq,Nat.reduceBEq,itsOf,gdA,byteI,opid,lenQ,ixQ,ldH,readAt,readCells,asCell,faQ,exQ,fldQ,partA,buildQ,slQ,stH,bslH,appH,dcells,convI,elemsOf,D.one,nilS,fillD,convN,cvH,tyBankY0,intD,sD,wD,boolD,g2]) | (with_reducible refine ⟨?_,?_⟩; (· first | (obtain ⟨rfl⟩:=‹Hq _ _›; with_reducible refine chk_ok ?_; kernel_rfl) | kernel_rfl)) | (with_reducible intro ops hops)))
       (first | refine Call_flat [2025] [] (hf) (by simp [cvAs,cvA,cvRL,cvR,cvBox,cv1,cvL,cv0,bI,byteI,intD,boolD,sD,sI,pusI,wD,elemsOf,upd,hO,lk,take_len_map]) rfl ?_ | refine CallF_flat [2025] [] [2025] (hf) (fun G hG=>by (have hG2025:=hG 2025 (by simp); simp [cvAs,cvA,cvRL,cvR,cvBox,cv1,cvL,cv0,bI,byteI,intD,boolD,sD,sI,pusI,wD,elemsOf,upd,hO,lk,take_len_map,hG2025])) rfl ?_)
       (repeat (first | (simp -implicitDefEqProofs only [ev,mixed,Nat.reduceLT,Nat.reduceAdd,Nat.reduceMul,reduceIte,Nat.reduceEqDiff,reduceCtorEq,Nat.reducePow,Nat.reduceLeDiff,Int.reduceLE,Int.reduceLT,Int.reduceToNat,Int.reduceEq,Nat.reduceBEq,itsOf,gdA,byteI,opid,lenQ,ixQ,ldH,readAt,readCells,asCell,faQ,exQ,fldQ,partA,buildQ,slQ,stH,bslH,appH,dcells,convI,elemsOf,D.one,nilS,fillD,convN,cvH,tyBankY0,intD,boolD,Option.isSome_none,g3]) | (with_reducible refine ⟨?_,?_⟩; (· first | (obtain ⟨rfl⟩:=‹Hq _ _›; with_reducible refine chk_ok ?_; kernel_rfl) | kernel_rfl)) | (with_reducible intro ops hops)))
       refine fin_tt [] rfl ?_
       simp [cv,cvT,cv1,cv0,upd,intD,pusI]
      ·have g3:decide ((l.length:Int)=60)=false:=decide_eq_false (by omega)
       rw [if_neg (fun e=>h60 e.2)]
       have hj:placeP l o d≤l.length:=KL.place_le cmpP_ok l _
       have hins:=insert_Pu (l.map encPu) [.s (.string o),.s (.string d),.s (.int .u64 n)] (placeP l o d) (by simpa using hj) (by simp; omega) (es3 l) rfl
       have hres:setP l o d (0+n)=l.take (placeP l o d)++⟨o,d,n⟩ :: l.drop (placeP l o d):=by
        unfold setP putPu
        rw [if_neg (by omega),KL.put_miss cmpP_ok h.srt hg,Nat.zero_add]
       have he2:(l.map encPu).take (placeP l o d)++[.s (.string o),.s (.string d),.s (.int .u64 n)] :: (l.map encPu).drop (placeP l o d)=(setP l o d (0+n)).map encPu:=by
        rw [hres,← List.map_take,← List.map_drop]; simp [encPu]
       have hln:l.length+1=(setP l o d (0+n)).length:=by rw [hres]; simp; omega
       rw [he2] at hins
       simp only [List.length_map,intD] at hins
       rw [hln] at hins
       generalize setP l o d (0+n)=R at *
       generalize placeP l o d=j at *
       refine callD_W 78 Tryd.func22 rfl rfl rfl (fun _ _=>rfl) ?_
       (repeat (first | (simp -implicitDefEqProofs only [ev,mixed,Nat.reduceLT,Nat.reduceAdd,Nat.reduceMul,reduceIte,Nat.reduceEqDiff,reduceCtorEq,Nat.reducePow,Nat.reduceLeDiff,Int.reduceLE,Int.reduceLT,Int.reduceToNat,Int.reduceEq,Nat.reduceBEq,itsOf,gdA,byteI,opid,lenQ,ixQ,ldH,readAt,readCells,asCell,faQ,exQ,fldQ,partA,buildQ,slQ,stH,bslH,appH,dcells,convI,elemsOf,D.one,nilS,fillD,convN,cvH,tyBankY0,pusI,sD,wD]) | (with_reducible refine ⟨?_,?_⟩; (· first | (obtain ⟨rfl⟩:=‹Hq _ _›; with_reducible refine chk_ok ?_; kernel_rfl) | kernel_rfl)) | (with_reducible intro ops hops)))
       (first | refine Call_flat [1258] [] (hw) (by simp [cvAs,cvA,cvRL,cvR,cvBox,cv1,cvL,cv0,bI,byteI,intD,boolD,sD,sI,pusI,wD,elemsOf,upd,hO,lk]) rfl ?_ | refine CallF_flat [1258] [] [1258] (hw) (fun G hG=>by (have hG1258:=hG 1258 (by simp); simp [cvAs,cvA,cvRL,cvR,cvBox,cv1,cvL,cv0,bI,byteI,intD,boolD,sD,sI,pusI,wD,elemsOf,upd,hO,lk,hG1258])) rfl ?_)
       (repeat (first | (simp -implicitDefEqProofs only [ev,mixed,Nat.reduceLT,Nat.reduceAdd,Nat.reduceMul,reduceIte,Nat.reduceEqDiff,reduceCtorEq,Nat.reducePow,Nat.reduceLeDiff,Int.reduceLE,Int.reduceLT,Int.reduceToNat,Int.reduceEq,Nat.reduceBEq,itsOf,gdA,byteI,opid,lenQ,ixQ,ldH,readAt,readCells,asCell,faQ,exQ,fldQ,partA,buildQ,slQ,stH,bslH,appH,dcells,convI,elemsOf,D.one,nilS,fillD,convN,cvH,tyBankY0,intD]) | (with_reducible refine ⟨?_,?_⟩; (· first | (obtain ⟨rfl⟩:=‹Hq _ _›; with_reducible refine chk_ok ?_; kernel_rfl) | kernel_rfl)) | (with_reducible intro ops hops)))
       refine Call_new 2025 hcl (by simp [hO,lk,upd,noH]) rfl ?_
       (repeat (first | (simp -implicitDefEqProofs only [ev,mixed,Nat.reduceLT,Nat.reduceAdd,Nat.reduceMul,reduceIte,Nat.reduceEqDiff,reduceCtorEq,Nat.reducePow,Nat.reduceLeDiff,Int.reduceLE,Int.reduceLT,Int.reduceToNat,Int.reduceEq,Nat.reduceBEq,itsOf,gdA,byteI,opid,lenQ,ixQ,ldH,readAt,readCells,asCell,faQ,exQ,fldQ,partA,buildQ,slQ,stH,bslH,appH,dcells,convI,elemsOf,D.one,nilS,fillD,convN,cvH,tyBankY0,intD,sD,wD,g1]) | (with_reducible refine ⟨?_,?_⟩; (· first | (obtain ⟨rfl⟩:=‹Hq _ _›; with_reducible refine chk_ok ?_; kernel_rfl) | kernel_rfl)) | (with_reducible intro ops hops)))
       (first | refine Call_frz [] (hsu) (by simp [cvAs,cvA,cvRL,cvR,cvBox,cv1,cvL,cv0,bI,byteI,intD,boolD,sD,sI,pusI,wD,elemsOf,upd]) ?_ | refine CallF_frz [] [] (hsu) (fun G _=>by simp [cvAs,cvA,cvRL,cvR,cvBox,cv1,cvL,cv0,bI,byteI,intD,boolD,sD,sI,pusI,wD,elemsOf,upd]) (by simp) ?_)
       (repeat (first | (simp -implicitDefEqProofs only [ev,mixed,Nat.reduceLT,Nat.reduceAdd,Nat.reduceMul,reduceIte,Nat.reduceEqDiff,reduceCtorEq,Nat.reducePow,Nat.reduceLeDiff,Int.reduceLE,Int.reduceLT,Int.reduceToNat,Int.reduceEq,Nat.reduceBEq,itsOf,gdA,byteI,opid,lenQ,ixQ,ldH,readAt,readCells,asCell,faQ,exQ,fldQ,partA,buildQ,slQ,stH,bslH,appH,dcells,convI,elemsOf,D.one,nilS,fillD,convN,cvH,tyBankY0,intD,sD,wD,boolD]) | (with_reducible refine ⟨?_,?_⟩; (· first | (obtain ⟨rfl⟩:=‹Hq _ _›; with_reducible refine chk_ok ?_; kernel_rfl) | kernel_rfl)) | (with_reducible intro ops hops)))
       refine Call_dir hadd ?_
       (repeat (first | (simp -implicitDefEqProofs only [ev,mixed,Nat.reduceLT,Nat.reduceAdd,Nat.reduceMul,reduceIte,Nat.reduceEqDiff,reduceCtorEq,Nat.reducePow,Nat.reduceLeDiff,Int.reduceLE,Int.reduceLT,Int.reduceToNat,Int.reduceEq,Nat.reduceBEq,itsOf,gdA,byteI,opid,lenQ,ixQ,ldH,readAt,readCells,asCell,faQ,exQ,fldQ,partA,buildQ,slQ,stH,bslH,appH,dcells,convI,elemsOf,D.one,nilS,fillD,convN,cvH,tyBankY0,intD,sD,wD,boolD,g2]) | (with_reducible refine ⟨?_,?_⟩; (· first | (obtain ⟨rfl⟩:=‹Hq _ _›; with_reducible refine chk_ok ?_; kernel_rfl) | kernel_rfl)) | (with_reducible intro ops hops)))
       (first | refine Call_flat [2025] [] (hf) (by simp [cvAs,cvA,cvRL,cvR,cvBox,cv1,cvL,cv0,bI,byteI,intD,boolD,sD,sI,pusI,wD,elemsOf,upd,hO,lk,take_len_map]) rfl ?_ | refine CallF_flat [2025] [] [2025] (hf) (fun G hG=>by (have hG2025:=hG 2025 (by simp); simp [cvAs,cvA,cvRL,cvR,cvBox,cv1,cvL,cv0,bI,byteI,intD,boolD,sD,sI,pusI,wD,elemsOf,upd,hO,lk,take_len_map,hG2025])) rfl ?_)
       (repeat (first | (simp -implicitDefEqProofs only [ev,mixed,Nat.reduceLT,Nat.reduceAdd,Nat.reduceMul,reduceIte,Nat.reduceEqDiff,reduceCtorEq,Nat.reducePow,Nat.reduceLeDiff,Int.reduceLE,Int.reduceLT,Int.reduceToNat,Int.reduceEq,Nat.reduceBEq,itsOf,gdA,byteI,opid,lenQ,ixQ,ldH,readAt,readCells,asCell,faQ,exQ,fldQ,partA,buildQ,slQ,stH,bslH,appH,dcells,convI,elemsOf,D.one,nilS,fillD,convN,cvH,tyBankY0,intD,boolD,Option.isSome_none,g3]) | (with_reducible refine ⟨?_,?_⟩; (· first | (obtain ⟨rfl⟩:=‹Hq _ _›; with_reducible refine chk_ok ?_; kernel_rfl) | kernel_rfl)) | (with_reducible intro ops hops)))
       refine Call_arr2 4079 hins (by simp [hO,lk,upd,noH]) (by simp [hO,lk,upd,noH]) (by simp [hO,lk,upd,noH]) rfl ?_
       (repeat (first | (simp -implicitDefEqProofs only [ev,mixed,Nat.reduceLT,Nat.reduceAdd,Nat.reduceMul,reduceIte,Nat.reduceEqDiff,reduceCtorEq,Nat.reducePow,Nat.reduceLeDiff,Int.reduceLE,Int.reduceLT,Int.reduceToNat,Int.reduceEq,Nat.reduceBEq,itsOf,gdA,byteI,opid,lenQ,ixQ,ldH,readAt,readCells,asCell,faQ,exQ,fldQ,partA,buildQ,slQ,stH,bslH,appH,dcells,convI,elemsOf,D.one,nilS,fillD,convN,cvH,tyBankY0,intD]) | (with_reducible refine ⟨?_,?_⟩; (· first | (obtain ⟨rfl⟩:=‹Hq _ _›; with_reducible refine chk_ok ?_; kernel_rfl) | kernel_rfl)) | (with_reducible intro ops hops)))
       refine fin_tt [4079] rfl ?_
       simp [cv,cvT,cv1,cv0,upd,intD,pusI,elemsOf,take_len_map]
     | some v =>
      rw [hg] at hf hga
      have hA0:A≠0:=by intro hc; rw [if_pos hc] at hga; cases hga
      rw [if_neg hA0] at hga
      injection hga with hga
      subst hga
      rw [if_neg (fun e=>hA0 e.1)]
      obtain ⟨hp,hv⟩:=KL.place_lt cmpP_ok h.srt hg
      have hp':placeP l o d < l.length:=hp
      have e1:(l.map encPu)[placeP l o d]?=some (encPu ⟨o,d,A⟩):=by rw [List.getElem?_map,List.getElem?_eq_getElem hp,hv]; rfl
      have w1:IntKind.u64.wrap ((A:Int)+(n:Int))=((A+n:Nat):Int):=by rw [IntKind.wrap_u64]; omega
      have L1:((placeP l o d:Int) < (l.length:Int))=True:=eq_true (by omega)
      simp only [encPu] at e1
      have hres:(l.map encPu).set (placeP l o d) [.s (.string o),.s (.string d),.s (.int .u64 ((A+n:Nat):Int))]=(setP l o d (A+n)).map encPu:=by
       unfold setP putPu
       rw [if_neg (by omega),KL.put_hit cmpP_ok h.srt hg,List.set_eq_take_append_cons_drop,if_pos (by simpa using hp')]
       simp [encPu]
      have hln:l.length=(setP l o d (A+n)).length:=by
       have:=congrArg List.length hres
       simpa using this
      generalize setP l o d (A+n)=R at *
      generalize placeP l o d=j at *
      generalize A+n=B at *
      refine callD_W 78 Tryd.func22 rfl rfl rfl (fun _ _=>rfl) ?_
      (repeat (first | (simp -implicitDefEqProofs only [ev,mixed,Nat.reduceLT,Nat.reduceAdd,Nat.reduceMul,reduceIte,Nat.reduceEqDiff,reduceCtorEq,Nat.reducePow,Nat.reduceLeDiff,Int.reduceLE,Int.reduceLT,Int.reduceToNat,Int.reduceEq,Nat.reduceBEq,itsOf,gdA,byteI,opid,lenQ,ixQ,ldH,readAt,readCells,asCell,faQ,exQ,fldQ,partA,buildQ,slQ,stH,bslH,appH,dcells,convI,elemsOf,D.one,nilS,fillD,convN,cvH,tyBankY0,pusI,sD,wD]) | (with_reducible refine ⟨?_,?_⟩; (· first | (obtain ⟨rfl⟩:=‹Hq _ _›; with_reducible refine chk_ok ?_; kernel_rfl) | kernel_rfl)) | (with_reducible intro ops hops)))
      (first | refine Call_flat [1258] [] (hw) (by simp [cvAs,cvA,cvRL,cvR,cvBox,cv1,cvL,cv0,bI,byteI,intD,boolD,sD,sI,pusI,wD,elemsOf,upd,hO,lk]) rfl ?_ | refine CallF_flat [1258] [] [1258] (hw) (fun G hG=>by (have hG1258:=hG 1258 (by simp); simp [cvAs,cvA,cvRL,cvR,cvBox,cv1,cvL,cv0,bI,byteI,intD,boolD,sD,sI,pusI,wD,elemsOf,upd,hO,lk,hG1258])) rfl ?_)
      (repeat (first | (simp -implicitDefEqProofs only [ev,mixed,Nat.reduceLT,Nat.reduceAdd,Nat.reduceMul,reduceIte,Nat.reduceEqDiff,reduceCtorEq,Nat.reducePow,Nat.reduceLeDiff,Int.reduceLE,Int.reduceLT,Int.reduceToNat,Int.reduceEq,Nat.reduceBEq,itsOf,gdA,byteI,opid,lenQ,ixQ,ldH,readAt,readCells,asCell,faQ,exQ,fldQ,partA,buildQ,slQ,stH,bslH,appH,dcells,convI,elemsOf,D.one,nilS,fillD,convN,cvH,tyBankY0,intD]) | (with_reducible refine ⟨?_,?_⟩; (· first | (obtain ⟨rfl⟩:=‹Hq _ _›; with_reducible refine chk_ok ?_; kernel_rfl) | kernel_rfl)) | (with_reducible intro ops hops)))
      refine Call_new 2025 hcl (by simp [hO,lk,upd,noH]) rfl ?_
      (repeat (first | (simp -implicitDefEqProofs only [ev,mixed,Nat.reduceLT,Nat.reduceAdd,Nat.reduceMul,reduceIte,Nat.reduceEqDiff,reduceCtorEq,Nat.reducePow,Nat.reduceLeDiff,Int.reduceLE,Int.reduceLT,Int.reduceToNat,Int.reduceEq,Nat.reduceBEq,itsOf,gdA,byteI,opid,lenQ,ixQ,ldH,readAt,readCells,asCell,faQ,exQ,fldQ,partA,buildQ,slQ,stH,bslH,appH,dcells,convI,elemsOf,D.one,nilS,fillD,convN,cvH,tyBankY0,intD,sD,wD,g1]) | (with_reducible refine ⟨?_,?_⟩; (· first | (obtain ⟨rfl⟩:=‹Hq _ _›; with_reducible refine chk_ok ?_; kernel_rfl) | kernel_rfl)) | (with_reducible intro ops hops)))
      (first | refine Call_frz [] (hsu) (by simp [cvAs,cvA,cvRL,cvR,cvBox,cv1,cvL,cv0,bI,byteI,intD,boolD,sD,sI,pusI,wD,elemsOf,upd]) ?_ | refine CallF_frz [] [] (hsu) (fun G _=>by simp [cvAs,cvA,cvRL,cvR,cvBox,cv1,cvL,cv0,bI,byteI,intD,boolD,sD,sI,pusI,wD,elemsOf,upd]) (by simp) ?_)
      (repeat (first | (simp -implicitDefEqProofs only [ev,mixed,Nat.reduceLT,Nat.reduceAdd,Nat.reduceMul,reduceIte,Nat.reduceEqDiff,reduceCtorEq,Nat.reducePow,Nat.reduceLeDiff,Int.reduceLE,Int.reduceLT,Int.reduceToNat,Int.reduceEq,Nat.reduceBEq,itsOf,gdA,byteI,opid,lenQ,ixQ,ldH,readAt,readCells,asCell,faQ,exQ,fldQ,partA,buildQ,slQ,stH,bslH,appH,dcells,convI,elemsOf,D.one,nilS,fillD,convN,cvH,tyBankY0,intD,sD,wD,boolD]) | (with_reducible refine ⟨?_,?_⟩; (· first | (obtain ⟨rfl⟩:=‹Hq _ _›; with_reducible refine chk_ok ?_; kernel_rfl) | kernel_rfl)) | (with_reducible intro ops hops)))
      refine Call_dir hadd ?_
      (repeat (first | (simp -implicitDefEqProofs only [ev,mixed,Nat.reduceLT,Nat.reduceAdd,Nat.reduceMul,reduceIte,Nat.reduceEqDiff,reduceCtorEq,Nat.reducePow,Nat.reduceLeDiff,Int.reduceLE,Int.reduceLT,Int.reduceToNat,Int.reduceEq,Nat.reduceBEq,itsOf,gdA,byteI,opid,lenQ,ixQ,ldH,readAt,readCells,asCell,faQ,exQ,fldQ,partA,buildQ,slQ,stH,bslH,appH,dcells,convI,elemsOf,D.one,nilS,fillD,convN,cvH,tyBankY0,intD,sD,wD,boolD,g2]) | (with_reducible refine ⟨?_,?_⟩; (· first | (obtain ⟨rfl⟩:=‹Hq _ _›; with_reducible refine chk_ok ?_; kernel_rfl) | kernel_rfl)) | (with_reducible intro ops hops)))
      (first | refine Call_flat [2025] [] (hf) (by simp [cvAs,cvA,cvRL,cvR,cvBox,cv1,cvL,cv0,bI,byteI,intD,boolD,sD,sI,pusI,wD,elemsOf,upd,hO,lk,take_len_map]) rfl ?_ | refine CallF_flat [2025] [] [2025] (hf) (fun G hG=>by (have hG2025:=hG 2025 (by simp); simp [cvAs,cvA,cvRL,cvR,cvBox,cv1,cvL,cv0,bI,byteI,intD,boolD,sD,sI,pusI,wD,elemsOf,upd,hO,lk,take_len_map,hG2025])) rfl ?_)
      (repeat (first | (simp -implicitDefEqProofs only [ev,mixed,Nat.reduceLT,Nat.reduceAdd,Nat.reduceMul,reduceIte,Nat.reduceEqDiff,reduceCtorEq,Nat.reducePow,Nat.reduceLeDiff,Int.reduceLE,Int.reduceLT,Int.reduceToNat,Int.reduceEq,Nat.reduceBEq,itsOf,gdA,byteI,opid,lenQ,ixQ,ldH,readAt,readCells,asCell,faQ,exQ,fldQ,partA,buildQ,slQ,stH,bslH,appH,dcells,convI,elemsOf,D.one,nilS,fillD,convN,cvH,tyBankY0,intD,boolD,Option.isSome_some,L1,e1,w1]) | (with_reducible refine ⟨?_,?_⟩; (· first | (obtain ⟨rfl⟩:=‹Hq _ _›; with_reducible refine chk_ok ?_; kernel_rfl) | kernel_rfl)) | (with_reducible intro ops hops)))
      refine fin_tt [2025] rfl ?_
      simp [cv,cvT,cv1,cv0,upd,intD,pusI,elemsOf,hres,hln,take_len_map]
theorem move_A (l:List PurseD) (h:RightP l) (o t d:ByteArray) (n:Nat) (hn:n < 18446744073709551616) :
  PureD Tryd.prog 26 [.i (pusI l),sD o,sD t,sD d,wD n] (.tup [.i (pusI (moveP l o t d n).1),intD (moveP l o t d n).2]):=by
 have h1:=burn_A l h o d n hn
 have h2:=mint_A (burnP l o d n).1 (burn_right h o d n) t d n hn
 unfold moveP
 generalize burnP l o d n=R at *
 obtain ⟨m,e⟩:=R
 simp only at *
 by_cases he:e=0
 ·subst he
  have g1:decide ((0:Int)=0)=true:=rfl
  generalize mintP m t d n=R2 at *
  simp only [if_true]
  refine callD_W 32 Tryd.func26 rfl rfl rfl (fun _ _=>rfl) ?_
  (repeat (first | (simp -implicitDefEqProofs only [ev,mixed,Nat.reduceLT,Nat.reduceAdd,Nat.reduceMul,reduceIte,Nat.reduceEqDiff,reduceCtorEq,Nat.reducePow,Nat.reduceLeDiff,Int.reduceLE,Int.reduceLT,Int.reduceToNat,Int.reduceEq,Nat.reduceBEq,itsOf,gdA,byteI,opid,lenQ,ixQ,ldH,readAt,readCells,asCell,faQ,exQ,fldQ,partA,buildQ,slQ,stH,bslH,appH,dcells,convI,elemsOf,D.one,nilS,fillD,convN,cvH,tyBankY1,pusI,sD,wD]) | (with_reducible refine ⟨?_,?_⟩; (· first | (obtain ⟨rfl⟩:=‹Hq _ _›; with_reducible refine chk_ok ?_; kernel_rfl) | kernel_rfl)) | (with_reducible intro ops hops)))
  (first | refine Call_frz [] (h1) (by simp [cvAs,cvA,cvRL,cvR,cvBox,cv1,cvL,cv0,bI,byteI,intD,boolD,sD,sI,pusI,wD,elemsOf,upd]) ?_ | refine CallF_frz [] [] (h1) (fun G _=>by simp [cvAs,cvA,cvRL,cvR,cvBox,cv1,cvL,cv0,bI,byteI,intD,boolD,sD,sI,pusI,wD,elemsOf,upd]) (by simp) ?_)
  (repeat (first | (simp -implicitDefEqProofs only [ev,mixed,Nat.reduceLT,Nat.reduceAdd,Nat.reduceMul,reduceIte,Nat.reduceEqDiff,reduceCtorEq,Nat.reducePow,Nat.reduceLeDiff,Int.reduceLE,Int.reduceLT,Int.reduceToNat,Int.reduceEq,Nat.reduceBEq,itsOf,gdA,byteI,opid,lenQ,ixQ,ldH,readAt,readCells,asCell,faQ,exQ,fldQ,partA,buildQ,slQ,stH,bslH,appH,dcells,convI,elemsOf,D.one,nilS,fillD,convN,cvH,tyBankY1,intD,pusI,sD,wD,Int.natCast_zero]) | (with_reducible refine ⟨?_,?_⟩; (· first | (obtain ⟨rfl⟩:=‹Hq _ _›; with_reducible refine chk_ok ?_; kernel_rfl) | kernel_rfl)) | (with_reducible intro ops hops)))
  (first | refine Call_frz [] (h2) (by simp [cvAs,cvA,cvRL,cvR,cvBox,cv1,cvL,cv0,bI,byteI,intD,boolD,sD,sI,pusI,wD,elemsOf,upd]) ?_ | refine CallF_frz [] [] (h2) (fun G _=>by simp [cvAs,cvA,cvRL,cvR,cvBox,cv1,cvL,cv0,bI,byteI,intD,boolD,sD,sI,pusI,wD,elemsOf,upd]) (by simp) ?_)
  (repeat (first | (simp -implicitDefEqProofs only [ev,mixed,Nat.reduceLT,Nat.reduceAdd,Nat.reduceMul,reduceIte,Nat.reduceEqDiff,reduceCtorEq,Nat.reducePow,Nat.reduceLeDiff,Int.reduceLE,Int.reduceLT,Int.reduceToNat,Int.reduceEq,Nat.reduceBEq,itsOf,gdA,byteI,opid,lenQ,ixQ,ldH,readAt,readCells,asCell,faQ,exQ,fldQ,partA,buildQ,slQ,stH,bslH,appH,dcells,convI,elemsOf,D.one,nilS,fillD,convN,cvH,tyBankY1,intD,pusI]) | (with_reducible refine ⟨?_,?_⟩; (· first | (obtain ⟨rfl⟩:=‹Hq _ _›; with_reducible refine chk_ok ?_; kernel_rfl) | kernel_rfl)) | (with_reducible intro ops hops)))
  refine fin_tt [] rfl ?_
  simp [cv,cvT,cv1,cv0,upd,intD,pusI]
 ·have g1:decide ((e:Int)=0)=false:=decide_eq_false (by omega)
  rw [if_neg he]
  refine callD_W 32 Tryd.func26 rfl rfl rfl (fun _ _=>rfl) ?_
  (repeat (first | (simp -implicitDefEqProofs only [ev,mixed,Nat.reduceLT,Nat.reduceAdd,Nat.reduceMul,reduceIte,Nat.reduceEqDiff,reduceCtorEq,Nat.reducePow,Nat.reduceLeDiff,Int.reduceLE,Int.reduceLT,Int.reduceToNat,Int.reduceEq,Nat.reduceBEq,itsOf,gdA,byteI,opid,lenQ,ixQ,ldH,readAt,readCells,asCell,faQ,exQ,fldQ,partA,buildQ,slQ,stH,bslH,appH,dcells,convI,elemsOf,D.one,nilS,fillD,convN,cvH,tyBankY1,pusI,sD,wD]) | (with_reducible refine ⟨?_,?_⟩; (· first | (obtain ⟨rfl⟩:=‹Hq _ _›; with_reducible refine chk_ok ?_; kernel_rfl) | kernel_rfl)) | (with_reducible intro ops hops)))
  (first | refine Call_frz [] (h1) (by simp [cvAs,cvA,cvRL,cvR,cvBox,cv1,cvL,cv0,bI,byteI,intD,boolD,sD,sI,pusI,wD,elemsOf,upd]) ?_ | refine CallF_frz [] [] (h1) (fun G _=>by simp [cvAs,cvA,cvRL,cvR,cvBox,cv1,cvL,cv0,bI,byteI,intD,boolD,sD,sI,pusI,wD,elemsOf,upd]) (by simp) ?_)
  (repeat (first | (simp -implicitDefEqProofs only [ev,mixed,Nat.reduceLT,Nat.reduceAdd,Nat.reduceMul,reduceIte,Nat.reduceEqDiff,reduceCtorEq,Nat.reducePow,Nat.reduceLeDiff,Int.reduceLE,Int.reduceLT,Int.reduceToNat,Int.reduceEq,Nat.reduceBEq,itsOf,gdA,byteI,opid,lenQ,ixQ,ldH,readAt,readCells,asCell,faQ,exQ,fldQ,partA,buildQ,slQ,stH,bslH,appH,dcells,convI,elemsOf,D.one,nilS,fillD,convN,cvH,tyBankY1,intD,pusI,sD,wD,g1,Bool.not_false,Bool.not_true]) | (with_reducible refine ⟨?_,?_⟩; (· first | (obtain ⟨rfl⟩:=‹Hq _ _›; with_reducible refine chk_ok ?_; kernel_rfl) | kernel_rfl)) | (with_reducible intro ops hops)))
  refine fin_tt [] rfl ?_
  simp [cv,cvT,cv1,cv0,upd,intD,pusI]
end Go.Proofs.YtckjpabekmhnhaaDoor
