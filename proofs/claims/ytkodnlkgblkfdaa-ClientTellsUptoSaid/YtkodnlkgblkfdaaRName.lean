/- landref6.Name, landref8.From: by value. -/
import Derived.Test.YtkodnlkgblkfdaaG0
import Derived.Test.YtkodnlkgblkfdaaTy
set_option linter.all false
namespace Go.Proofs.Ytkodnlkgblkfdaa
open Go Go.Abs Go.RowKit Go.Proofs.Ytkodnlkgblkfdaa.Ty
theorem tyRName0:(type_of% @Ty.T3)∧(type_of% @Ty.T4)∧(type_of% @Ty.T5)∧(type_of% @Ty.T9):=⟨@Ty.T3,@Ty.T4,@Ty.T5,@Ty.T9⟩
theorem decode_low {s:ByteArray} {i:Nat} (hi:i < s.size) (h:(byS s i).toNat < 128):(Utf8.decode s i).2=1:=by
 have e:s.get! i=byS s i:=by
  unfold byS
  show s.data[i]! = _
  have:i < s.data.size:=hi
  rw [List.getD_eq_getElem?_getD,Array.getElem?_toList,Array.getElem!_eq_getD,Array.getD_eq_getD_getElem?]
  rfl
 simp [Utf8.decode,e,h]
theorem inR_succ {lo c:Nat} {b:UInt8} (h:lo≤c):(inR lo c b || decide (b.toNat=c))=inR lo (c+1) b:=by
 unfold inR
 rw [Bool.eq_iff_iff]; simp; omega
theorem inR_self {lo:Nat} {b:UInt8}:inR lo lo b=false:=by unfold inR; exact decide_eq_false (by omega)
set_option maxHeartbeats 4000000
theorem name_A (s:ByteArray):PureD Try.prog 19 [sD s] (boolV (nameOk s)):=by
 unfold nameOk
 by_cases h0:s.size=0
 ·have g1:decide ((s.size:Int)=0)=true:=decide_eq_true (by omega)
  rw [decide_eq_false (show ¬ 1≤s.size by omega),Bool.false_and,Bool.false_and]
  refine callD_W 46 Try.func19 rfl rfl rfl (fun _ _=>rfl) ?_
  (repeat (first | (simp -implicitDefEqProofs only [ev,mixed,Nat.reduceLT,Nat.reduceAdd,Nat.reduceMul,reduceIte,Nat.reduceEqDiff,reduceCtorEq,Nat.reducePow,Nat.reduceLeDiff,Int.reduceLE,Int.reduceLT,Int.reduceToNat,Int.reduceEq,Nat.reduceBEq,itsOf,gdA,byteI,opid,lenQ,ixQ,ldH,readAt,readCells,asCell,faQ,exQ,fldQ,partA,buildQ,slQ,stH,bslH,appH,dcells,convI,elemsOf,D.one,nilS,fillD,convN,cvH,tyRName0,sD,g1]) | (with_reducible refine ⟨?_,?_⟩; (· first | (obtain ⟨rfl⟩:=‹Hq _ _›; with_reducible refine chk_ok ?_; kernel_rfl) | kernel_rfl)) | (with_reducible intro ops hops)))
  refine fin_ret [] rfl ?_
  simp [cv,cv1,cv0,upd,boolV]
 have g1:decide ((s.size:Int)=0)=false:=decide_eq_false (by omega)
 rw [decide_eq_true (show 1≤s.size by omega),Bool.true_and]
 by_cases h20:s.size≤20
 rotate_left
 ·have g2:decide ((20:Int) < (s.size:Int))=true:=decide_eq_true (by omega)
  rw [decide_eq_false h20,Bool.false_and]
  refine callD_W 46 Try.func19 rfl rfl rfl (fun _ _=>rfl) ?_
  (repeat (first | (simp -implicitDefEqProofs only [ev,mixed,Nat.reduceLT,Nat.reduceAdd,Nat.reduceMul,reduceIte,Nat.reduceEqDiff,reduceCtorEq,Nat.reducePow,Nat.reduceLeDiff,Int.reduceLE,Int.reduceLT,Int.reduceToNat,Int.reduceEq,Nat.reduceBEq,itsOf,gdA,byteI,opid,lenQ,ixQ,ldH,readAt,readCells,asCell,faQ,exQ,fldQ,partA,buildQ,slQ,stH,bslH,appH,dcells,convI,elemsOf,D.one,nilS,fillD,convN,cvH,tyRName0,sD,g1,g2]) | (with_reducible refine ⟨?_,?_⟩; (· first | (obtain ⟨rfl⟩:=‹Hq _ _›; with_reducible refine chk_ok ?_; kernel_rfl) | kernel_rfl)) | (with_reducible intro ops hops)))
  refine fin_ret [] rfl ?_
  simp [cv,cv1,cv0,upd,boolV]
 have g2:decide ((20:Int) < (s.size:Int))=false:=decide_eq_false (by omega)
 rw [decide_eq_true h20,Bool.true_and]
 generalize hR:((List.range s.size).all fun k=>nameB (byS s k))=R
 refine callD_W 46 Try.func19 rfl rfl rfl (fun _ _=>rfl) ?_
 (repeat (first | (simp -implicitDefEqProofs only [ev,mixed,Nat.reduceLT,Nat.reduceAdd,Nat.reduceMul,reduceIte,Nat.reduceEqDiff,reduceCtorEq,Nat.reducePow,Nat.reduceLeDiff,Int.reduceLE,Int.reduceLT,Int.reduceToNat,Int.reduceEq,Nat.reduceBEq,itsOf,gdA,byteI,opid,lenQ,ixQ,ldH,readAt,readCells,asCell,faQ,exQ,fldQ,partA,buildQ,slQ,stH,bslH,appH,dcells,convI,elemsOf,D.one,nilS,fillD,convN,cvH,tyRName0,sD,g1,g2]) | (with_reducible refine ⟨?_,?_⟩; (· first | (obtain ⟨rfl⟩:=‹Hq _ _›; with_reducible refine chk_ok ?_; kernel_rfl) | kernel_rfl)) | (with_reducible intro ops hops)))
 refine W_loopI (ι:=Nat) (fun i=>i≤s.size∧∀ k,k < i→nameB (byS s k)=true)
  (fun i=>stOf [(0,sD s),(16,.pt 100 0 0 0)] [(100,.it s i)]) (fun i=>s.size - i) 0 ⟨Nat.zero_le _,fun k hk=>by omega⟩ ?_ ?_
 ·refine le_stOf _ _ [] [(100,1769)] ?_ ?_ rfl rfl
  ·simp [cv,cvL,cv1,cv0,upd,lk,srcOf,sD]
  ·simp [objOk,srcOf,lk,cvO,cvL,cv0,frz,upd,hO,noH]
 ·rintro i ⟨hi,hk⟩
  rw [stOf_eq]
  by_cases h:i < s.size
  ·have L1:(i < s.size)=True:=eq_true h
   have hi0:(0:Int)≤(i:Int):=Int.natCast_nonneg _
   have hix:((i:Int)).toNat < s.size:=by rw [Int.toNat_natCast]; exact h
   generalize hb:byS s i=b
   have hb':byS s ((i:Int)).toNat=b:=by rw [Int.toNat_natCast]; exact hb
   generalize hw:(Utf8.decode s i).2=wd
   generalize (Utf8.decode s i).1=ch
   have hlow:=decode_low h
   rw [hb,hw] at hlow
   have w0:b.toNat < 256:=b.toNat_lt
   (repeat (first | (simp -implicitDefEqProofs only [ev,mixed,Nat.reduceLT,Nat.reduceAdd,Nat.reduceMul,reduceIte,Nat.reduceEqDiff,reduceCtorEq,Nat.reducePow,Nat.reduceLeDiff,Int.reduceLE,Int.reduceLT,Int.reduceToNat,Int.reduceEq,Nat.reduceBEq,itsOf,gdA,byteI,opid,lenQ,ixQ,ldH,readAt,readCells,asCell,faQ,exQ,fldQ,partA,buildQ,slQ,stH,bslH,appH,dcells,convI,elemsOf,D.one,nilS,fillD,convN,cvH,tyRName0,sD,L1,hw]) | (with_reducible refine ⟨?_,?_⟩; (· first | (obtain ⟨rfl⟩:=‹Hq _ _›; with_reducible refine chk_ok ?_; kernel_rfl) | kernel_rfl)) | (with_reducible intro ops hops)))
   refine W_loopI (ι:=Nat) (fun c=>97≤c∧c≤123)
    (fun c=>stOf [(0,sD s),(3,intV i),(4,boolV (inR 97 c b)),(5,.i (.s (.int .u8 c))),(16,.pt 100 0 0 0)] [(100,.it s (i+wd))]) (fun c=>123 - c) 97 ⟨Nat.le_refl _,by omega⟩ ?_ ?_
   ·refine le_stOf _ _ [] [(100,100)] ?_ ?_ rfl rfl
    ·simp [cv,cvL,cv1,cv0,upd,lk,srcOf,sD,intV,boolV,inR_self]
    ·simp [objOk,srcOf,lk,cvO,cvL,cv0,frz,upd,hO,noH]
   ·rintro c ⟨hc1,hc2⟩
    rw [stOf_eq]
    have hsu:=inR_succ (b:=b) hc1
    by_cases hc:c≤122
    ·have g3:decide ((c:Int)≤122)=true:=decide_eq_true (by omega)
     have w1:IntKind.u8.wrap ((c:Int)+1)=((c+1:Nat):Int):=by rw [IntKind.wrap_u8]; omega
     have g4:decide ((b.toNat:Int)=(c:Int))=decide (b.toNat=c):=by
      by_cases e:b.toNat=c
      ·rw [decide_eq_true e,decide_eq_true (by omega)]
      ·rw [decide_eq_false e,decide_eq_false (by omega)]
     generalize inR 97 c b=ok at *
     cases ok
     ·rw [Bool.false_or] at hsu; have g5:=g4.trans hsu
      (repeat (first | (simp -implicitDefEqProofs only [ev,mixed,Nat.reduceLT,Nat.reduceAdd,Nat.reduceMul,reduceIte,Nat.reduceEqDiff,reduceCtorEq,Nat.reducePow,Nat.reduceLeDiff,Int.reduceLE,Int.reduceLT,Int.reduceToNat,Int.reduceEq,Nat.reduceBEq,itsOf,gdA,byteI,opid,lenQ,ixQ,ldH,readAt,readCells,asCell,faQ,exQ,fldQ,partA,buildQ,slQ,stH,bslH,appH,dcells,convI,elemsOf,D.one,nilS,fillD,convN,cvH,tyRName0,sD,intV,boolV,g3,hi0,L1,hb,g5,w1]) | (with_reducible refine ⟨?_,?_⟩; (· first | (obtain ⟨rfl⟩:=‹Hq _ _›; with_reducible refine chk_ok ?_; kernel_rfl) | kernel_rfl)) | (with_reducible intro ops hops)))
      refine ⟨c+1,⟨by omega,by omega⟩,le_stOf _ _ [] [(100,100)] ?_ ?_ rfl rfl,by simp only; omega⟩
      ·simp [cv,cvL,cv1,cv0,upd,lk,srcOf,sD,intV,boolV]
      ·simp [objOk,srcOf,lk,cvO,cvL,cv0,frz,upd,hO,noH]
     ·rw [Bool.true_or] at hsu; replace hsu:=hsu.symm
      (repeat (first | (simp -implicitDefEqProofs only [ev,mixed,Nat.reduceLT,Nat.reduceAdd,Nat.reduceMul,reduceIte,Nat.reduceEqDiff,reduceCtorEq,Nat.reducePow,Nat.reduceLeDiff,Int.reduceLE,Int.reduceLT,Int.reduceToNat,Int.reduceEq,Nat.reduceBEq,itsOf,gdA,byteI,opid,lenQ,ixQ,ldH,readAt,readCells,asCell,faQ,exQ,fldQ,partA,buildQ,slQ,stH,bslH,appH,dcells,convI,elemsOf,D.one,nilS,fillD,convN,cvH,tyRName0,sD,intV,boolV,g3,hi0,L1,hb,w1]) | (with_reducible refine ⟨?_,?_⟩; (· first | (obtain ⟨rfl⟩:=‹Hq _ _›; with_reducible refine chk_ok ?_; kernel_rfl) | kernel_rfl)) | (with_reducible intro ops hops)))
      refine ⟨c+1,⟨by omega,by omega⟩,le_stOf _ _ [] [(100,100)] ?_ ?_ rfl rfl,by simp only; omega⟩
      ·simp [cv,cvL,cv1,cv0,upd,lk,srcOf,sD,intV,boolV,hsu]
      ·simp [objOk,srcOf,lk,cvO,cvL,cv0,frz,upd,hO,noH]
    ·have g3:decide ((c:Int)≤122)=false:=decide_eq_false (by omega)
     obtain rfl:c=123:=by omega
     clear hsu
     generalize hok:inR 97 123 b=ok1
     (repeat (first | (simp -implicitDefEqProofs only [ev,mixed,Nat.reduceLT,Nat.reduceAdd,Nat.reduceMul,reduceIte,Nat.reduceEqDiff,reduceCtorEq,Nat.reducePow,Nat.reduceLeDiff,Int.reduceLE,Int.reduceLT,Int.reduceToNat,Int.reduceEq,Nat.reduceBEq,itsOf,gdA,byteI,opid,lenQ,ixQ,ldH,readAt,readCells,asCell,faQ,exQ,fldQ,partA,buildQ,slQ,stH,bslH,appH,dcells,convI,elemsOf,D.one,nilS,fillD,convN,cvH,tyRName0,sD,intV,boolV,g3]) | (with_reducible refine ⟨?_,?_⟩; (· first | (obtain ⟨rfl⟩:=‹Hq _ _›; with_reducible refine chk_ok ?_; kernel_rfl) | kernel_rfl)) | (with_reducible intro ops hops)))
     refine W_loopI (ι:=Nat) (fun c=>48≤c∧c≤58)
      (fun c=>stOf [(0,sD s),(3,intV i),(4,boolV (ok1 || inR 48 c b)),(6,.i (.s (.int .u8 c))),(16,.pt 100 0 0 0)] [(100,.it s (i+wd))]) (fun c=>58 - c) 48 ⟨Nat.le_refl _,by omega⟩ ?_ ?_
     ·refine le_stOf _ _ [] [(100,100)] ?_ ?_ rfl rfl
      ·simp [cv,cvL,cv1,cv0,upd,lk,srcOf,sD,intV,boolV,inR_self]
      ·simp [objOk,srcOf,lk,cvO,cvL,cv0,frz,upd,hO,noH]
     ·rintro c ⟨hd1,hd2⟩
      rw [stOf_eq]
      have hsu:((ok1 || inR 48 c b) || decide (b.toNat=c))=(ok1 || inR 48 (c+1) b):=by rw [Bool.or_assoc,inR_succ hd1]
      by_cases hd:c≤57
      ·have g3:decide ((c:Int)≤57)=true:=decide_eq_true (by omega)
       have w1:IntKind.u8.wrap ((c:Int)+1)=((c+1:Nat):Int):=by rw [IntKind.wrap_u8]; omega
       have g4:decide ((b.toNat:Int)=(c:Int))=decide (b.toNat=c):=by
        by_cases e:b.toNat=c
        ·rw [decide_eq_true e,decide_eq_true (by omega)]
        ·rw [decide_eq_false e,decide_eq_false (by omega)]
       generalize (ok1 || inR 48 c b)=ok at *
       cases ok
       ·rw [Bool.false_or] at hsu; have g5:=g4.trans hsu
        (repeat (first | (simp -implicitDefEqProofs only [ev,mixed,Nat.reduceLT,Nat.reduceAdd,Nat.reduceMul,reduceIte,Nat.reduceEqDiff,reduceCtorEq,Nat.reducePow,Nat.reduceLeDiff,Int.reduceLE,Int.reduceLT,Int.reduceToNat,Int.reduceEq,Nat.reduceBEq,itsOf,gdA,byteI,opid,lenQ,ixQ,ldH,readAt,readCells,asCell,faQ,exQ,fldQ,partA,buildQ,slQ,stH,bslH,appH,dcells,convI,elemsOf,D.one,nilS,fillD,convN,cvH,tyRName0,sD,intV,boolV,g3,hi0,L1,hb,g5,w1]) | (with_reducible refine ⟨?_,?_⟩; (· first | (obtain ⟨rfl⟩:=‹Hq _ _›; with_reducible refine chk_ok ?_; kernel_rfl) | kernel_rfl)) | (with_reducible intro ops hops)))
        refine ⟨c+1,⟨by omega,by omega⟩,le_stOf _ _ [] [(100,100)] ?_ ?_ rfl rfl,by simp only; omega⟩
        ·simp [cv,cvL,cv1,cv0,upd,lk,srcOf,sD,intV,boolV]
        ·simp [objOk,srcOf,lk,cvO,cvL,cv0,frz,upd,hO,noH]
       ·rw [Bool.true_or] at hsu; replace hsu:=hsu.symm
        (repeat (first | (simp -implicitDefEqProofs only [ev,mixed,Nat.reduceLT,Nat.reduceAdd,Nat.reduceMul,reduceIte,Nat.reduceEqDiff,reduceCtorEq,Nat.reducePow,Nat.reduceLeDiff,Int.reduceLE,Int.reduceLT,Int.reduceToNat,Int.reduceEq,Nat.reduceBEq,itsOf,gdA,byteI,opid,lenQ,ixQ,ldH,readAt,readCells,asCell,faQ,exQ,fldQ,partA,buildQ,slQ,stH,bslH,appH,dcells,convI,elemsOf,D.one,nilS,fillD,convN,cvH,tyRName0,sD,intV,boolV,g3,hi0,L1,hb,w1]) | (with_reducible refine ⟨?_,?_⟩; (· first | (obtain ⟨rfl⟩:=‹Hq _ _›; with_reducible refine chk_ok ?_; kernel_rfl) | kernel_rfl)) | (with_reducible intro ops hops)))
        refine ⟨c+1,⟨by omega,by omega⟩,le_stOf _ _ [] [(100,100)] ?_ ?_ rfl rfl,by simp only; omega⟩
        ·simp [cv,cvL,cv1,cv0,upd,lk,srcOf,sD,intV,boolV,hsu]
        ·simp [objOk,srcOf,lk,cvO,cvL,cv0,frz,upd,hO,noH]
      ·have g3:decide ((c:Int)≤57)=false:=decide_eq_false (by omega)
       obtain rfl:c=58:=by omega
       have hnb:nameB b=(ok1 || inR 48 58 b):=by unfold nameB; rw [hok]
       rw [← hnb]
       cases hn:nameB b
       ·have hRf:R=false:=by
         rw [← hR,List.all_eq_false]
         exact ⟨i,List.mem_range.2 h,by rw [hb,hn]; simp⟩
        subst hRf
        (repeat (first | (simp -implicitDefEqProofs only [ev,mixed,Nat.reduceLT,Nat.reduceAdd,Nat.reduceMul,reduceIte,Nat.reduceEqDiff,reduceCtorEq,Nat.reducePow,Nat.reduceLeDiff,Int.reduceLE,Int.reduceLT,Int.reduceToNat,Int.reduceEq,Nat.reduceBEq,itsOf,gdA,byteI,opid,lenQ,ixQ,ldH,readAt,readCells,asCell,faQ,exQ,fldQ,partA,buildQ,slQ,stH,bslH,appH,dcells,convI,elemsOf,D.one,nilS,fillD,convN,cvH,tyRName0,sD,intV,boolV,g3]) | (with_reducible refine ⟨?_,?_⟩; (· first | (obtain ⟨rfl⟩:=‹Hq _ _›; with_reducible refine chk_ok ?_; kernel_rfl) | kernel_rfl)) | (with_reducible intro ops hops)))
        refine fin_ret [] rfl ?_
        simp [cv,cv1,cv0,upd,boolV]
       ·have hlt:b.toNat < 128:=by
         unfold nameB inR at hn
         simp at hn; omega
        obtain rfl:=hlow hlt
        (repeat (first | (simp -implicitDefEqProofs only [ev,mixed,Nat.reduceLT,Nat.reduceAdd,Nat.reduceMul,reduceIte,Nat.reduceEqDiff,reduceCtorEq,Nat.reducePow,Nat.reduceLeDiff,Int.reduceLE,Int.reduceLT,Int.reduceToNat,Int.reduceEq,Nat.reduceBEq,itsOf,gdA,byteI,opid,lenQ,ixQ,ldH,readAt,readCells,asCell,faQ,exQ,fldQ,partA,buildQ,slQ,stH,bslH,appH,dcells,convI,elemsOf,D.one,nilS,fillD,convN,cvH,tyRName0,sD,intV,boolV,g3]) | (with_reducible refine ⟨?_,?_⟩; (· first | (obtain ⟨rfl⟩:=‹Hq _ _›; with_reducible refine chk_ok ?_; kernel_rfl) | kernel_rfl)) | (with_reducible intro ops hops)))
        refine ⟨i+1,⟨h,fun k hk'=>?_⟩,le_stOf _ _ [] [(100,100)] ?_ ?_ rfl rfl,by simp; omega⟩
        ·rcases Nat.lt_or_ge k i with h1 | h1
         ·exact hk k h1
         ·obtain rfl:k=i:=by omega
          rw [hb]; exact hn
        ·simp [cv,cvL,cv1,cv0,upd,lk,srcOf,sD,intV,boolV]
        ·simp [objOk,srcOf,lk,cvO,cvL,cv0,frz,upd,hO,noH]
  ·have L1:(i < s.size)=False:=eq_false h
   have hRt:R=true:=by
    rw [← hR,List.all_eq_true]
    intro k hk'
    exact hk k (by have:=List.mem_range.1 hk'; omega)
   subst hRt
   (repeat (first | (simp -implicitDefEqProofs only [ev,mixed,Nat.reduceLT,Nat.reduceAdd,Nat.reduceMul,reduceIte,Nat.reduceEqDiff,reduceCtorEq,Nat.reducePow,Nat.reduceLeDiff,Int.reduceLE,Int.reduceLT,Int.reduceToNat,Int.reduceEq,Nat.reduceBEq,itsOf,gdA,byteI,opid,lenQ,ixQ,ldH,readAt,readCells,asCell,faQ,exQ,fldQ,partA,buildQ,slQ,stH,bslH,appH,dcells,convI,elemsOf,D.one,nilS,fillD,convN,cvH,tyRName0,sD,L1]) | (with_reducible refine ⟨?_,?_⟩; (· first | (obtain ⟨rfl⟩:=‹Hq _ _›; with_reducible refine chk_ok ?_; kernel_rfl) | kernel_rfl)) | (with_reducible intro ops hops)))
   refine fin_ret [] rfl ?_
   simp [cv,cv1,cv0,upd,boolV]
end Go.Proofs.Ytkodnlkgblkfdaa
