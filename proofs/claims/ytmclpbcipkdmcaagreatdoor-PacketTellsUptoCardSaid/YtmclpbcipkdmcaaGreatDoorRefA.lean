/- landref4.Less, Wrong, Half: by value. -/
import Derived.Test.YtmclpbcipkdmcaaGreatDoorGBook
set_option linter.all false
namespace Go.Proofs.YtmclpbcipkdmcaaGreatDoor
open Go Go.Abs Go.RowKit Go.Proofs.YtmclpbcipkdmcaaGreatDoor.Ty
theorem tyRefA0:(type_of% @Ty.T3)∧(type_of% @Ty.T5)∧(type_of% @Ty.T29):=⟨@Ty.T3,@Ty.T5,@Ty.T29⟩
theorem tyRefA1:(type_of% @Ty.T3):=@Ty.T3
theorem byte_neq (x y:UInt8):decide ((x.toNat:Int)=(y.toNat:Int))=decide (x=y):=by
 by_cases h:x=y
 ·subst h; simp
 ·rw [decide_eq_false h,decide_eq_false]
  intro hc; exact h (UInt8.toNat_inj.1 (by omega))
set_option maxHeartbeats 4000000
theorem less_A (a b:List UInt8) (ha:a.length≤1099511627776):PureD Tryz.prog 134 [.i (bI a),.i (bI b)] (boolD (decide (Lib.compareBytes a b < 0))):=by
 refine callD_W 41 Tryz.func134 rfl rfl rfl (fun _ _=>rfl) ?_
 (repeat (first | (simp -implicitDefEqProofs only [ev,mixed,Nat.reduceLT,Nat.reduceAdd,Nat.reduceMul,reduceIte,Nat.reduceEqDiff,reduceCtorEq,Nat.reducePow,Nat.reduceLeDiff,Int.reduceLE,Int.reduceLT,Int.reduceToNat,Int.reduceEq,Nat.reduceBEq,itsOf,gdA,byteI,opid,lenQ,ixQ,ldH,readAt,readCells,asCell,faQ,exQ,fldQ,partA,buildQ,slQ,stH,bslH,appH,dcells,convI,elemsOf,D.one,nilS,fillD,convN,cvH,tyRefA0,bI]) | (with_reducible refine ⟨?_,?_⟩; (· first | (obtain ⟨rfl⟩:=‹Hq _ _›; with_reducible refine chk_ok ?_; kernel_rfl) | kernel_rfl)) | (with_reducible intro ops hops)))
 refine W_loopI (ι:=Nat) (fun k=>k≤a.length∧k≤b.length∧Lib.compareBytes a b=Lib.compareBytes (a.drop k) (b.drop k))
  (fun k=>stOf [(0,.i (bI a)),(1,.i (bI b)),(5,intD k)] []) (fun k=>a.length - k) 0 ⟨Nat.zero_le _,Nat.zero_le _,rfl⟩ ?_ ?_
 ·refine le_stOf _ _ [] [] ?_ ?_ rfl rfl
  ·simp [cv,cvL,cv1,cv0,upd,lk,srcOf,intD,bI]
  ·simp
 ·rintro k ⟨hk,hk',hc⟩
  rw [stOf_eq]
  by_cases h1:k < a.length
  ·have g1:decide ((k:Int) < (a.length:Int))=true:=decide_eq_true (by omega)
   by_cases h2:k < b.length
   ·have g2:decide ((k:Int) < (b.length:Int))=true:=decide_eq_true (by omega)
    have e1:(a.map byteI)[k]?=some [.s (.int .u8 (a[k].toNat:Int))]:=by simp [h1,byteI]
    have e2:(b.map byteI)[k]?=some [.s (.int .u8 (b[k].toNat:Int))]:=by simp [h2,byteI]
    have w1:IntKind.i64.wrap ((k:Int)+1)=((k+1:Nat):Int):=by rw [wrap64 (by omega) (by omega)]; omega
    rw [List.drop_eq_getElem_cons h1,List.drop_eq_getElem_cons h2,cmp_cc] at hc
    generalize a[k]=x at *
    generalize b[k]=y at *
    (repeat (first | (simp -implicitDefEqProofs only [ev,mixed,Nat.reduceLT,Nat.reduceAdd,Nat.reduceMul,reduceIte,Nat.reduceEqDiff,reduceCtorEq,Nat.reducePow,Nat.reduceLeDiff,Int.reduceLE,Int.reduceLT,Int.reduceToNat,Int.reduceEq,Nat.reduceBEq,itsOf,gdA,byteI,opid,lenQ,ixQ,ldH,readAt,readCells,asCell,faQ,exQ,fldQ,partA,buildQ,slQ,stH,bslH,appH,dcells,convI,elemsOf,D.one,nilS,fillD,convN,cvH,tyRefA0,intD,bI,g1,g2,e1,e2,byte_neq]) | (with_reducible refine ⟨?_,?_⟩; (· first | (obtain ⟨rfl⟩:=‹Hq _ _›; with_reducible refine chk_ok ?_; kernel_rfl) | kernel_rfl)) | (with_reducible intro ops hops)))
    refine Wc_split (fun h=>?_) (fun h=>?_)
    ·have hne:x≠y:=by simpa using h
     (repeat (first | (simp -implicitDefEqProofs only [ev,mixed,Nat.reduceLT,Nat.reduceAdd,Nat.reduceMul,reduceIte,Nat.reduceEqDiff,reduceCtorEq,Nat.reducePow,Nat.reduceLeDiff,Int.reduceLE,Int.reduceLT,Int.reduceToNat,Int.reduceEq,Nat.reduceBEq,itsOf,gdA,byteI,opid,lenQ,ixQ,ldH,readAt,readCells,asCell,faQ,exQ,fldQ,partA,buildQ,slQ,stH,bslH,appH,dcells,convI,elemsOf,D.one,nilS,fillD,convN,cvH,tyRefA0,e1,e2]) | (with_reducible refine ⟨?_,?_⟩; (· first | (obtain ⟨rfl⟩:=‹Hq _ _›; with_reducible refine chk_ok ?_; kernel_rfl) | kernel_rfl)) | (with_reducible intro ops hops)))
     refine fin_ret [] rfl ?_
     have hr:decide (Lib.compareBytes a b < 0)=decide ((x.toNat:Int) < (y.toNat:Int)):=by
      rw [hc]
      by_cases hxy:x < y
      ·rw [if_pos hxy,decide_eq_true (by decide),decide_eq_true (by have:=UInt8.lt_iff_toNat_lt.1 hxy; omega)]
      ·rw [if_neg hxy]
       have hyx:y < x:=by
        have h3:¬ x.toNat < y.toNat:=fun hh=>hxy (UInt8.lt_iff_toNat_lt.2 hh)
        have h4:x.toNat≠y.toNat:=fun hh=>hne (UInt8.toNat_inj.1 hh)
        exact UInt8.lt_iff_toNat_lt.2 (by omega)
       rw [if_pos hyx,decide_eq_false (by decide),decide_eq_false (by have:=UInt8.lt_iff_toNat_lt.1 hyx; omega)]
     simp [cv,cv1,cv0,upd,boolD,hr]
    ·have hne:x=y:=by simpa using h
     subst hne
     have hx:¬ x < x:=fun hh=>by have:=UInt8.lt_iff_toNat_lt.1 hh; omega
     rw [if_neg hx,if_neg hx] at hc
     (repeat (first | (simp -implicitDefEqProofs only [ev,mixed,Nat.reduceLT,Nat.reduceAdd,Nat.reduceMul,reduceIte,Nat.reduceEqDiff,reduceCtorEq,Nat.reducePow,Nat.reduceLeDiff,Int.reduceLE,Int.reduceLT,Int.reduceToNat,Int.reduceEq,Nat.reduceBEq,itsOf,gdA,byteI,opid,lenQ,ixQ,ldH,readAt,readCells,asCell,faQ,exQ,fldQ,partA,buildQ,slQ,stH,bslH,appH,dcells,convI,elemsOf,D.one,nilS,fillD,convN,cvH,tyRefA0,w1]) | (with_reducible refine ⟨?_,?_⟩; (· first | (obtain ⟨rfl⟩:=‹Hq _ _›; with_reducible refine chk_ok ?_; kernel_rfl) | kernel_rfl)) | (with_reducible intro ops hops)))
     refine ⟨k+1,⟨h1,h2,hc⟩,le_stOf _ _ [] [] ?_ ?_ rfl rfl,by simp; omega⟩
     ·simp [cv,cvL,cv1,cv0,upd,lk,srcOf,intD,bI]
     ·simp
   ·have g2:decide ((k:Int) < (b.length:Int))=false:=decide_eq_false (by omega)
    have hr:decide (Lib.compareBytes a b < 0)=decide ((a.length:Int) < (b.length:Int)):=by
     rw [hc,List.drop_eq_getElem_cons h1,List.drop_eq_nil_of_le (by omega:b.length≤k),cmp_cn,decide_eq_false (by decide),decide_eq_false (by omega)]
    (repeat (first | (simp -implicitDefEqProofs only [ev,mixed,Nat.reduceLT,Nat.reduceAdd,Nat.reduceMul,reduceIte,Nat.reduceEqDiff,reduceCtorEq,Nat.reducePow,Nat.reduceLeDiff,Int.reduceLE,Int.reduceLT,Int.reduceToNat,Int.reduceEq,Nat.reduceBEq,itsOf,gdA,byteI,opid,lenQ,ixQ,ldH,readAt,readCells,asCell,faQ,exQ,fldQ,partA,buildQ,slQ,stH,bslH,appH,dcells,convI,elemsOf,D.one,nilS,fillD,convN,cvH,tyRefA0,intD,bI,g1,g2]) | (with_reducible refine ⟨?_,?_⟩; (· first | (obtain ⟨rfl⟩:=‹Hq _ _›; with_reducible refine chk_ok ?_; kernel_rfl) | kernel_rfl)) | (with_reducible intro ops hops)))
    refine fin_ret [] rfl ?_
    simp [cv,cv1,cv0,upd,boolD,hr]
  ·have g1:decide ((k:Int) < (a.length:Int))=false:=decide_eq_false (by omega)
   have hr:decide (Lib.compareBytes a b < 0)=decide ((a.length:Int) < (b.length:Int)):=by
    rw [hc,List.drop_eq_nil_of_le (by omega:a.length≤k)]
    by_cases h2:k < b.length
    ·rw [List.drop_eq_getElem_cons h2,cmp_nc,decide_eq_true (by decide),decide_eq_true (by omega)]
    ·rw [List.drop_eq_nil_of_le (by omega:b.length≤k),cmp_nn,decide_eq_false (by decide),decide_eq_false (by omega)]
   (repeat (first | (simp -implicitDefEqProofs only [ev,mixed,Nat.reduceLT,Nat.reduceAdd,Nat.reduceMul,reduceIte,Nat.reduceEqDiff,reduceCtorEq,Nat.reducePow,Nat.reduceLeDiff,Int.reduceLE,Int.reduceLT,Int.reduceToNat,Int.reduceEq,Nat.reduceBEq,itsOf,gdA,byteI,opid,lenQ,ixQ,ldH,readAt,readCells,asCell,faQ,exQ,fldQ,partA,buildQ,slQ,stH,bslH,appH,dcells,convI,elemsOf,D.one,nilS,fillD,convN,cvH,tyRefA0,intD,bI,g1]) | (with_reducible refine ⟨?_,?_⟩; (· first | (obtain ⟨rfl⟩:=‹Hq _ _›; with_reducible refine chk_ok ?_; kernel_rfl) | kernel_rfl)) | (with_reducible intro ops hops)))
   refine fin_ret [] rfl ?_
   simp [cv,cv1,cv0,upd,boolD,hr]
theorem half_A (n:Nat) (h0:1≤n) (hn:n≤1048576):PureD Tryz.prog 161 [intD n] (intD (splitF n)):=by
 refine callD_W 11 Tryz.func161 rfl rfl rfl (fun _ _=>rfl) ?_
 (repeat (first | (simp -implicitDefEqProofs only [ev,mixed,Nat.reduceLT,Nat.reduceAdd,Nat.reduceMul,reduceIte,Nat.reduceEqDiff,reduceCtorEq,Nat.reducePow,Nat.reduceLeDiff,Int.reduceLE,Int.reduceLT,Int.reduceToNat,Int.reduceEq,Nat.reduceBEq,itsOf,gdA,byteI,opid,lenQ,ixQ,ldH,readAt,readCells,asCell,faQ,exQ,fldQ,partA,buildQ,slQ,stH,bslH,appH,dcells,convI,elemsOf,D.one,nilS,fillD,convN,cvH,tyRefA1,intD]) | (with_reducible refine ⟨?_,?_⟩; (· first | (obtain ⟨rfl⟩:=‹Hq _ _›; with_reducible refine chk_ok ?_; kernel_rfl) | kernel_rfl)) | (with_reducible intro ops hops)))
 refine W_loopI (ι:=Nat) (fun i=>2 ^ i=1∨2 ^ i < n)
  (fun i=>stOf [(0,intD n),(3,intD (2 ^ i:Nat))] []) (fun i=>n - 2 ^ i) 0 (.inl rfl) ?_ ?_
 ·refine le_stOf _ _ [] [] ?_ ?_ rfl rfl
  ·simp [cv,cv1,cv0,upd,lk,srcOf,intD]
  ·simp
 ·rintro i hi
  rw [stOf_eq]
  have hp:0 < 2 ^ i:=Nat.pow_pos (by decide)
  have hs:2 ^ (i+1)=2 * 2 ^ i:=by rw [Nat.pow_succ]; omega
  have hfin:=pow2_split hi
  have w1:IntKind.i64.wrap (2 * ((2 ^ i:Nat):Int))=((2 ^ (i+1):Nat):Int):=by rw [hs,wrap64 (by omega) (by omega)]; omega
  generalize hx:2 ^ i=x at *
  generalize hy:2 ^ (i+1)=y at *
  (repeat (first | (simp -implicitDefEqProofs only [ev,mixed,Nat.reduceLT,Nat.reduceAdd,Nat.reduceMul,reduceIte,Nat.reduceEqDiff,reduceCtorEq,Nat.reducePow,Nat.reduceLeDiff,Int.reduceLE,Int.reduceLT,Int.reduceToNat,Int.reduceEq,Nat.reduceBEq,itsOf,gdA,byteI,opid,lenQ,ixQ,ldH,readAt,readCells,asCell,faQ,exQ,fldQ,partA,buildQ,slQ,stH,bslH,appH,dcells,convI,elemsOf,D.one,nilS,fillD,convN,cvH,tyRefA1,intD,w1]) | (with_reducible refine ⟨?_,?_⟩; (· first | (obtain ⟨rfl⟩:=‹Hq _ _›; with_reducible refine chk_ok ?_; kernel_rfl) | kernel_rfl)) | (with_reducible intro ops hops)))
  refine Wc_split (fun h=>?_) (fun h=>?_)
  ·have h1:n≤2 * x:=by simp at h; omega
   clear h
   (repeat (first | (simp -implicitDefEqProofs only [ev,mixed,Nat.reduceLT,Nat.reduceAdd,Nat.reduceMul,reduceIte,Nat.reduceEqDiff,reduceCtorEq,Nat.reducePow,Nat.reduceLeDiff,Int.reduceLE,Int.reduceLT,Int.reduceToNat,Int.reduceEq,Nat.reduceBEq,itsOf,gdA,byteI,opid,lenQ,ixQ,ldH,readAt,readCells,asCell,faQ,exQ,fldQ,partA,buildQ,slQ,stH,bslH,appH,dcells,convI,elemsOf,D.one,nilS,fillD,convN,cvH,tyRefA1]) | (with_reducible refine ⟨?_,?_⟩; (· first | (obtain ⟨rfl⟩:=‹Hq _ _›; with_reducible refine chk_ok ?_; kernel_rfl) | kernel_rfl)) | (with_reducible intro ops hops)))
   refine fin_ret [] rfl ?_
   simp [cv,cv1,cv0,upd,intD,hfin h1 h0]
  ·have h1:y < n:=by simp at h; omega
   clear h
   (repeat (first | (simp -implicitDefEqProofs only [ev,mixed,Nat.reduceLT,Nat.reduceAdd,Nat.reduceMul,reduceIte,Nat.reduceEqDiff,reduceCtorEq,Nat.reducePow,Nat.reduceLeDiff,Int.reduceLE,Int.reduceLT,Int.reduceToNat,Int.reduceEq,Nat.reduceBEq,itsOf,gdA,byteI,opid,lenQ,ixQ,ldH,readAt,readCells,asCell,faQ,exQ,fldQ,partA,buildQ,slQ,stH,bslH,appH,dcells,convI,elemsOf,D.one,nilS,fillD,convN,cvH,tyRefA1,w1]) | (with_reducible refine ⟨?_,?_⟩; (· first | (obtain ⟨rfl⟩:=‹Hq _ _›; with_reducible refine chk_ok ?_; kernel_rfl) | kernel_rfl)) | (with_reducible intro ops hops)))
   refine ⟨i+1,by show 2 ^ (i+1)=1∨2 ^ (i+1) < n; rw [hy]; exact .inr h1,le_stOf _ _ [] [] ?_ ?_ rfl rfl,by simp only [hx,hy]; omega⟩
   ·simp only [hy]; simp [cv,cv1,cv0,upd,lk,srcOf,intD]
   ·simp
end Go.Proofs.YtmclpbcipkdmcaaGreatDoor
