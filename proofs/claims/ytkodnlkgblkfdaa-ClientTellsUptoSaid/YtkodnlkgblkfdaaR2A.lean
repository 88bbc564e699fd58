/- landref2.Times, Power, Eight, Number, join: by value. -/
import Derived.Test.YtkodnlkgblkfdaaGSeal
set_option linter.all false
namespace Go.Proofs.Ytkodnlkgblkfdaa
open Go Go.Abs Go.RowKit Go.Proofs.Ytkodnlkgblkfdaa.Ty
theorem tyR2A0:(type_of% @Ty.T80):=@Ty.T80
theorem tyR2A1:(type_of% @Ty.T3)∧(type_of% @Ty.T80):=⟨@Ty.T3,@Ty.T80⟩
theorem times_step (r a b m:Nat):(r+a * b) % m=((if b % 2=1 then (r+a) % m else r)+(a+a) % m * (b / 2)) % m:=by
 have e:=Nat.div_add_mod b 2
 have h:r+a * b=(r+a * (b % 2))+(a+a) * (b / 2):=by
  conv=>lhs; rw [← e]
  rw [Nat.mul_add,← Nat.mul_assoc,Nat.mul_two]; omega
 rw [h,Nat.add_mod,Nat.mul_mod]
 split
 ·rename_i h1
  rw [h1,Nat.mul_one]
  conv=>rhs; rw [Nat.add_mod,Nat.mod_mod,Nat.mul_mod,Nat.mod_mod]
 ·rename_i h1
  have h0:b % 2=0:=by omega
  rw [h0,Nat.mul_zero,Nat.add_zero]
  conv=>rhs; rw [Nat.add_mod,Nat.mul_mod,Nat.mod_mod]
set_option maxHeartbeats 2000000
theorem rtimes_A (a b m:Nat) (ha:a < 18446744073709551616) (hb:b < 18446744073709551616) (h0:0 < m) (hm:m≤9223372036854775808) :
  PureD Try.prog 69 [u64D a,u64D b,u64D m] (u64D (a * b % m)):=by
 generalize hq:a * b % m=q
 have q0:((m:Int)=0)=False:=eq_false (by omega)
 have tm:∀ n:Nat,(n:Int).tmod (m:Int)=((n % m:Nat):Int):=fun n=>tmodN n m
 have tma:=tm a
 refine callD_W 29 Try.func69 rfl rfl rfl (fun _ _=>rfl) ?_
 (repeat (first | (simp -implicitDefEqProofs only [ev,mixed,Nat.reduceLT,Nat.reduceAdd,Nat.reduceMul,reduceIte,Nat.reduceEqDiff,reduceCtorEq,Nat.reducePow,Nat.reduceLeDiff,Int.reduceLE,Int.reduceLT,Int.reduceToNat,Int.reduceEq,Nat.reduceBEq,itsOf,gdA,byteI,opid,lenQ,ixQ,ldH,readAt,readCells,asCell,faQ,exQ,fldQ,partA,buildQ,slQ,stH,bslH,appH,dcells,convI,elemsOf,D.one,nilS,fillD,convN,cvH,tyR2A0,u64D,q0,tma]) | (with_reducible refine ⟨?_,?_⟩; (· first | (obtain ⟨rfl⟩:=‹Hq _ _›; with_reducible refine chk_ok ?_; kernel_rfl) | kernel_rfl)) | (with_reducible intro ops hops)))
 refine W_loopI (ι:=Nat × Nat × Nat) (fun p=>(p.1+p.2.1 * p.2.2) % m=q∧p.1 < m∧p.2.1 < m∧p.2.2 < 18446744073709551616)
  (fun p=>stOf [(0,.i (.s (.int .u64 (p.2.1:Nat)))),(1,.i (.s (.int .u64 (p.2.2:Nat)))),(2,.i (.s (.int .u64 (m:Nat)))),(7,.i (.s (.int .u64 (p.1:Nat))))] []) (fun p=>p.2.2) (0,a % m,b) ⟨by rw [← hq]; simp [Nat.mul_mod],h0,Nat.mod_lt _ h0,hb⟩ ?_ ?_
 ·refine le_stOf _ _ [] [] ?_ ?_ rfl rfl
  ·simp [cv,cv1,cv0,upd,lk,srcOf]
  ·simp
 ·rintro ⟨r,c,n⟩ ⟨hI,hr,hc,hn⟩
  simp only at hI hr hc hn
  rw [stOf_eq]
  (repeat (first | (simp -implicitDefEqProofs only [ev,mixed,Nat.reduceLT,Nat.reduceAdd,Nat.reduceMul,reduceIte,Nat.reduceEqDiff,reduceCtorEq,Nat.reducePow,Nat.reduceLeDiff,Int.reduceLE,Int.reduceLT,Int.reduceToNat,Int.reduceEq,Nat.reduceBEq,itsOf,gdA,byteI,opid,lenQ,ixQ,ldH,readAt,readCells,asCell,faQ,exQ,fldQ,partA,buildQ,slQ,stH,bslH,appH,dcells,convI,elemsOf,D.one,nilS,fillD,convN,cvH,tyR2A0]) | (with_reducible refine ⟨?_,?_⟩; (· first | (obtain ⟨rfl⟩:=‹Hq _ _›; with_reducible refine chk_ok ?_; kernel_rfl) | kernel_rfl)) | (with_reducible intro ops hops)))
  refine Wc_split (fun h=>?_) (fun h=>?_)
  ·have hn0:0 < n:=by simp at h; omega
   clear h
   have t2:(n:Int).tmod 2=((n % 2:Nat):Int):=tmodN n 2
   have d2:IntKind.u64.wrap ((n:Int).tdiv 2)=((n / 2:Nat):Int):=by rw [Int.tdiv_eq_ediv_of_nonneg (by omega),IntKind.wrap_u64]; omega
   have w1:IntKind.u64.wrap ((r:Int)+(c:Int))=((r+c:Nat):Int):=by rw [IntKind.wrap_u64]; omega
   have w2:IntKind.u64.wrap ((c:Int)+(c:Int))=((c+c:Nat):Int):=by rw [IntKind.wrap_u64]; omega
   have t3:=tm (r+c)
   have t4:=tm (c+c)
   rw [times_step] at hI
   have hcc:(c+c) % m < m:=Nat.mod_lt _ h0
   cases g:decide (((n % 2:Nat):Int)=1)
   ·have hg:¬ n % 2=1:=by simp at g; omega
    rw [if_neg hg] at hI
    (repeat (first | (simp -implicitDefEqProofs only [ev,mixed,Nat.reduceLT,Nat.reduceAdd,Nat.reduceMul,reduceIte,Nat.reduceEqDiff,reduceCtorEq,Nat.reducePow,Nat.reduceLeDiff,Int.reduceLE,Int.reduceLT,Int.reduceToNat,Int.reduceEq,Nat.reduceBEq,itsOf,gdA,byteI,opid,lenQ,ixQ,ldH,readAt,readCells,asCell,faQ,exQ,fldQ,partA,buildQ,slQ,stH,bslH,appH,dcells,convI,elemsOf,D.one,nilS,fillD,convN,cvH,tyR2A0,t2,g,w2,t4,q0,d2]) | (with_reducible refine ⟨?_,?_⟩; (· first | (obtain ⟨rfl⟩:=‹Hq _ _›; with_reducible refine chk_ok ?_; kernel_rfl) | kernel_rfl)) | (with_reducible intro ops hops)))
    refine ⟨(r,(c+c) % m,n / 2),⟨hI,hr,hcc,by simp; omega⟩,le_stOf _ _ [] [] ?_ ?_ rfl rfl,by simp; omega⟩
    ·simp [cv,cv1,cv0,upd,lk,srcOf]
    ·simp
   ·have hg:n % 2=1:=by simp at g; omega
    rw [if_pos hg] at hI
    (repeat (first | (simp -implicitDefEqProofs only [ev,mixed,Nat.reduceLT,Nat.reduceAdd,Nat.reduceMul,reduceIte,Nat.reduceEqDiff,reduceCtorEq,Nat.reducePow,Nat.reduceLeDiff,Int.reduceLE,Int.reduceLT,Int.reduceToNat,Int.reduceEq,Nat.reduceBEq,itsOf,gdA,byteI,opid,lenQ,ixQ,ldH,readAt,readCells,asCell,faQ,exQ,fldQ,partA,buildQ,slQ,stH,bslH,appH,dcells,convI,elemsOf,D.one,nilS,fillD,convN,cvH,tyR2A0,t2,g,w1,w2,t3,t4,q0,d2]) | (with_reducible refine ⟨?_,?_⟩; (· first | (obtain ⟨rfl⟩:=‹Hq _ _›; with_reducible refine chk_ok ?_; kernel_rfl) | kernel_rfl)) | (with_reducible intro ops hops)))
    refine ⟨((r+c) % m,(c+c) % m,n / 2),⟨hI,Nat.mod_lt _ h0,hcc,by simp; omega⟩,le_stOf _ _ [] [] ?_ ?_ rfl rfl,by simp; omega⟩
    ·simp [cv,cv1,cv0,upd,lk,srcOf]
    ·simp
  ·have hn0:n=0:=by simp at h; omega
   subst hn0
   have hrq:r=q:=by rw [← hI,Nat.mul_zero,Nat.add_zero,Nat.mod_eq_of_lt hr]
   (repeat (first | (simp -implicitDefEqProofs only [ev,mixed,Nat.reduceLT,Nat.reduceAdd,Nat.reduceMul,reduceIte,Nat.reduceEqDiff,reduceCtorEq,Nat.reducePow,Nat.reduceLeDiff,Int.reduceLE,Int.reduceLT,Int.reduceToNat,Int.reduceEq,Nat.reduceBEq,itsOf,gdA,byteI,opid,lenQ,ixQ,ldH,readAt,readCells,asCell,faQ,exQ,fldQ,partA,buildQ,slQ,stH,bslH,appH,dcells,convI,elemsOf,D.one,nilS,fillD,convN,cvH,tyR2A0]) | (with_reducible refine ⟨?_,?_⟩; (· first | (obtain ⟨rfl⟩:=‹Hq _ _›; with_reducible refine chk_ok ?_; kernel_rfl) | kernel_rfl)) | (with_reducible intro ops hops)))
   refine fin_ret [] rfl ?_
   simp [cv,cv1,cv0,upd,hrq,u64D]
theorem bits_step (b e k m:Nat):b ^ (e / 2 ^ k) % m=(if (e / 2 ^ k) % 2=1 then (b ^ (e / 2 ^ (k+1)) % m) * (b ^ (e / 2 ^ (k+1)) % m) % m * b % m else (b ^ (e / 2 ^ (k+1)) % m) * (b ^ (e / 2 ^ (k+1)) % m) % m):=by
 have e1:e / 2 ^ (k+1)=e / 2 ^ k / 2:=by rw [Nat.pow_succ,Nat.div_div_eq_div_mul]
 rw [e1]
 generalize e / 2 ^ k=n
 have hn:=Nat.div_add_mod n 2
 have h2:(b ^ (n / 2) % m) * (b ^ (n / 2) % m) % m=b ^ (2 * (n / 2)) % m:=by rw [← Nat.mul_mod,← Nat.pow_add,Nat.two_mul]
 rw [h2]
 split
 ·rename_i h1
  have:n=2 * (n / 2)+1:=by omega
  conv=>lhs; rw [this,Nat.pow_succ]
  rw [Nat.mod_mul_mod]
 ·rename_i h1
  have:n=2 * (n / 2):=by omega
  conv=>lhs; rw [this]
theorem rpower_A (b e m:Nat) (hb:b < 18446744073709551616) (he:e < 18446744073709551616) (h1:1 < m) (hm:m≤9223372036854775808) :
  PureD Try.prog 68 [u64D b,u64D e,u64D m] (u64D (b ^ e % m)):=by
 refine callD_W 27 Try.func68 rfl rfl rfl (fun _ _=>rfl) ?_
 (repeat (first | (simp -implicitDefEqProofs only [ev,mixed,Nat.reduceLT,Nat.reduceAdd,Nat.reduceMul,reduceIte,Nat.reduceEqDiff,reduceCtorEq,Nat.reducePow,Nat.reduceLeDiff,Int.reduceLE,Int.reduceLT,Int.reduceToNat,Int.reduceEq,Nat.reduceBEq,itsOf,gdA,byteI,opid,lenQ,ixQ,ldH,readAt,readCells,asCell,faQ,exQ,fldQ,partA,buildQ,slQ,stH,bslH,appH,dcells,convI,elemsOf,D.one,nilS,fillD,convN,cvH,tyR2A1,u64D]) | (with_reducible refine ⟨?_,?_⟩; (· first | (obtain ⟨rfl⟩:=‹Hq _ _›; with_reducible refine chk_ok ?_; kernel_rfl) | kernel_rfl)) | (with_reducible intro ops hops)))
 refine W_loopI (ι:=Nat × Nat) (fun p=>p.2≤64∧p.1=b ^ (e / 2 ^ p.2) % m)
  (fun p=>stOf [(0,.i (.s (.int .u64 (b:Nat)))),(1,.i (.s (.int .u64 (e:Nat)))),(2,.i (.s (.int .u64 (m:Nat)))),(7,.i (.s (.int .u64 (p.1:Nat)))),(8,.i (.s (.int .i64 ((p.2:Int) - 1))))] []) (fun p=>p.2) (1,64) ⟨by simp,by rw [Nat.div_eq_of_lt (by simpa using he),Nat.pow_zero,Nat.mod_eq_of_lt h1]⟩ ?_ ?_
 ·refine le_stOf _ _ [] [] ?_ ?_ rfl rfl
  ·simp [cv,cv1,cv0,upd,lk,srcOf]
  ·simp
 ·rintro ⟨r,k⟩ ⟨hk,hI⟩
  simp only at hk hI
  rw [stOf_eq]
  cases k with
  | zero =>
   have g1:decide ((0:Int)≤0 - 1)=false:=by decide
   have hr:r=b ^ e % m:=by rw [hI,Nat.pow_zero,Nat.div_one]
   (repeat (first | (simp -implicitDefEqProofs only [ev,mixed,Nat.reduceLT,Nat.reduceAdd,Nat.reduceMul,reduceIte,Nat.reduceEqDiff,reduceCtorEq,Nat.reducePow,Nat.reduceLeDiff,Int.reduceLE,Int.reduceLT,Int.reduceToNat,Int.reduceEq,Nat.reduceBEq,itsOf,gdA,byteI,opid,lenQ,ixQ,ldH,readAt,readCells,asCell,faQ,exQ,fldQ,partA,buildQ,slQ,stH,bslH,appH,dcells,convI,elemsOf,D.one,nilS,fillD,convN,cvH,tyR2A1,g1]) | (with_reducible refine ⟨?_,?_⟩; (· first | (obtain ⟨rfl⟩:=‹Hq _ _›; with_reducible refine chk_ok ?_; kernel_rfl) | kernel_rfl)) | (with_reducible intro ops hops)))
   refine fin_ret [] rfl ?_
   simp [cv,cv1,cv0,upd,u64D,hr]
  | succ k =>
   have hst:=bits_step b e k m
   rw [← hI] at hst
   have hk1:((k+1:Nat):Int) - 1=(k:Int):=by omega
   have hr:r < m:=by rw [hI]; exact Nat.mod_lt _ (by omega)
   have hsh:=shr_u64 e k (by omega)
   have t2:((e / 2 ^ k:Nat):Int).tmod 2=((e / 2 ^ k % 2:Nat):Int):=tmodN _ 2
   have w4:IntKind.i64.wrap ((k:Int) - 1)=(k:Int) - 1:=by rw [wrap64 (by omega) (by omega)]
   have ht1:=rtimes_A r r m (by omega) (by omega) (by omega) hm
   have hrr:r * r % m < m:=Nat.mod_lt _ (by omega)
   have ht2:=rtimes_A (r * r % m) b m (by omega) hb (by omega) hm
   have hgoal:b ^ (e / 2 ^ k) % m=if e / 2 ^ k % 2=1 then r * r % m * b % m else r * r % m:=hst
   clear hst hI
   generalize hnx:b ^ (e / 2 ^ k) % m=nx at hgoal
   generalize hR:r * r % m=R at *
   generalize hek:e / 2 ^ k=ek at hgoal hsh t2
   cases g:decide (((ek % 2:Nat):Int)=1)
   ·have hg:¬ ek % 2=1:=by simp at g; omega
    rw [if_neg hg] at hgoal
    (repeat (first | (simp -implicitDefEqProofs only [ev,mixed,Nat.reduceLT,Nat.reduceAdd,Nat.reduceMul,reduceIte,Nat.reduceEqDiff,reduceCtorEq,Nat.reducePow,Nat.reduceLeDiff,Int.reduceLE,Int.reduceLT,Int.reduceToNat,Int.reduceEq,Nat.reduceBEq,itsOf,gdA,byteI,opid,lenQ,ixQ,ldH,readAt,readCells,asCell,faQ,exQ,fldQ,partA,buildQ,slQ,stH,bslH,appH,dcells,convI,elemsOf,D.one,nilS,fillD,convN,cvH,tyR2A1,hk1]) | (with_reducible refine ⟨?_,?_⟩; (· first | (obtain ⟨rfl⟩:=‹Hq _ _›; with_reducible refine chk_ok ?_; kernel_rfl) | kernel_rfl)) | (with_reducible intro ops hops)))
    (first | refine Call_flat [] [] (ht1) (by simp [cvAs,cvA,cvRL,cvR,cvBox,cv1,cvL,cv0,bI,byteI,u64D,elemsOf,upd]) rfl ?_ | refine CallF_flat [] [] [] (ht1) (fun G _=>by simp [cvAs,cvA,cvRL,cvR,cvBox,cv1,cvL,cv0,bI,byteI,u64D,elemsOf,upd]) rfl ?_)
    (repeat (first | (simp -implicitDefEqProofs only [ev,mixed,Nat.reduceLT,Nat.reduceAdd,Nat.reduceMul,reduceIte,Nat.reduceEqDiff,reduceCtorEq,Nat.reducePow,Nat.reduceLeDiff,Int.reduceLE,Int.reduceLT,Int.reduceToNat,Int.reduceEq,Nat.reduceBEq,itsOf,gdA,byteI,opid,lenQ,ixQ,ldH,readAt,readCells,asCell,faQ,exQ,fldQ,partA,buildQ,slQ,stH,bslH,appH,dcells,convI,elemsOf,D.one,nilS,fillD,convN,cvH,tyR2A1,u64D,hk1,hsh,t2,g,w4]) | (with_reducible refine ⟨?_,?_⟩; (· first | (obtain ⟨rfl⟩:=‹Hq _ _›; with_reducible refine chk_ok ?_; kernel_rfl) | kernel_rfl)) | (with_reducible intro ops hops)))
    refine ⟨(R,k),⟨by simp at hk ⊢; omega,by simp only [hnx]; exact hgoal.symm⟩,le_stOf _ _ [] [] ?_ ?_ rfl rfl,by simp⟩
    ·simp [cv,cv1,cv0,upd,lk,srcOf]
    ·simp
   ·have hg:ek % 2=1:=by simp at g; omega
    rw [if_pos hg] at hgoal
    (repeat (first | (simp -implicitDefEqProofs only [ev,mixed,Nat.reduceLT,Nat.reduceAdd,Nat.reduceMul,reduceIte,Nat.reduceEqDiff,reduceCtorEq,Nat.reducePow,Nat.reduceLeDiff,Int.reduceLE,Int.reduceLT,Int.reduceToNat,Int.reduceEq,Nat.reduceBEq,itsOf,gdA,byteI,opid,lenQ,ixQ,ldH,readAt,readCells,asCell,faQ,exQ,fldQ,partA,buildQ,slQ,stH,bslH,appH,dcells,convI,elemsOf,D.one,nilS,fillD,convN,cvH,tyR2A1,hk1]) | (with_reducible refine ⟨?_,?_⟩; (· first | (obtain ⟨rfl⟩:=‹Hq _ _›; with_reducible refine chk_ok ?_; kernel_rfl) | kernel_rfl)) | (with_reducible intro ops hops)))
    (first | refine Call_flat [] [] (ht1) (by simp [cvAs,cvA,cvRL,cvR,cvBox,cv1,cvL,cv0,bI,byteI,u64D,elemsOf,upd]) rfl ?_ | refine CallF_flat [] [] [] (ht1) (fun G _=>by simp [cvAs,cvA,cvRL,cvR,cvBox,cv1,cvL,cv0,bI,byteI,u64D,elemsOf,upd]) rfl ?_)
    (repeat (first | (simp -implicitDefEqProofs only [ev,mixed,Nat.reduceLT,Nat.reduceAdd,Nat.reduceMul,reduceIte,Nat.reduceEqDiff,reduceCtorEq,Nat.reducePow,Nat.reduceLeDiff,Int.reduceLE,Int.reduceLT,Int.reduceToNat,Int.reduceEq,Nat.reduceBEq,itsOf,gdA,byteI,opid,lenQ,ixQ,ldH,readAt,readCells,asCell,faQ,exQ,fldQ,partA,buildQ,slQ,stH,bslH,appH,dcells,convI,elemsOf,D.one,nilS,fillD,convN,cvH,tyR2A1,u64D,hk1,hsh,t2,g,w4]) | (with_reducible refine ⟨?_,?_⟩; (· first | (obtain ⟨rfl⟩:=‹Hq _ _›; with_reducible refine chk_ok ?_; kernel_rfl) | kernel_rfl)) | (with_reducible intro ops hops)))
    (first | refine Call_flat [] [] (ht2) (by simp [cvAs,cvA,cvRL,cvR,cvBox,cv1,cvL,cv0,bI,byteI,u64D,elemsOf,upd]) rfl ?_ | refine CallF_flat [] [] [] (ht2) (fun G _=>by simp [cvAs,cvA,cvRL,cvR,cvBox,cv1,cvL,cv0,bI,byteI,u64D,elemsOf,upd]) rfl ?_)
    (repeat (first | (simp -implicitDefEqProofs only [ev,mixed,Nat.reduceLT,Nat.reduceAdd,Nat.reduceMul,reduceIte,Nat.reduceEqDiff,reduceCtorEq,Nat.reducePow,Nat.reduceLeDiff,Int.reduceLE,Int.reduceLT,Int.reduceToNat,Int.reduceEq,Nat.reduceBEq,itsOf,gdA,byteI,opid,lenQ,ixQ,ldH,readAt,readCells,asCell,faQ,exQ,fldQ,partA,buildQ,slQ,stH,bslH,appH,dcells,convI,elemsOf,D.one,nilS,fillD,convN,cvH,tyR2A1,u64D,hk1,w4]) | (with_reducible refine ⟨?_,?_⟩; (· first | (obtain ⟨rfl⟩:=‹Hq _ _›; with_reducible refine chk_ok ?_; kernel_rfl) | kernel_rfl)) | (with_reducible intro ops hops)))
    refine ⟨(R * b % m,k),⟨by simp at hk ⊢; omega,by simp only [hnx]; exact hgoal.symm⟩,le_stOf _ _ [] [] ?_ ?_ rfl rfl,by simp⟩
    ·simp [cv,cv1,cv0,upd,lk,srcOf]
    ·simp
end Go.Proofs.Ytkodnlkgblkfdaa
