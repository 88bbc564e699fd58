/- landref2.Secret, Key, Ask, Sign, Good: by value. -/
import Derived.Test.YtkodnlkgblkfdaaR2B
set_option linter.all false
namespace Go.Proofs.Ytkodnlkgblkfdaa
open Go Go.Abs Go.RowKit Go.Proofs.Ytkodnlkgblkfdaa.Ty
theorem tyR2C0:(type_of% @Ty.T3)∧(type_of% @Ty.T5)∧(type_of% @Ty.T25)∧(type_of% @Ty.T80)∧(type_of% @Ty.T104):=⟨@Ty.T3,@Ty.T5,@Ty.T25,@Ty.T80,@Ty.T104⟩
theorem tyR2C1:(type_of% @Ty.T5)∧(type_of% @Ty.T25)∧(type_of% @Ty.T80)∧(type_of% @Ty.T95):=⟨@Ty.T5,@Ty.T25,@Ty.T80,@Ty.T95⟩
theorem numn (l:List (List UInt8)) (hl:l.length≤1000) (hf:l.flatten.length≤1099511627776):PureD Try.prog 85 [.i (bbI l)] (.i (bI l.flatten))∧PureD Try.prog 84 [.i (bI l.flatten)] (u64D (numF (sha l.flatten))) :=
 ⟨join_A l hl (by omega),rnumber_A l.flatten hf⟩
set_option maxHeartbeats 2000000
theorem rask_A (r key:Nat) (m:List UInt8) (hr:r < 18446744073709551616) (hk:key < 18446744073709551616) (hb:m.length≤1048576):PureD Try.prog 70 [u64D r,u64D key,.i (bI m)] (u64D (askF r key m)):=by
 obtain ⟨hj,hn⟩:=numn [be64 r,be64 key,m] (by simp) (by simp [be64_len]; omega)
 have hf:[be64 r,be64 key,m].flatten=be64 r++(be64 key++m):=by simp
 rw [hf] at hn hj
 have hs:askF r key m=numF (sha (be64 r++(be64 key++m))) % 576460752303424853:=rfl
 generalize be64 r++(be64 key++m)=KS at *
 generalize numF (sha KS)=N at hn hs
 have w1:(N:Int).tmod 576460752303424853=((askF r key m:Nat):Int):=by rw [hs]; exact tmodN N 576460752303424853
 refine callD_W 16 Try.func70 rfl rfl rfl (fun _ _=>rfl) ?_
 (repeat (first | (simp -implicitDefEqProofs only [ev,mixed,Nat.reduceLT,Nat.reduceAdd,Nat.reduceMul,reduceIte,Nat.reduceEqDiff,reduceCtorEq,Nat.reducePow,Nat.reduceLeDiff,Int.reduceLE,Int.reduceLT,Int.reduceToNat,Int.reduceEq,Nat.reduceBEq,itsOf,gdA,byteI,opid,lenQ,ixQ,ldH,readAt,readCells,asCell,faQ,exQ,fldQ,partA,buildQ,slQ,stH,bslH,appH,dcells,convI,elemsOf,D.one,nilS,fillD,convN,cvH,tyR2C0,u64D,bI]) | (with_reducible refine ⟨?_,?_⟩; (· first | (obtain ⟨rfl⟩:=‹Hq _ _›; with_reducible refine chk_ok ?_; kernel_rfl) | kernel_rfl)) | (with_reducible intro ops hops)))
 (first | refine Call_frz [] (reight_A r hr) (by simp [cvAs,cvA,cvRL,cvR,cvBox,cv1,cvL,cv0,bI,byteI,u64D,bbI,sealD,elemsOf,upd]) ?_ | refine CallF_frz [] [] (reight_A r hr) (fun G _=>by simp [cvAs,cvA,cvRL,cvR,cvBox,cv1,cvL,cv0,bI,byteI,u64D,bbI,sealD,elemsOf,upd]) (by simp) ?_)
 (repeat (first | (simp -implicitDefEqProofs only [ev,mixed,Nat.reduceLT,Nat.reduceAdd,Nat.reduceMul,reduceIte,Nat.reduceEqDiff,reduceCtorEq,Nat.reducePow,Nat.reduceLeDiff,Int.reduceLE,Int.reduceLT,Int.reduceToNat,Int.reduceEq,Nat.reduceBEq,itsOf,gdA,byteI,opid,lenQ,ixQ,ldH,readAt,readCells,asCell,faQ,exQ,fldQ,partA,buildQ,slQ,stH,bslH,appH,dcells,convI,elemsOf,D.one,nilS,fillD,convN,cvH,tyR2C0,u64D,bI]) | (with_reducible refine ⟨?_,?_⟩; (· first | (obtain ⟨rfl⟩:=‹Hq _ _›; with_reducible refine chk_ok ?_; kernel_rfl) | kernel_rfl)) | (with_reducible intro ops hops)))
 (first | refine Call_frz [] (reight_A key hk) (by simp [cvAs,cvA,cvRL,cvR,cvBox,cv1,cvL,cv0,bI,byteI,u64D,bbI,sealD,elemsOf,upd]) ?_ | refine CallF_frz [] [] (reight_A key hk) (fun G _=>by simp [cvAs,cvA,cvRL,cvR,cvBox,cv1,cvL,cv0,bI,byteI,u64D,bbI,sealD,elemsOf,upd]) (by simp) ?_)
 (repeat (first | (simp -implicitDefEqProofs only [ev,mixed,Nat.reduceLT,Nat.reduceAdd,Nat.reduceMul,reduceIte,Nat.reduceEqDiff,reduceCtorEq,Nat.reducePow,Nat.reduceLeDiff,Int.reduceLE,Int.reduceLT,Int.reduceToNat,Int.reduceEq,Nat.reduceBEq,itsOf,gdA,byteI,opid,lenQ,ixQ,ldH,readAt,readCells,asCell,faQ,exQ,fldQ,partA,buildQ,slQ,stH,bslH,appH,dcells,convI,elemsOf,D.one,nilS,fillD,convN,cvH,tyR2C0,u64D,bI]) | (with_reducible refine ⟨?_,?_⟩; (· first | (obtain ⟨rfl⟩:=‹Hq _ _›; with_reducible refine chk_ok ?_; kernel_rfl) | kernel_rfl)) | (with_reducible intro ops hops)))
 (first | refine Call_frz [1261] (hj) (by simp [cvAs,cvA,cvRL,cvR,cvBox,cv1,cvL,cv0,bI,byteI,u64D,bbI,sealD,elemsOf,upd,frz,bbI]) ?_ | refine CallF_frz [1261] [1261] (hj) (fun G hG=>by (have hG1261:=hG 1261 (by simp); simp [cvAs,cvA,cvRL,cvR,cvBox,cv1,cvL,cv0,bI,byteI,u64D,bbI,sealD,elemsOf,upd,frz,bbI,hG1261])) (by simp) ?_)
 (repeat (first | (simp -implicitDefEqProofs only [ev,mixed,Nat.reduceLT,Nat.reduceAdd,Nat.reduceMul,reduceIte,Nat.reduceEqDiff,reduceCtorEq,Nat.reducePow,Nat.reduceLeDiff,Int.reduceLE,Int.reduceLT,Int.reduceToNat,Int.reduceEq,Nat.reduceBEq,itsOf,gdA,byteI,opid,lenQ,ixQ,ldH,readAt,readCells,asCell,faQ,exQ,fldQ,partA,buildQ,slQ,stH,bslH,appH,dcells,convI,elemsOf,D.one,nilS,fillD,convN,cvH,tyR2C0,bI]) | (with_reducible refine ⟨?_,?_⟩; (· first | (obtain ⟨rfl⟩:=‹Hq _ _›; with_reducible refine chk_ok ?_; kernel_rfl) | kernel_rfl)) | (with_reducible intro ops hops)))
 (first | refine Call_frz [] (hn) (by simp [cvAs,cvA,cvRL,cvR,cvBox,cv1,cvL,cv0,bI,byteI,u64D,bbI,sealD,elemsOf,upd]) ?_ | refine CallF_frz [] [] (hn) (fun G _=>by simp [cvAs,cvA,cvRL,cvR,cvBox,cv1,cvL,cv0,bI,byteI,u64D,bbI,sealD,elemsOf,upd]) (by simp) ?_)
 (repeat (first | (simp -implicitDefEqProofs only [ev,mixed,Nat.reduceLT,Nat.reduceAdd,Nat.reduceMul,reduceIte,Nat.reduceEqDiff,reduceCtorEq,Nat.reducePow,Nat.reduceLeDiff,Int.reduceLE,Int.reduceLT,Int.reduceToNat,Int.reduceEq,Nat.reduceBEq,itsOf,gdA,byteI,opid,lenQ,ixQ,ldH,readAt,readCells,asCell,faQ,exQ,fldQ,partA,buildQ,slQ,stH,bslH,appH,dcells,convI,elemsOf,D.one,nilS,fillD,convN,cvH,tyR2C0,u64D,w1]) | (with_reducible refine ⟨?_,?_⟩; (· first | (obtain ⟨rfl⟩:=‹Hq _ _›; with_reducible refine chk_ok ?_; kernel_rfl) | kernel_rfl)) | (with_reducible intro ops hops)))
 refine fin_ret [] rfl ?_
 simp [cv,cv1,cv0,upd,u64D]
theorem rgood_A (key:Nat) (m:List UInt8) (r s:Nat) (hk:key < 18446744073709551616) (hr:r < 18446744073709551616) (hs:s < 18446744073709551616) (hm:m.length≤1048576) :
  PureD Try.prog 59 [u64D key,.i (bI m),sealD r s] (.i (.s (.bool (goodF key m r s)))):=by
 generalize hg:goodF key m r s=g
 unfold goodF at hg
 refine callD_W 55 Try.func59 rfl rfl rfl (fun _ _=>rfl) ?_
 cases g1:decide ((key:Int)=0)
 rotate_left
 ·have h1:¬ 1≤key:=by simp at g1; omega
  (repeat (first | (simp -implicitDefEqProofs only [ev,mixed,Nat.reduceLT,Nat.reduceAdd,Nat.reduceMul,reduceIte,Nat.reduceEqDiff,reduceCtorEq,Nat.reducePow,Nat.reduceLeDiff,Int.reduceLE,Int.reduceLT,Int.reduceToNat,Int.reduceEq,Nat.reduceBEq,itsOf,gdA,byteI,opid,lenQ,ixQ,ldH,readAt,readCells,asCell,faQ,exQ,fldQ,partA,buildQ,slQ,stH,bslH,appH,dcells,convI,elemsOf,D.one,nilS,fillD,convN,cvH,tyR2C1,u64D,sealD,bI,g1]) | (with_reducible refine ⟨?_,?_⟩; (· first | (obtain ⟨rfl⟩:=‹Hq _ _›; with_reducible refine chk_ok ?_; kernel_rfl) | kernel_rfl)) | (with_reducible intro ops hops)))
  refine fin_ret [] rfl ?_
  simp [cv,cv1,cv0,upd,← hg,h1]
 have h1:1≤key:=by simp at g1; omega
 cases g2:decide ((1152921504606849707:Int)≤(key:Int))
 rotate_left
 ·have h2:¬ key < pN:=by simp [pN] at g2 ⊢; omega
  (repeat (first | (simp -implicitDefEqProofs only [ev,mixed,Nat.reduceLT,Nat.reduceAdd,Nat.reduceMul,reduceIte,Nat.reduceEqDiff,reduceCtorEq,Nat.reducePow,Nat.reduceLeDiff,Int.reduceLE,Int.reduceLT,Int.reduceToNat,Int.reduceEq,Nat.reduceBEq,itsOf,gdA,byteI,opid,lenQ,ixQ,ldH,readAt,readCells,asCell,faQ,exQ,fldQ,partA,buildQ,slQ,stH,bslH,appH,dcells,convI,elemsOf,D.one,nilS,fillD,convN,cvH,tyR2C1,u64D,sealD,bI,g1,g2]) | (with_reducible refine ⟨?_,?_⟩; (· first | (obtain ⟨rfl⟩:=‹Hq _ _›; with_reducible refine chk_ok ?_; kernel_rfl) | kernel_rfl)) | (with_reducible intro ops hops)))
  refine fin_ret [] rfl ?_
  simp [cv,cv1,cv0,upd,← hg,h2]
 have h2:key < pN:=by simp [pN] at g2 ⊢; omega
 cases g3:decide ((r:Int)=0)
 rotate_left
 ·have h3:¬ 1≤r:=by simp at g3; omega
  (repeat (first | (simp -implicitDefEqProofs only [ev,mixed,Nat.reduceLT,Nat.reduceAdd,Nat.reduceMul,reduceIte,Nat.reduceEqDiff,reduceCtorEq,Nat.reducePow,Nat.reduceLeDiff,Int.reduceLE,Int.reduceLT,Int.reduceToNat,Int.reduceEq,Nat.reduceBEq,itsOf,gdA,byteI,opid,lenQ,ixQ,ldH,readAt,readCells,asCell,faQ,exQ,fldQ,partA,buildQ,slQ,stH,bslH,appH,dcells,convI,elemsOf,D.one,nilS,fillD,convN,cvH,tyR2C1,u64D,sealD,bI,g1,g2,g3]) | (with_reducible refine ⟨?_,?_⟩; (· first | (obtain ⟨rfl⟩:=‹Hq _ _›; with_reducible refine chk_ok ?_; kernel_rfl) | kernel_rfl)) | (with_reducible intro ops hops)))
  refine fin_ret [] rfl ?_
  simp [cv,cv1,cv0,upd,← hg,h3]
 have h3:1≤r:=by simp at g3; omega
 cases g4:decide ((1152921504606849707:Int)≤(r:Int))
 rotate_left
 ·have h4:¬ r < pN:=by simp [pN] at g4 ⊢; omega
  (repeat (first | (simp -implicitDefEqProofs only [ev,mixed,Nat.reduceLT,Nat.reduceAdd,Nat.reduceMul,reduceIte,Nat.reduceEqDiff,reduceCtorEq,Nat.reducePow,Nat.reduceLeDiff,Int.reduceLE,Int.reduceLT,Int.reduceToNat,Int.reduceEq,Nat.reduceBEq,itsOf,gdA,byteI,opid,lenQ,ixQ,ldH,readAt,readCells,asCell,faQ,exQ,fldQ,partA,buildQ,slQ,stH,bslH,appH,dcells,convI,elemsOf,D.one,nilS,fillD,convN,cvH,tyR2C1,u64D,sealD,bI,g1,g2,g3,g4]) | (with_reducible refine ⟨?_,?_⟩; (· first | (obtain ⟨rfl⟩:=‹Hq _ _›; with_reducible refine chk_ok ?_; kernel_rfl) | kernel_rfl)) | (with_reducible intro ops hops)))
  refine fin_ret [] rfl ?_
  simp [cv,cv1,cv0,upd,← hg,h4]
 have h4:r < pN:=by simp [pN] at g4 ⊢; omega
 cases g5:decide ((576460752303424853:Int)≤(s:Int))
 rotate_left
 ·have h5:¬ s < qN:=by simp [qN] at g5 ⊢; omega
  (repeat (first | (simp -implicitDefEqProofs only [ev,mixed,Nat.reduceLT,Nat.reduceAdd,Nat.reduceMul,reduceIte,Nat.reduceEqDiff,reduceCtorEq,Nat.reducePow,Nat.reduceLeDiff,Int.reduceLE,Int.reduceLT,Int.reduceToNat,Int.reduceEq,Nat.reduceBEq,itsOf,gdA,byteI,opid,lenQ,ixQ,ldH,readAt,readCells,asCell,faQ,exQ,fldQ,partA,buildQ,slQ,stH,bslH,appH,dcells,convI,elemsOf,D.one,nilS,fillD,convN,cvH,tyR2C1,u64D,sealD,bI,g1,g2,g3,g4,g5]) | (with_reducible refine ⟨?_,?_⟩; (· first | (obtain ⟨rfl⟩:=‹Hq _ _›; with_reducible refine chk_ok ?_; kernel_rfl) | kernel_rfl)) | (with_reducible intro ops hops)))
  refine fin_ret [] rfl ?_
  simp [cv,cv1,cv0,upd,← hg,h5]
 have h5:s < qN:=by simp [qN] at g5 ⊢; omega
 have hp:=rpower_A key qN pN hk (by decide) (by decide) (by decide)
 (repeat (first | (simp -implicitDefEqProofs only [ev,mixed,Nat.reduceLT,Nat.reduceAdd,Nat.reduceMul,reduceIte,Nat.reduceEqDiff,reduceCtorEq,Nat.reducePow,Nat.reduceLeDiff,Int.reduceLE,Int.reduceLT,Int.reduceToNat,Int.reduceEq,Nat.reduceBEq,itsOf,gdA,byteI,opid,lenQ,ixQ,ldH,readAt,readCells,asCell,faQ,exQ,fldQ,partA,buildQ,slQ,stH,bslH,appH,dcells,convI,elemsOf,D.one,nilS,fillD,convN,cvH,tyR2C1,u64D,sealD,bI,g1,g2,g3,g4,g5]) | (with_reducible refine ⟨?_,?_⟩; (· first | (obtain ⟨rfl⟩:=‹Hq _ _›; with_reducible refine chk_ok ?_; kernel_rfl) | kernel_rfl)) | (with_reducible intro ops hops)))
 have hps:4 ^ s % pN < 18446744073709551616:=Nat.lt_trans (pow_lt _ _) (by decide)
 have hp2:=rpower_A 4 s pN (by decide) hs (by decide) (by decide)
 have ha:=rask_A r key m hr hk hm
 have hal:askF r key m < 18446744073709551616:=Nat.lt_trans (Nat.mod_lt _ (show 0 < qN by decide)) (by decide)
 have hp3:=rpower_A key (askF r key m) pN hk hal (by decide) (by decide)
 have ht:=rtimes_A r (key ^ askF r key m % pN) pN hr (Nat.lt_trans (pow_lt _ _) (by decide)) (by decide) (by decide)
 simp only [h1,h2,h3,h4,h5,true_and] at hg
 generalize key ^ qN % pN=A at hp hg
 generalize 4 ^ s % pN=B at hp2 hg
 generalize askF r key m=E at ha hp3 ht hg
 generalize key ^ E % pN=C at hp3 ht hg
 generalize r * C % pN=T at ht hg
 simp only [qN,pN] at hp hp2 hp3 ht
 (first | refine Call_flat [] [] (hp) (by simp [cvAs,cvA,cvRL,cvR,cvBox,cv1,cvL,cv0,bI,byteI,u64D,bbI,sealD,elemsOf,upd]) rfl ?_ | refine CallF_flat [] [] [] (hp) (fun G _=>by simp [cvAs,cvA,cvRL,cvR,cvBox,cv1,cvL,cv0,bI,byteI,u64D,bbI,sealD,elemsOf,upd]) rfl ?_)
 cases g6:decide ((A:Int)=1)
 ·have h6:¬ A=1:=by simp at g6; omega
  (repeat (first | (simp -implicitDefEqProofs only [ev,mixed,Nat.reduceLT,Nat.reduceAdd,Nat.reduceMul,reduceIte,Nat.reduceEqDiff,reduceCtorEq,Nat.reducePow,Nat.reduceLeDiff,Int.reduceLE,Int.reduceLT,Int.reduceToNat,Int.reduceEq,Nat.reduceBEq,itsOf,gdA,byteI,opid,lenQ,ixQ,ldH,readAt,readCells,asCell,faQ,exQ,fldQ,partA,buildQ,slQ,stH,bslH,appH,dcells,convI,elemsOf,D.one,nilS,fillD,convN,cvH,tyR2C1,u64D,g6]) | (with_reducible refine ⟨?_,?_⟩; (· first | (obtain ⟨rfl⟩:=‹Hq _ _›; with_reducible refine chk_ok ?_; kernel_rfl) | kernel_rfl)) | (with_reducible intro ops hops)))
  refine fin_ret [] rfl ?_
  simp [cv,cv1,cv0,upd,← hg,h6]
 ·have h6:A=1:=by simp at g6; omega
  (repeat (first | (simp -implicitDefEqProofs only [ev,mixed,Nat.reduceLT,Nat.reduceAdd,Nat.reduceMul,reduceIte,Nat.reduceEqDiff,reduceCtorEq,Nat.reducePow,Nat.reduceLeDiff,Int.reduceLE,Int.reduceLT,Int.reduceToNat,Int.reduceEq,Nat.reduceBEq,itsOf,gdA,byteI,opid,lenQ,ixQ,ldH,readAt,readCells,asCell,faQ,exQ,fldQ,partA,buildQ,slQ,stH,bslH,appH,dcells,convI,elemsOf,D.one,nilS,fillD,convN,cvH,tyR2C1,u64D,g6]) | (with_reducible refine ⟨?_,?_⟩; (· first | (obtain ⟨rfl⟩:=‹Hq _ _›; with_reducible refine chk_ok ?_; kernel_rfl) | kernel_rfl)) | (with_reducible intro ops hops)))
  (first | refine Call_flat [] [] (hp2) (by simp [cvAs,cvA,cvRL,cvR,cvBox,cv1,cvL,cv0,bI,byteI,u64D,bbI,sealD,elemsOf,upd]) rfl ?_ | refine CallF_flat [] [] [] (hp2) (fun G _=>by simp [cvAs,cvA,cvRL,cvR,cvBox,cv1,cvL,cv0,bI,byteI,u64D,bbI,sealD,elemsOf,upd]) rfl ?_)
  (repeat (first | (simp -implicitDefEqProofs only [ev,mixed,Nat.reduceLT,Nat.reduceAdd,Nat.reduceMul,reduceIte,Nat.reduceEqDiff,reduceCtorEq,Nat.reducePow,Nat.reduceLeDiff,Int.reduceLE,Int.reduceLT,Int.reduceToNat,Int.reduceEq,Nat.reduceBEq,itsOf,gdA,byteI,opid,lenQ,ixQ,ldH,readAt,readCells,asCell,faQ,exQ,fldQ,partA,buildQ,slQ,stH,bslH,appH,dcells,convI,elemsOf,D.one,nilS,fillD,convN,cvH,tyR2C1,u64D]) | (with_reducible refine ⟨?_,?_⟩; (· first | (obtain ⟨rfl⟩:=‹Hq _ _›; with_reducible refine chk_ok ?_; kernel_rfl) | kernel_rfl)) | (with_reducible intro ops hops)))
  (first | refine Call_frz [] (ha) (by simp [cvAs,cvA,cvRL,cvR,cvBox,cv1,cvL,cv0,bI,byteI,u64D,bbI,sealD,elemsOf,upd]) ?_ | refine CallF_frz [] [] (ha) (fun G _=>by simp [cvAs,cvA,cvRL,cvR,cvBox,cv1,cvL,cv0,bI,byteI,u64D,bbI,sealD,elemsOf,upd]) (by simp) ?_)
  (repeat (first | (simp -implicitDefEqProofs only [ev,mixed,Nat.reduceLT,Nat.reduceAdd,Nat.reduceMul,reduceIte,Nat.reduceEqDiff,reduceCtorEq,Nat.reducePow,Nat.reduceLeDiff,Int.reduceLE,Int.reduceLT,Int.reduceToNat,Int.reduceEq,Nat.reduceBEq,itsOf,gdA,byteI,opid,lenQ,ixQ,ldH,readAt,readCells,asCell,faQ,exQ,fldQ,partA,buildQ,slQ,stH,bslH,appH,dcells,convI,elemsOf,D.one,nilS,fillD,convN,cvH,tyR2C1,u64D]) | (with_reducible refine ⟨?_,?_⟩; (· first | (obtain ⟨rfl⟩:=‹Hq _ _›; with_reducible refine chk_ok ?_; kernel_rfl) | kernel_rfl)) | (with_reducible intro ops hops)))
  (first | refine Call_flat [] [] (hp3) (by simp [cvAs,cvA,cvRL,cvR,cvBox,cv1,cvL,cv0,bI,byteI,u64D,bbI,sealD,elemsOf,upd]) rfl ?_ | refine CallF_flat [] [] [] (hp3) (fun G _=>by simp [cvAs,cvA,cvRL,cvR,cvBox,cv1,cvL,cv0,bI,byteI,u64D,bbI,sealD,elemsOf,upd]) rfl ?_)
  (repeat (first | (simp -implicitDefEqProofs only [ev,mixed,Nat.reduceLT,Nat.reduceAdd,Nat.reduceMul,reduceIte,Nat.reduceEqDiff,reduceCtorEq,Nat.reducePow,Nat.reduceLeDiff,Int.reduceLE,Int.reduceLT,Int.reduceToNat,Int.reduceEq,Nat.reduceBEq,itsOf,gdA,byteI,opid,lenQ,ixQ,ldH,readAt,readCells,asCell,faQ,exQ,fldQ,partA,buildQ,slQ,stH,bslH,appH,dcells,convI,elemsOf,D.one,nilS,fillD,convN,cvH,tyR2C1,u64D]) | (with_reducible refine ⟨?_,?_⟩; (· first | (obtain ⟨rfl⟩:=‹Hq _ _›; with_reducible refine chk_ok ?_; kernel_rfl) | kernel_rfl)) | (with_reducible intro ops hops)))
  (first | refine Call_flat [] [] (ht) (by simp [cvAs,cvA,cvRL,cvR,cvBox,cv1,cvL,cv0,bI,byteI,u64D,bbI,sealD,elemsOf,upd]) rfl ?_ | refine CallF_flat [] [] [] (ht) (fun G _=>by simp [cvAs,cvA,cvRL,cvR,cvBox,cv1,cvL,cv0,bI,byteI,u64D,bbI,sealD,elemsOf,upd]) rfl ?_)
  (repeat (first | (simp -implicitDefEqProofs only [ev,mixed,Nat.reduceLT,Nat.reduceAdd,Nat.reduceMul,reduceIte,Nat.reduceEqDiff,reduceCtorEq,Nat.reducePow,Nat.reduceLeDiff,Int.reduceLE,Int.reduceLT,Int.reduceToNat,Int.reduceEq,Nat.reduceBEq,itsOf,gdA,byteI,opid,lenQ,ixQ,ldH,readAt,readCells,asCell,faQ,exQ,fldQ,partA,buildQ,slQ,stH,bslH,appH,dcells,convI,elemsOf,D.one,nilS,fillD,convN,cvH,tyR2C1,u64D]) | (with_reducible refine ⟨?_,?_⟩; (· first | (obtain ⟨rfl⟩:=‹Hq _ _›; with_reducible refine chk_ok ?_; kernel_rfl) | kernel_rfl)) | (with_reducible intro ops hops)))
  refine fin_ret [] rfl ?_
  simp [cv,cv1,cv0,upd,← hg,h6,Int.natCast_inj]
end Go.Proofs.Ytkodnlkgblkfdaa
