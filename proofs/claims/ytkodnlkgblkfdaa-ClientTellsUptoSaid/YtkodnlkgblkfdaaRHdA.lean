/- landref3.Bytes, B, N, landref6.u, Digest: by value. (hdrD) -/
import Derived.Test.YtkodnlkgblkfdaaR3B
import Derived.Test.YtkodnlkgblkfdaaHdB
import Derived.Test.YtkodnlkgblkfdaaR1Sum
import Derived.Test.YtkodnlkgblkfdaaR3Write
set_option linter.all false
namespace Go.Proofs.Ytkodnlkgblkfdaa
open Go Go.Abs Go.RowKit Go.Proofs.Ytkodnlkgblkfdaa.Ty
set_option maxHeartbeats 4000000
theorem ru_A (n:Nat):PureD Try.prog 61 [u64D n] (.agg [.i (.s (.int .i64 1)),.i (.s (.int .u64 n)),.i (.sl [])]):=by
 refine hide_r fun R hR=>?_
 refine callD_W 5 Try.func61 rfl rfl rfl (fun _ _=>rfl) ?_
 (repeat' (first | (simp -implicitDefEqProofs only [go_sem,Nat.reduceLT,Nat.reduceAdd,Nat.reduceMul,reduceIte,Nat.reduceEqDiff,reduceCtorEq,Nat.reducePow,Nat.reduceLeDiff,Int.reduceLE,Int.reduceLT,Int.reduceToNat,Int.reduceEq,Nat.reduceBEq,u64D, *]) | (with_reducible refine ⟨?_,?_⟩; (· first | (obtain ⟨rfl⟩:=‹Hq _ _›; with_reducible refine chk_ok ?_; kernel_rfl) | kernel_rfl)) | (with_reducible intro ops hops) | (simp -implicitDefEqProofs (disch:=omega) only [wr64,wru64,get_lt]) | ((first | refine Wc_split (fun hg=>?_) (fun hg=>?_) | refine RoG_split (fun hg=>?_) (fun hg=>?_) | refine RdG_split (fun hg=>?_) (fun hg=>?_)) <;> (try simp only [nrm] at hg) <;> (try simp only [hg,lgc,reduceIte,reduceCtorEq] at hR) <;> (try (exfalso; omega))) | ((try simp only [*,lgc,reduceIte,reduceCtorEq] at hR); obtain ⟨rfl⟩:=hR; refine fin_q (rs:=[.cell 2 82]) rfl ?_; (try simp only [go_sem,Nat.reduceLT,Nat.reduceAdd,Nat.reduceMul,reduceIte,Nat.reduceEqDiff,reduceCtorEq,Nat.reducePow,Nat.reduceLeDiff,Int.reduceLE,Int.reduceLT,Int.reduceToNat,Int.reduceEq,Nat.reduceBEq,u64D]); (simp [u64D]; done))))
theorem rdigest_A (l:List ValD) (hl:l.length≤500000) (hn:∀ v∈l,v.k < 18446744073709551616∧v.p < 18446744073709551616):PureD Try.prog 47 [.i (valsI l)] (.i (bI (digestV l))):=by
 refine hide_r fun R hR=>?_
 refine callD_W 25 Try.func47 rfl rfl rfl (fun _ _=>rfl) ?_
 (repeat' (first | (simp -implicitDefEqProofs only [go_sem,Nat.reduceLT,Nat.reduceAdd,Nat.reduceMul,reduceIte,Nat.reduceEqDiff,reduceCtorEq,Nat.reducePow,Nat.reduceLeDiff,Int.reduceLE,Int.reduceLT,Int.reduceToNat,Int.reduceEq,Nat.reduceBEq,valsI, *]) | (with_reducible refine ⟨?_,?_⟩; (· first | (obtain ⟨rfl⟩:=‹Hq _ _›; with_reducible refine chk_ok ?_; kernel_rfl) | kernel_rfl)) | (with_reducible intro ops hops) | (simp -implicitDefEqProofs (disch:=omega) only [wr64,wru64,get_lt]) | ((first | refine Wc_split (fun hg=>?_) (fun hg=>?_) | refine RoG_split (fun hg=>?_) (fun hg=>?_) | refine RdG_split (fun hg=>?_) (fun hg=>?_)) <;> (try simp only [nrm] at hg) <;> (try simp only [hg,lgc,reduceIte,reduceCtorEq] at hR) <;> (try (exfalso; omega))) | ((try simp only [*,lgc,reduceIte,reduceCtorEq] at hR); obtain ⟨rfl⟩:=hR; refine fin_q (rs:=[.tmp 2]) rfl ?_; (try simp only [go_sem,Nat.reduceLT,Nat.reduceAdd,Nat.reduceMul,reduceIte,Nat.reduceEqDiff,reduceCtorEq,Nat.reducePow,Nat.reduceLeDiff,Int.reduceLE,Int.reduceLT,Int.reduceToNat,Int.reduceEq,Nat.reduceBEq,valsI]); (simp [valsI]; done))))
 refine W_loopI (ι:=Nat) (fun i=>i≤l.length)
  (fun i=>stOf [(6,.i (valsI l)),(7,intD l.length),(8,intD i),(3,.os 100 3 0 (pcsV (l.take i)).length)] [(100,.arr 3 ((pcsV (l.take i)).map encP))]) (fun i=>l.length - i) 0 (Nat.zero_le _) ?_ ?_
 ·(refine le_stOf _ _ [] [] ?_ ?_ rfl rfl <;> (simp [Int.natCast_add,Int.natCast_zero,Int.natCast_one,valsI,pcsV]; done))
 ·rintro i hi
  rw [stOf_eq]
  by_cases h:i < l.length
  ·have e1:=get_lt (f:=encV) h
   have hs:=pcsV_take h
   have hlen:=pcsV_len (l.take i)
   have hlt:(l.take i).length=i:=by rw [List.length_take]; omega
   have c1:=ru_A l[i].k
   have c2:=ru_A l[i].p
   have hu:=uni_P (pcsV (l.take i))
   rw [hlt] at hlen
   generalize l[i]=v at *
   generalize hP':pcsV (l.take (i+1))=P' at *
   generalize pcsV (l.take i)=P at *
   subst hs
   have b1:P.length≤140737488355326:=by omega
   have b3:(P.length+2) * 40≤140737488355328:=by omega
   clear hR hlen hlt
   (repeat' (first | (simp -implicitDefEqProofs only [go_sem,Nat.reduceLT,Nat.reduceAdd,Nat.reduceMul,reduceIte,Nat.reduceEqDiff,reduceCtorEq,Nat.reducePow,Nat.reduceLeDiff,Int.reduceLE,Int.reduceLT,Int.reduceToNat,Int.reduceEq,Nat.reduceBEq,valsI,encV,u64D,intD, *]) | (with_reducible refine ⟨?_,?_⟩; (· first | (obtain ⟨rfl⟩:=‹Hq _ _›; with_reducible refine chk_ok ?_; kernel_rfl) | kernel_rfl)) | (with_reducible intro ops hops) | (simp -implicitDefEqProofs (disch:=omega) only [wr64,wru64,get_lt]) | ((with_reducible refine call_id ?_); (first | ((with_reducible refine Call_fl (c1) ?_ ?_ ?_); (· (simp [valsI,encV,u64D,intD]; done)); (· (simp [valsI,encV,u64D,intD,and_assoc]; done))) | ((with_reducible refine Call_fz (c1) ?_ ?_); (· (simp [valsI,encV,u64D,intD,and_assoc]; done))) | ((with_reducible refine Call_fl (c2) ?_ ?_ ?_); (· (simp [valsI,encV,u64D,intD]; done)); (· (simp [valsI,encV,u64D,intD,and_assoc]; done))) | ((with_reducible refine Call_fz (c2) ?_ ?_); (· (simp [valsI,encV,u64D,intD,and_assoc]; done))))) | ((with_reducible refine callF_id ?_); (first | ((with_reducible refine CallF_fl (c1) ?_ ?_ ?_); (· (simp [valsI,encV,u64D,intD]; done)); (· (intro G hG; simp [valsI,encV,u64D,intD] at hG; simp [valsI,encV,u64D,intD,hG,and_assoc]; done))) | ((with_reducible refine CallF_fz (c1) ?_ ?_); (· (intro G hG; simp [valsI,encV,u64D,intD] at hG; simp [valsI,encV,u64D,intD,hG,and_assoc]; done))) | ((with_reducible refine CallF_fl (c2) ?_ ?_ ?_); (· (simp [valsI,encV,u64D,intD]; done)); (· (intro G hG; simp [valsI,encV,u64D,intD] at hG; simp [valsI,encV,u64D,intD,hG,and_assoc]; done))) | ((with_reducible refine CallF_fz (c2) ?_ ?_); (· (intro G hG; simp [valsI,encV,u64D,intD] at hG; simp [valsI,encV,u64D,intD,hG,and_assoc]; done))))) | ((first | refine Wc_split (fun hg=>?_) (fun hg=>?_) | refine RoG_split (fun hg=>?_) (fun hg=>?_) | refine RdG_split (fun hg=>?_) (fun hg=>?_)) <;> (try simp only [nrm] at hg) <;> (try simp only [hg,lgc,reduceIte,reduceCtorEq] at hR) <;> (try (exfalso; omega))) | (refine ⟨i+1,h,?_,?_⟩; (· (refine le_stOf _ _ [] [(100,2288)] ?_ ?_ rfl rfl <;> (simp [Int.natCast_add,Int.natCast_zero,Int.natCast_one,hP',valsI,encP,numP,bI]; done))); (· (simp only; omega))) | ((try simp only [*,lgc,reduceIte,reduceCtorEq] at hR); obtain ⟨rfl⟩:=hR; refine fin_q (rs:=[.tmp 2]) rfl ?_; (try simp only [go_sem,Nat.reduceLT,Nat.reduceAdd,Nat.reduceMul,reduceIte,Nat.reduceEqDiff,reduceCtorEq,Nat.reducePow,Nat.reduceLeDiff,Int.reduceLE,Int.reduceLT,Int.reduceToNat,Int.reduceEq,Nat.reduceBEq,valsI,encV,u64D,intD]); (simp [valsI,encV,u64D,intD]; done))))
  ·have ht:l.take i=l:=List.take_of_length_le (by omega)
   have c1:=rbytes3_A (pcsV l) (by rw [pcsV_len]; omega) (fun p hp=>by rw [pcsV_b l p hp]; simp) (pcsV_64 hn)
   have c2:=sumref_A (writeF (pcsV l)).1 (by have:=writeF_len (pcsV l); omega)
   unfold digestV at hR
   rw [ht]
   generalize (writeF (pcsV l)).1=W at *
   generalize pcsV l=P at *
   (repeat' (first | (simp -implicitDefEqProofs only [go_sem,Nat.reduceLT,Nat.reduceAdd,Nat.reduceMul,reduceIte,Nat.reduceEqDiff,reduceCtorEq,Nat.reducePow,Nat.reduceLeDiff,Int.reduceLE,Int.reduceLT,Int.reduceToNat,Int.reduceEq,Nat.reduceBEq,valsI,intD,bI, *]) | (with_reducible refine ⟨?_,?_⟩; (· first | (obtain ⟨rfl⟩:=‹Hq _ _›; with_reducible refine chk_ok ?_; kernel_rfl) | kernel_rfl)) | (with_reducible intro ops hops) | (simp -implicitDefEqProofs (disch:=omega) only [wr64,wru64,get_lt]) | ((with_reducible refine call_id ?_); (first | ((with_reducible refine Call_fz (c1) ?_ ?_); (· (simp [valsI,intD,bI,and_assoc]; done))) | ((with_reducible refine Call_fz (c2) ?_ ?_); (· (simp [valsI,intD,bI,and_assoc]; done))))) | ((with_reducible refine callF_id ?_); (first | ((with_reducible refine CallF_fz (c1) ?_ ?_); (· (intro G hG; simp [valsI,intD,bI] at hG; simp [valsI,intD,bI,hG,and_assoc]; done))) | ((with_reducible refine CallF_fz (c2) ?_ ?_); (· (intro G hG; simp [valsI,intD,bI] at hG; simp [valsI,intD,bI,hG,and_assoc]; done))))) | ((first | refine Wc_split (fun hg=>?_) (fun hg=>?_) | refine RoG_split (fun hg=>?_) (fun hg=>?_) | refine RdG_split (fun hg=>?_) (fun hg=>?_)) <;> (try simp only [nrm] at hg) <;> (try simp only [hg,lgc,reduceIte,reduceCtorEq] at hR) <;> (try (exfalso; omega))) | ((try simp only [*,lgc,reduceIte,reduceCtorEq] at hR); obtain ⟨rfl⟩:=hR; refine fin_q (rs:=[.tmp 2]) rfl ?_; (try simp only [go_sem,Nat.reduceLT,Nat.reduceAdd,Nat.reduceMul,reduceIte,Nat.reduceEqDiff,reduceCtorEq,Nat.reducePow,Nat.reduceLeDiff,Int.reduceLE,Int.reduceLT,Int.reduceToNat,Int.reduceEq,Nat.reduceBEq,valsI,intD,bI]); (simp [valsI,intD,bI]; done))))
end Go.Proofs.Ytkodnlkgblkfdaa
