/- landref6.Check, Overlap, SameSigned: by value. (hdrD signedD) -/
import Derived.Test.YtkodnlkgblkfdaaRHdC
import Derived.Test.YtkodnlkgblkfdaaRHdS
set_option linter.all false
namespace Go.Proofs.Ytkodnlkgblkfdaa
open Go Go.Abs Go.RowKit Go.Proofs.Ytkodnlkgblkfdaa.Ty
def noOf (q:ValD × VoteD):Nat:=if q.2.is=true then 0 else q.1.p
def noF (l:List (ValD × VoteD)):Nat:=(l.map noOf).sum
theorem yes_no:∀ {l:List ValD} {m:List VoteD},m.length=l.length→yesF (l.zip m)+noF (l.zip m)=sumP l
 | [],m,_=>by simp [yesF,noF,sumP]
 | a :: l,[],h=>by simp at h
 | a :: l,x :: m,h=>by
  have:=yes_no (l:=l) (m:=m) (by simpa using h)
  unfold yesF noF sumP at *
  simp only [List.zip_cons_cons,List.map_cons,List.sum_cons]
  have:yesOf (a,x)+noOf (a,x)=a.p:=by unfold yesOf noOf; simp only; split <;> omega
  omega
theorem no_take {l:List (ValD × VoteD)} {i:Nat} (h:i < l.length):noF (l.take (i+1))=noF (l.take i)+noOf l[i]:=sum_take h
theorem yes_take {l:List (ValD × VoteD)} {i:Nat} (h:i < l.length):yesF (l.take (i+1))=yesF (l.take i)+yesOf l[i]:=sum_take h
theorem no_le {l:List ValD} (h:ValsOk l) (m:List VoteD) (i:Nat):noF ((l.zip m).take i)≤10000000:=by
 have h1:=sum_le (f:=noOf) (k:=1000000) (l:=(l.zip m).take i) (take_mem fun q hq=>by
  obtain ⟨v,x⟩:=q
  have:=h.pow v (List.of_mem_zip hq).1
  show (if x.is=true then 0 else v.p)≤_
  split <;> omega)
 have h2:=h.len
 have h3:((l.zip m).take i).length≤10:=by rw [List.length_take,List.length_zip]; omega
 unfold noF
 have:((l.zip m).take i).length * 1000000≤10 * 1000000:=Nat.mul_le_mul_right _ h3
 omega
set_option maxHeartbeats 8000000
theorem rcheck_A (s:SignedD) (hs:SgnSm s):PureD Try.prog 44 [signedD s] (intD (checkS s)):=by
 refine hide_r fun R hR=>?_
 have c1:=rwrongH_A s.hdr
 have c2:=rvals_A s.vals (by have:=hs.len; omega)
 have c4:=same_A (digestV s.vals) s.hdr.vals (by have:(digestV s.vals).length=32:=sha_length _; omega)
 unfold checkS at hR
 by_cases hw:wrongH s.hdr=0
 rotate_left
 ·rw [if_neg hw] at hR
  generalize wrongH s.hdr=X at *
  clear c2 c4 hs
  refine callD_W 88 Try.func44 rfl rfl rfl (fun _ _=>rfl) ?_
  (repeat' (first | (simp -implicitDefEqProofs only [go_sem,Nat.reduceLT,Nat.reduceAdd,Nat.reduceMul,reduceIte,Nat.reduceEqDiff,reduceCtorEq,Nat.reducePow,Nat.reduceLeDiff,Int.reduceLE,Int.reduceLT,Int.reduceToNat,Int.reduceEq,Nat.reduceBEq,signedD,hdrD,valsI,votesI, *]) | (with_reducible refine ⟨?_,?_⟩; (· first | (obtain ⟨rfl⟩:=‹Hq _ _›; with_reducible refine chk_ok ?_; kernel_rfl) | kernel_rfl)) | (with_reducible intro ops hops) | (simp -implicitDefEqProofs (disch:=omega) only [wr64,wru64,get_lt]) | ((with_reducible refine call_id ?_); (first | ((with_reducible refine Call_fl (c1) ?_ ?_ ?_); (· (simp [signedD,hdrD,valsI,votesI]; done)); (· (simp [signedD,hdrD,valsI,votesI,and_assoc]; done))))) | ((with_reducible refine callF_id ?_); (first | ((with_reducible refine CallF_fl (c1) ?_ ?_ ?_); (· (simp [signedD,hdrD,valsI,votesI]; done)); (· (intro G hG; simp [signedD,hdrD,valsI,votesI] at hG; simp [signedD,hdrD,valsI,votesI,hG,and_assoc]; done))))) | ((first | refine Wc_split (fun hg=>?_) (fun hg=>?_) | refine RoG_split (fun hg=>?_) (fun hg=>?_) | refine RdG_split (fun hg=>?_) (fun hg=>?_)) <;> (try simp only [nrm] at hg) <;> (try simp only [hg,lgc,reduceIte,reduceCtorEq] at hR) <;> (try (exfalso; omega))) | ((try simp only [*,lgc,reduceIte,reduceCtorEq] at hR); obtain ⟨rfl⟩:=hR; refine fin_q (rs:=[.tmp 2]) rfl ?_; (try simp only [go_sem,Nat.reduceLT,Nat.reduceAdd,Nat.reduceMul,reduceIte,Nat.reduceEqDiff,reduceCtorEq,Nat.reducePow,Nat.reduceLeDiff,Int.reduceLE,Int.reduceLT,Int.reduceToNat,Int.reduceEq,Nat.reduceBEq,signedD,hdrD,valsI,votesI]); (simp [signedD,hdrD,valsI,votesI]; done))))
 rw [if_pos hw] at hR
 rw [hw] at c1
 by_cases hv:valsW s.vals=0
 rotate_left
 ·rw [if_neg hv] at hR
  generalize valsW s.vals=X at *
  clear c4 hs hw
  refine callD_W 88 Try.func44 rfl rfl rfl (fun _ _=>rfl) ?_
  (repeat' (first | (simp -implicitDefEqProofs only [go_sem,Nat.reduceLT,Nat.reduceAdd,Nat.reduceMul,reduceIte,Nat.reduceEqDiff,reduceCtorEq,Nat.reducePow,Nat.reduceLeDiff,Int.reduceLE,Int.reduceLT,Int.reduceToNat,Int.reduceEq,Nat.reduceBEq,signedD,hdrD,valsI,votesI, *]) | (with_reducible refine ⟨?_,?_⟩; (· first | (obtain ⟨rfl⟩:=‹Hq _ _›; with_reducible refine chk_ok ?_; kernel_rfl) | kernel_rfl)) | (with_reducible intro ops hops) | (simp -implicitDefEqProofs (disch:=omega) only [wr64,wru64,get_lt]) | ((with_reducible refine call_id ?_); (first | ((with_reducible refine Call_fl (c1) ?_ ?_ ?_); (· (simp [signedD,hdrD,valsI,votesI]; done)); (· (simp [signedD,hdrD,valsI,votesI,and_assoc]; done))) | ((with_reducible refine Call_fl (c2) ?_ ?_ ?_); (· (simp [signedD,hdrD,valsI,votesI]; done)); (· (simp [signedD,hdrD,valsI,votesI,and_assoc]; done))))) | ((with_reducible refine callF_id ?_); (first | ((with_reducible refine CallF_fl (c1) ?_ ?_ ?_); (· (simp [signedD,hdrD,valsI,votesI]; done)); (· (intro G hG; simp [signedD,hdrD,valsI,votesI] at hG; simp [signedD,hdrD,valsI,votesI,hG,and_assoc]; done))) | ((with_reducible refine CallF_fl (c2) ?_ ?_ ?_); (· (simp [signedD,hdrD,valsI,votesI]; done)); (· (intro G hG; simp [signedD,hdrD,valsI,votesI] at hG; simp [signedD,hdrD,valsI,votesI,hG,and_assoc]; done))))) | ((first | refine Wc_split (fun hg=>?_) (fun hg=>?_) | refine RoG_split (fun hg=>?_) (fun hg=>?_) | refine RdG_split (fun hg=>?_) (fun hg=>?_)) <;> (try simp only [nrm] at hg) <;> (try simp only [hg,lgc,reduceIte,reduceCtorEq] at hR) <;> (try (exfalso; omega))) | ((try simp only [*,lgc,reduceIte,reduceCtorEq] at hR); obtain ⟨rfl⟩:=hR; refine fin_q (rs:=[.tmp 2]) rfl ?_; (try simp only [go_sem,Nat.reduceLT,Nat.reduceAdd,Nat.reduceMul,reduceIte,Nat.reduceEqDiff,reduceCtorEq,Nat.reducePow,Nat.reduceLeDiff,Int.reduceLE,Int.reduceLT,Int.reduceToNat,Int.reduceEq,Nat.reduceBEq,signedD,hdrD,valsI,votesI]); (simp [signedD,hdrD,valsI,votesI]; done))))
 rw [if_pos hv] at hR
 rw [hv] at c2
 have ok:=valsW_zero.1 hv
 have hlen:=ok.len
 have c3:=rdigest_A s.vals (by omega) hs.k
 by_cases hl:(s.votes.length:Int)=s.vals.length
 rotate_left
 ·rw [if_neg hl] at hR
  have hl':¬ (s.vals.length:Int)=s.votes.length:=fun e=>hl e.symm
  clear c4 hs hw hv ok hl c3
  refine callD_W 88 Try.func44 rfl rfl rfl (fun _ _=>rfl) ?_
  (repeat' (first | (simp -implicitDefEqProofs only [go_sem,Nat.reduceLT,Nat.reduceAdd,Nat.reduceMul,reduceIte,Nat.reduceEqDiff,reduceCtorEq,Nat.reducePow,Nat.reduceLeDiff,Int.reduceLE,Int.reduceLT,Int.reduceToNat,Int.reduceEq,Nat.reduceBEq,signedD,hdrD,valsI,votesI, *]) | (with_reducible refine ⟨?_,?_⟩; (· first | (obtain ⟨rfl⟩:=‹Hq _ _›; with_reducible refine chk_ok ?_; kernel_rfl) | kernel_rfl)) | (with_reducible intro ops hops) | (simp -implicitDefEqProofs (disch:=omega) only [wr64,wru64,get_lt]) | ((with_reducible refine call_id ?_); (first | ((with_reducible refine Call_fl (c1) ?_ ?_ ?_); (· (simp [signedD,hdrD,valsI,votesI]; done)); (· (simp [signedD,hdrD,valsI,votesI,and_assoc]; done))) | ((with_reducible refine Call_fl (c2) ?_ ?_ ?_); (· (simp [signedD,hdrD,valsI,votesI]; done)); (· (simp [signedD,hdrD,valsI,votesI,and_assoc]; done))))) | ((with_reducible refine callF_id ?_); (first | ((with_reducible refine CallF_fl (c1) ?_ ?_ ?_); (· (simp [signedD,hdrD,valsI,votesI]; done)); (· (intro G hG; simp [signedD,hdrD,valsI,votesI] at hG; simp [signedD,hdrD,valsI,votesI,hG,and_assoc]; done))) | ((with_reducible refine CallF_fl (c2) ?_ ?_ ?_); (· (simp [signedD,hdrD,valsI,votesI]; done)); (· (intro G hG; simp [signedD,hdrD,valsI,votesI] at hG; simp [signedD,hdrD,valsI,votesI,hG,and_assoc]; done))))) | ((first | refine Wc_split (fun hg=>?_) (fun hg=>?_) | refine RoG_split (fun hg=>?_) (fun hg=>?_) | refine RdG_split (fun hg=>?_) (fun hg=>?_)) <;> (try simp only [nrm] at hg) <;> (try simp only [hg,lgc,reduceIte,reduceCtorEq] at hR) <;> (try (exfalso; omega))) | ((try simp only [*,lgc,reduceIte,reduceCtorEq] at hR); obtain ⟨rfl⟩:=hR; refine fin_q (rs:=[.tmp 2]) rfl ?_; (try simp only [go_sem,Nat.reduceLT,Nat.reduceAdd,Nat.reduceMul,reduceIte,Nat.reduceEqDiff,reduceCtorEq,Nat.reducePow,Nat.reduceLeDiff,Int.reduceLE,Int.reduceLT,Int.reduceToNat,Int.reduceEq,Nat.reduceBEq,signedD,hdrD,valsI,votesI]); (simp [signedD,hdrD,valsI,votesI]; done))))
 rw [if_pos hl] at hR
 by_cases hd:digestV s.vals=s.hdr.vals
 rotate_left
 ·rw [if_neg hd] at hR
  rw [decide_eq_false hd] at c4
  generalize digestV s.vals=D0 at *
  clear hs hw hv ok hd
  refine callD_W 88 Try.func44 rfl rfl rfl (fun _ _=>rfl) ?_
  (repeat' (first | (simp -implicitDefEqProofs only [go_sem,Nat.reduceLT,Nat.reduceAdd,Nat.reduceMul,reduceIte,Nat.reduceEqDiff,reduceCtorEq,Nat.reducePow,Nat.reduceLeDiff,Int.reduceLE,Int.reduceLT,Int.reduceToNat,Int.reduceEq,Nat.reduceBEq,signedD,hdrD,valsI,votesI, *]) | (with_reducible refine ⟨?_,?_⟩; (· first | (obtain ⟨rfl⟩:=‹Hq _ _›; with_reducible refine chk_ok ?_; kernel_rfl) | kernel_rfl)) | (with_reducible intro ops hops) | (simp -implicitDefEqProofs (disch:=omega) only [wr64,wru64,get_lt]) | ((with_reducible refine call_id ?_); (first | ((with_reducible refine Call_fl (c1) ?_ ?_ ?_); (· (simp [signedD,hdrD,valsI,votesI]; done)); (· (simp [signedD,hdrD,valsI,votesI,and_assoc]; done))) | ((with_reducible refine Call_fl (c2) ?_ ?_ ?_); (· (simp [signedD,hdrD,valsI,votesI]; done)); (· (simp [signedD,hdrD,valsI,votesI,and_assoc]; done))) | ((with_reducible refine Call_fz (c3) ?_ ?_); (· (simp [signedD,hdrD,valsI,votesI,and_assoc]; done))) | ((with_reducible refine Call_fl (c4) ?_ ?_ ?_); (· (simp [signedD,hdrD,valsI,votesI]; done)); (· (simp [signedD,hdrD,valsI,votesI,and_assoc]; done))))) | ((with_reducible refine callF_id ?_); (first | ((with_reducible refine CallF_fl (c1) ?_ ?_ ?_); (· (simp [signedD,hdrD,valsI,votesI]; done)); (· (intro G hG; simp [signedD,hdrD,valsI,votesI] at hG; simp [signedD,hdrD,valsI,votesI,hG,and_assoc]; done))) | ((with_reducible refine CallF_fl (c2) ?_ ?_ ?_); (· (simp [signedD,hdrD,valsI,votesI]; done)); (· (intro G hG; simp [signedD,hdrD,valsI,votesI] at hG; simp [signedD,hdrD,valsI,votesI,hG,and_assoc]; done))) | ((with_reducible refine CallF_fz (c3) ?_ ?_); (· (intro G hG; simp [signedD,hdrD,valsI,votesI] at hG; simp [signedD,hdrD,valsI,votesI,hG,and_assoc]; done))) | ((with_reducible refine CallF_fl (c4) ?_ ?_ ?_); (· (simp [signedD,hdrD,valsI,votesI]; done)); (· (intro G hG; simp [signedD,hdrD,valsI,votesI] at hG; simp [signedD,hdrD,valsI,votesI,hG,and_assoc]; done))))) | ((first | refine Wc_split (fun hg=>?_) (fun hg=>?_) | refine RoG_split (fun hg=>?_) (fun hg=>?_) | refine RdG_split (fun hg=>?_) (fun hg=>?_)) <;> (try simp only [nrm] at hg) <;> (try simp only [hg,lgc,reduceIte,reduceCtorEq] at hR) <;> (try (exfalso; omega))) | ((try simp only [*,lgc,reduceIte,reduceCtorEq] at hR); obtain ⟨rfl⟩:=hR; refine fin_q (rs:=[.tmp 2]) rfl ?_; (try simp only [go_sem,Nat.reduceLT,Nat.reduceAdd,Nat.reduceMul,reduceIte,Nat.reduceEqDiff,reduceCtorEq,Nat.reducePow,Nat.reduceLeDiff,Int.reduceLE,Int.reduceLT,Int.reduceToNat,Int.reduceEq,Nat.reduceBEq,signedD,hdrD,valsI,votesI]); (simp [signedD,hdrD,valsI,votesI]; done))))
 rw [if_pos hd] at hR
 rw [decide_eq_true hd] at c4
 have hl':s.votes.length=s.vals.length:=by omega
 have hlz:(s.vals.zip s.votes).length=s.vals.length:=by rw [List.length_zip]; omega
 have hyn:=yes_no hl'
 have hbl:=bytesH_len s.hdr
 have c5:=rbytes_A s.hdr hs.h.c hs.h.root hs.h.vals hs.h.next
 have hx:=hs.x
 have hk:=hs.k
 generalize digestV s.vals=D0 at *
 clear hw hv hd hs
 refine callD_W 88 Try.func44 rfl rfl rfl (fun _ _=>rfl) ?_
 (repeat' (first | (simp -implicitDefEqProofs only [go_sem,Nat.reduceLT,Nat.reduceAdd,Nat.reduceMul,reduceIte,Nat.reduceEqDiff,reduceCtorEq,Nat.reducePow,Nat.reduceLeDiff,Int.reduceLE,Int.reduceLT,Int.reduceToNat,Int.reduceEq,Nat.reduceBEq,signedD,hdrD,valsI,votesI, *]) | (with_reducible refine ⟨?_,?_⟩; (· first | (obtain ⟨rfl⟩:=‹Hq _ _›; with_reducible refine chk_ok ?_; kernel_rfl) | kernel_rfl)) | (with_reducible intro ops hops) | (simp -implicitDefEqProofs (disch:=omega) only [wr64,wru64,get_lt]) | ((with_reducible refine call_id ?_); (first | ((with_reducible refine Call_fl (c1) ?_ ?_ ?_); (· (simp [signedD,hdrD,valsI,votesI]; done)); (· (simp [signedD,hdrD,valsI,votesI,and_assoc]; done))) | ((with_reducible refine Call_fl (c2) ?_ ?_ ?_); (· (simp [signedD,hdrD,valsI,votesI]; done)); (· (simp [signedD,hdrD,valsI,votesI,and_assoc]; done))) | ((with_reducible refine Call_fz (c3) ?_ ?_); (· (simp [signedD,hdrD,valsI,votesI,and_assoc]; done))) | ((with_reducible refine Call_fl (c4) ?_ ?_ ?_); (· (simp [signedD,hdrD,valsI,votesI]; done)); (· (simp [signedD,hdrD,valsI,votesI,and_assoc]; done))))) | ((with_reducible refine callF_id ?_); (first | ((with_reducible refine CallF_fl (c1) ?_ ?_ ?_); (· (simp [signedD,hdrD,valsI,votesI]; done)); (· (intro G hG; simp [signedD,hdrD,valsI,votesI] at hG; simp [signedD,hdrD,valsI,votesI,hG,and_assoc]; done))) | ((with_reducible refine CallF_fl (c2) ?_ ?_ ?_); (· (simp [signedD,hdrD,valsI,votesI]; done)); (· (intro G hG; simp [signedD,hdrD,valsI,votesI] at hG; simp [signedD,hdrD,valsI,votesI,hG,and_assoc]; done))) | ((with_reducible refine CallF_fz (c3) ?_ ?_); (· (intro G hG; simp [signedD,hdrD,valsI,votesI] at hG; simp [signedD,hdrD,valsI,votesI,hG,and_assoc]; done))) | ((with_reducible refine CallF_fl (c4) ?_ ?_ ?_); (· (simp [signedD,hdrD,valsI,votesI]; done)); (· (intro G hG; simp [signedD,hdrD,valsI,votesI] at hG; simp [signedD,hdrD,valsI,votesI,hG,and_assoc]; done))))) | ((first | refine Wc_split (fun hg=>?_) (fun hg=>?_) | refine RoG_split (fun hg=>?_) (fun hg=>?_) | refine RdG_split (fun hg=>?_) (fun hg=>?_)) <;> (try simp only [nrm] at hg) <;> (try simp only [hg,lgc,reduceIte,reduceCtorEq] at hR) <;> (try (exfalso; omega))) | ((try simp only [*,lgc,reduceIte,reduceCtorEq] at hR); obtain ⟨rfl⟩:=hR; refine fin_q (rs:=[.tmp 2]) rfl ?_; (try simp only [go_sem,Nat.reduceLT,Nat.reduceAdd,Nat.reduceMul,reduceIte,Nat.reduceEqDiff,reduceCtorEq,Nat.reducePow,Nat.reduceLeDiff,Int.reduceLE,Int.reduceLT,Int.reduceToNat,Int.reduceEq,Nat.reduceBEq,signedD,hdrD,valsI,votesI]); (simp [signedD,hdrD,valsI,votesI]; done))))
 refine W_loopR (ι:=Nat) (fun i=>i≤s.vals.length∧badF (bytesH s.hdr) ((s.vals.zip s.votes).take i)=false)
  (fun i=>stOf [(1,.pt 100 0 0 0),(5,u64D (yesF ((s.vals.zip s.votes).take i))),(6,u64D (noF ((s.vals.zip s.votes).take i))),(39,intD s.vals.length),(40,intD i)] [(100,.box ((encS s).map .i))]) (fun i=>s.vals.length - i) 0 ⟨Nat.zero_le _,rfl⟩ ?_ ?_
 ·(refine le_stOf _ _ [] [(100,1000)] ?_ ?_ rfl rfl <;> (simp [Int.natCast_add,Int.natCast_zero,Int.natCast_one,encS,valsI,votesI,u64D,yesF,noF]; done))
 ·rintro i ⟨hi,hbad⟩ RL hL
  rw [stOf_eq]
  by_cases h:i < s.vals.length
  ·have h2:i < s.votes.length:=by omega
   have e1:=get_lt (f:=encV) h
   have e2:=get_lt (f:=encX) h2
   have t1:=yes_take (l:=s.vals.zip s.votes) (i:=i) (by omega)
   have t2:=no_take (l:=s.vals.zip s.votes) (i:=i) (by omega)
   have t3:badF (bytesH s.hdr) ((s.vals.zip s.votes).take (i+1))=(badF (bytesH s.hdr) ((s.vals.zip s.votes).take i) || badOf (bytesH s.hdr) (s.vals.zip s.votes)[i]):=any_take (by omega)
   have hin:badOf (bytesH s.hdr) (s.vals.zip s.votes)[i]=true→badF (bytesH s.hdr) (s.vals.zip s.votes)=true:=fun e=>List.any_eq_true.2 ⟨_,List.getElem_mem (by omega),e⟩
   have b1:=yes_le ok s.votes i
   have b2:=no_le ok s.votes i
   have b3:=ok.pow s.vals[i] (List.getElem_mem h)
   have c6:=rgood_A s.vals[i].k (bytesH s.hdr) s.votes[i].r s.votes[i].s (hk _ (List.getElem_mem h)).1 (hx _ (List.getElem_mem h2)).1 (hx _ (List.getElem_mem h2)).2 (by omega)
   rw [zip_get h h2] at t1 t2 t3 hin
   rw [hbad,Bool.false_or] at t3
   generalize s.vals[i]=v at *
   generalize s.votes[i]=x at *
   generalize yesF ((s.vals.zip s.votes).take i)=A at *
   generalize noF ((s.vals.zip s.votes).take i)=B at *
   rw [show yesOf (v,x)=if x.is=true then v.p else 0 from rfl] at t1
   rw [show noOf (v,x)=if x.is=true then 0 else v.p from rfl] at t2
   rw [show badOf (bytesH s.hdr) (v,x)=(x.is && !goodF v.k (bytesH s.hdr) x.r x.s) from rfl] at t3 hin
   have w1:IntKind.u64.wrap ((A:Int)+(v.p:Int))=((A+v.p:Nat):Int):=by rw [IntKind.wrap_u64]; omega
   have w2:IntKind.u64.wrap ((B:Int)+(v.p:Int))=((B+v.p:Nat):Int):=by rw [IntKind.wrap_u64]; omega
   generalize bytesH s.hdr=M at *
   generalize goodF v.k M x.r x.s=G at *
   clear b1 b2 b3 hlz hbl hk hx hyn hbad c1 c2 c3 c4 ok
   obtain ⟨xi,xr,xs⟩:=x
   cases xi <;> cases G <;> simp only [Bool.false_eq_true,if_false,if_true,Bool.false_and,Bool.true_and,Bool.not_true,Bool.not_false,Nat.add_zero] at t1 t2 t3 hin
   ·clear hin hR
    (repeat' (first | (simp -implicitDefEqProofs only [go_sem,Nat.reduceLT,Nat.reduceAdd,Nat.reduceMul,reduceIte,Nat.reduceEqDiff,reduceCtorEq,Nat.reducePow,Nat.reduceLeDiff,Int.reduceLE,Int.reduceLT,Int.reduceToNat,Int.reduceEq,Nat.reduceBEq,encS,valsI,votesI,u64D,encV,encX, *]) | (with_reducible refine ⟨?_,?_⟩; (· first | (obtain ⟨rfl⟩:=‹Hq _ _›; with_reducible refine chk_ok ?_; kernel_rfl) | kernel_rfl)) | (with_reducible intro ops hops) | (simp -implicitDefEqProofs (disch:=omega) only [wr64,wru64,get_lt]) | ((first | refine Wc_split (fun hg=>?_) (fun hg=>?_) | refine RoG_split (fun hg=>?_) (fun hg=>?_) | refine RdG_split (fun hg=>?_) (fun hg=>?_)) <;> (try simp only [nrm] at hg) <;> (try simp only [hg,lgc,reduceIte,reduceCtorEq] at hR) <;> (try (exfalso; omega))) | (refine hL (i+1) _ (⟨h,t3⟩) ?_ ?_; (· (refine le_stOf _ _ [] [(100,100)] ?_ ?_ rfl rfl <;> (simp [Int.natCast_add,Int.natCast_zero,Int.natCast_one,encS,valsI,votesI,u64D,t1,t2]; done))); (· (first | omega | (simp only; omega)))) | ((try simp only [*,lgc,reduceIte,reduceCtorEq] at hR); obtain ⟨rfl⟩:=hR; refine fin_q (rs:=[.tmp 2]) rfl ?_; (try simp only [go_sem,Nat.reduceLT,Nat.reduceAdd,Nat.reduceMul,reduceIte,Nat.reduceEqDiff,reduceCtorEq,Nat.reducePow,Nat.reduceLeDiff,Int.reduceLE,Int.reduceLT,Int.reduceToNat,Int.reduceEq,Nat.reduceBEq,encS,valsI,votesI,u64D,encV,encX]); (simp [encS,valsI,votesI,u64D,encV,encX]; done))))
   ·clear hin hR
    (repeat' (first | (simp -implicitDefEqProofs only [go_sem,Nat.reduceLT,Nat.reduceAdd,Nat.reduceMul,reduceIte,Nat.reduceEqDiff,reduceCtorEq,Nat.reducePow,Nat.reduceLeDiff,Int.reduceLE,Int.reduceLT,Int.reduceToNat,Int.reduceEq,Nat.reduceBEq,encS,valsI,votesI,u64D,encV,encX, *]) | (with_reducible refine ⟨?_,?_⟩; (· first | (obtain ⟨rfl⟩:=‹Hq _ _›; with_reducible refine chk_ok ?_; kernel_rfl) | kernel_rfl)) | (with_reducible intro ops hops) | (simp -implicitDefEqProofs (disch:=omega) only [wr64,wru64,get_lt]) | ((first | refine Wc_split (fun hg=>?_) (fun hg=>?_) | refine RoG_split (fun hg=>?_) (fun hg=>?_) | refine RdG_split (fun hg=>?_) (fun hg=>?_)) <;> (try simp only [nrm] at hg) <;> (try simp only [hg,lgc,reduceIte,reduceCtorEq] at hR) <;> (try (exfalso; omega))) | (refine hL (i+1) _ (⟨h,t3⟩) ?_ ?_; (· (refine le_stOf _ _ [] [(100,100)] ?_ ?_ rfl rfl <;> (simp [Int.natCast_add,Int.natCast_zero,Int.natCast_one,encS,valsI,votesI,u64D,t1,t2]; done))); (· (first | omega | (simp only; omega)))) | ((try simp only [*,lgc,reduceIte,reduceCtorEq] at hR); obtain ⟨rfl⟩:=hR; refine fin_q (rs:=[.tmp 2]) rfl ?_; (try simp only [go_sem,Nat.reduceLT,Nat.reduceAdd,Nat.reduceMul,reduceIte,Nat.reduceEqDiff,reduceCtorEq,Nat.reducePow,Nat.reduceLeDiff,Int.reduceLE,Int.reduceLT,Int.reduceToNat,Int.reduceEq,Nat.reduceBEq,encS,valsI,votesI,u64D,encV,encX]); (simp [encS,valsI,votesI,u64D,encV,encX]; done))))
   ·rw [hin trivial] at hR
    simp only [if_true] at hR
    clear hin
    (repeat' (first | (simp -implicitDefEqProofs only [go_sem,Nat.reduceLT,Nat.reduceAdd,Nat.reduceMul,reduceIte,Nat.reduceEqDiff,reduceCtorEq,Nat.reducePow,Nat.reduceLeDiff,Int.reduceLE,Int.reduceLT,Int.reduceToNat,Int.reduceEq,Nat.reduceBEq,encS,valsI,votesI,u64D,encV,encX,hdrD,sealD, *]) | (with_reducible refine ⟨?_,?_⟩; (· first | (obtain ⟨rfl⟩:=‹Hq _ _›; with_reducible refine chk_ok ?_; kernel_rfl) | kernel_rfl)) | (with_reducible intro ops hops) | (simp -implicitDefEqProofs (disch:=omega) only [wr64,wru64,get_lt]) | ((with_reducible refine call_id ?_); (first | ((with_reducible refine Call_fz (c5) ?_ ?_); (· (simp [encS,valsI,votesI,u64D,encV,encX,hdrD,sealD,and_assoc]; done))) | ((with_reducible refine Call_fl (c6) ?_ ?_ ?_); (· (simp [encS,valsI,votesI,u64D,encV,encX,hdrD,sealD]; done)); (· (simp [encS,valsI,votesI,u64D,encV,encX,hdrD,sealD,and_assoc]; done))))) | ((with_reducible refine callF_id ?_); (first | ((with_reducible refine CallF_fz (c5) ?_ ?_); (· (intro G hG; simp [encS,valsI,votesI,u64D,encV,encX,hdrD,sealD] at hG; simp [encS,valsI,votesI,u64D,encV,encX,hdrD,sealD,hG,and_assoc]; done))) | ((with_reducible refine CallF_fl (c6) ?_ ?_ ?_); (· (simp [encS,valsI,votesI,u64D,encV,encX,hdrD,sealD]; done)); (· (intro G hG; simp [encS,valsI,votesI,u64D,encV,encX,hdrD,sealD] at hG; simp [encS,valsI,votesI,u64D,encV,encX,hdrD,sealD,hG,and_assoc]; done))))) | ((first | refine Wc_split (fun hg=>?_) (fun hg=>?_) | refine RoG_split (fun hg=>?_) (fun hg=>?_) | refine RdG_split (fun hg=>?_) (fun hg=>?_)) <;> (try simp only [nrm] at hg) <;> (try simp only [hg,lgc,reduceIte,reduceCtorEq] at hR) <;> (try (exfalso; omega))) | ((try simp only [*,lgc,reduceIte,reduceCtorEq] at hR); obtain ⟨rfl⟩:=hR; refine fin_q (rs:=[.tmp 2]) rfl ?_; (try simp only [go_sem,Nat.reduceLT,Nat.reduceAdd,Nat.reduceMul,reduceIte,Nat.reduceEqDiff,reduceCtorEq,Nat.reducePow,Nat.reduceLeDiff,Int.reduceLE,Int.reduceLT,Int.reduceToNat,Int.reduceEq,Nat.reduceBEq,encS,valsI,votesI,u64D,encV,encX,hdrD,sealD]); (simp [encS,valsI,votesI,u64D,encV,encX,hdrD,sealD]; done))))
   ·clear hin hR
    (repeat' (first | (simp -implicitDefEqProofs only [go_sem,Nat.reduceLT,Nat.reduceAdd,Nat.reduceMul,reduceIte,Nat.reduceEqDiff,reduceCtorEq,Nat.reducePow,Nat.reduceLeDiff,Int.reduceLE,Int.reduceLT,Int.reduceToNat,Int.reduceEq,Nat.reduceBEq,encS,valsI,votesI,u64D,encV,encX,hdrD,sealD, *]) | (with_reducible refine ⟨?_,?_⟩; (· first | (obtain ⟨rfl⟩:=‹Hq _ _›; with_reducible refine chk_ok ?_; kernel_rfl) | kernel_rfl)) | (with_reducible intro ops hops) | (simp -implicitDefEqProofs (disch:=omega) only [wr64,wru64,get_lt]) | ((with_reducible refine call_id ?_); (first | ((with_reducible refine Call_fz (c5) ?_ ?_); (· (simp [encS,valsI,votesI,u64D,encV,encX,hdrD,sealD,and_assoc]; done))) | ((with_reducible refine Call_fl (c6) ?_ ?_ ?_); (· (simp [encS,valsI,votesI,u64D,encV,encX,hdrD,sealD]; done)); (· (simp [encS,valsI,votesI,u64D,encV,encX,hdrD,sealD,and_assoc]; done))))) | ((with_reducible refine callF_id ?_); (first | ((with_reducible refine CallF_fz (c5) ?_ ?_); (· (intro G hG; simp [encS,valsI,votesI,u64D,encV,encX,hdrD,sealD] at hG; simp [encS,valsI,votesI,u64D,encV,encX,hdrD,sealD,hG,and_assoc]; done))) | ((with_reducible refine CallF_fl (c6) ?_ ?_ ?_); (· (simp [encS,valsI,votesI,u64D,encV,encX,hdrD,sealD]; done)); (· (intro G hG; simp [encS,valsI,votesI,u64D,encV,encX,hdrD,sealD] at hG; simp [encS,valsI,votesI,u64D,encV,encX,hdrD,sealD,hG,and_assoc]; done))))) | ((first | refine Wc_split (fun hg=>?_) (fun hg=>?_) | refine RoG_split (fun hg=>?_) (fun hg=>?_) | refine RdG_split (fun hg=>?_) (fun hg=>?_)) <;> (try simp only [nrm] at hg) <;> (try simp only [hg,lgc,reduceIte,reduceCtorEq] at hR) <;> (try (exfalso; omega))) | (refine hL (i+1) _ (⟨h,t3⟩) ?_ ?_; (· (refine le_stOf _ _ [] [(100,100)] ?_ ?_ rfl rfl <;> (simp [Int.natCast_add,Int.natCast_zero,Int.natCast_one,encS,valsI,votesI,u64D,t1,t2]; done))); (· (first | omega | (simp only; omega)))) | ((try simp only [*,lgc,reduceIte,reduceCtorEq] at hR); obtain ⟨rfl⟩:=hR; refine fin_q (rs:=[.tmp 2]) rfl ?_; (try simp only [go_sem,Nat.reduceLT,Nat.reduceAdd,Nat.reduceMul,reduceIte,Nat.reduceEqDiff,reduceCtorEq,Nat.reducePow,Nat.reduceLeDiff,Int.reduceLE,Int.reduceLT,Int.reduceToNat,Int.reduceEq,Nat.reduceBEq,encS,valsI,votesI,u64D,encV,encX,hdrD,sealD]); (simp [encS,valsI,votesI,u64D,encV,encX,hdrD,sealD]; done))))
  ·have ht2:(s.vals.zip s.votes).take i=s.vals.zip s.votes:=List.take_of_length_le (by omega)
   have b1:=yes_le ok s.votes i
   have b2:=no_le ok s.votes i
   rw [ht2] at hbad b1 b2 ⊢
   rw [hbad] at hR
   simp only [Bool.false_eq_true,if_false] at hR
   have k1:(3 * (yesF (s.vals.zip s.votes):Int)≤2 * (sumP s.vals:Int))=((yesF (s.vals.zip s.votes):Int)≤2 * (noF (s.vals.zip s.votes):Int)):=propext (by omega)
   simp only [k1] at hR
   generalize yesF (s.vals.zip s.votes)=A at *
   generalize noF (s.vals.zip s.votes)=B at *
   have w1:IntKind.u64.wrap (2 * (B:Int))=2 * (B:Int):=by rw [IntKind.wrap_u64]; omega
   clear k1 hyn b1 b2 hbad hk hx ok c1 c2 c3 c4 c5
   (repeat' (first | (simp -implicitDefEqProofs only [go_sem,Nat.reduceLT,Nat.reduceAdd,Nat.reduceMul,reduceIte,Nat.reduceEqDiff,reduceCtorEq,Nat.reducePow,Nat.reduceLeDiff,Int.reduceLE,Int.reduceLT,Int.reduceToNat,Int.reduceEq,Nat.reduceBEq,encS,valsI,votesI,u64D, *]) | (with_reducible refine ⟨?_,?_⟩; (· first | (obtain ⟨rfl⟩:=‹Hq _ _›; with_reducible refine chk_ok ?_; kernel_rfl) | kernel_rfl)) | (with_reducible intro ops hops) | (simp -implicitDefEqProofs (disch:=omega) only [wr64,wru64,get_lt]) | ((first | refine Wc_split (fun hg=>?_) (fun hg=>?_) | refine RoG_split (fun hg=>?_) (fun hg=>?_) | refine RdG_split (fun hg=>?_) (fun hg=>?_)) <;> (try simp only [nrm] at hg) <;> (try simp only [hg,lgc,reduceIte,reduceCtorEq] at hR) <;> (try (exfalso; omega))) | ((try simp only [*,lgc,reduceIte,reduceCtorEq] at hR); obtain ⟨rfl⟩:=hR; refine fin_q (rs:=[.tmp 2]) rfl ?_; (try simp only [go_sem,Nat.reduceLT,Nat.reduceAdd,Nat.reduceMul,reduceIte,Nat.reduceEqDiff,reduceCtorEq,Nat.reducePow,Nat.reduceLeDiff,Int.reduceLE,Int.reduceLT,Int.reduceToNat,Int.reduceEq,Nat.reduceBEq,encS,valsI,votesI,u64D]); (simp [encS,valsI,votesI,u64D]; done))))
end Go.Proofs.Ytkodnlkgblkfdaa
