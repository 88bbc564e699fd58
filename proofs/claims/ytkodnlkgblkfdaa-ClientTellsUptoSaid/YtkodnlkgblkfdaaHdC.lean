/- header.Vals, Wrong, Bytes, own, power, Check: by value. (hdrD signedD) -/
import Derived.Test.YtkodnlkgblkfdaaHdB
set_option linter.all false
namespace Go.Proofs.Ytkodnlkgblkfdaa
open Go Go.Abs Go.RowKit Go.Proofs.Ytkodnlkgblkfdaa.Ty
set_option maxHeartbeats 4000000
def preV (l:List ValD) (i:Nat):Option ValD:=if i=0 then none else l[i - 1]?
theorem hvals_A (l:List ValD) (hl:l.length≤1048576):PureD Try.prog 39 [.i (valsI l)] (intD (valsW l)):=by
 refine hide_r fun R hR=>?_
 unfold valsW at hR
 refine callD_W 42 Try.func39 rfl rfl rfl (fun _ _=>rfl) ?_
 (repeat' (first | (simp -implicitDefEqProofs only [go_sem,Nat.reduceLT,Nat.reduceAdd,Nat.reduceMul,reduceIte,Nat.reduceEqDiff,reduceCtorEq,Nat.reducePow,Nat.reduceLeDiff,Int.reduceLE,Int.reduceLT,Int.reduceToNat,Int.reduceEq,Nat.reduceBEq,valsI,intD, *]) | (with_reducible refine ⟨?_,?_⟩; (· first | (obtain ⟨rfl⟩:=‹Hq _ _›; with_reducible refine chk_ok ?_; kernel_rfl) | kernel_rfl)) | (with_reducible intro ops hops) | (simp -implicitDefEqProofs (disch:=omega) only [wr64,wru64,get_lt]) | ((first | refine Wc_split (fun hg=>?_) (fun hg=>?_) | refine RoG_split (fun hg=>?_) (fun hg=>?_) | refine RdG_split (fun hg=>?_) (fun hg=>?_)) <;> (try simp only [nrm] at hg) <;> (try simp only [hg,lgc,reduceIte,reduceCtorEq] at hR) <;> (try (exfalso; omega))) | ((try simp only [*,lgc,reduceIte,reduceCtorEq] at hR); obtain ⟨rfl⟩:=hR; refine fin_q (rs:=[.tmp 2]) rfl ?_; (try simp only [go_sem,Nat.reduceLT,Nat.reduceAdd,Nat.reduceMul,reduceIte,Nat.reduceEqDiff,reduceCtorEq,Nat.reducePow,Nat.reduceLeDiff,Int.reduceLE,Int.reduceLT,Int.reduceToNat,Int.reduceEq,Nat.reduceBEq,valsI,intD]); (simp [valsI,intD]; done))))
 have hR':Hr (intD (valsE (preV l 0) (l.drop 0))) R:=hR
 clear hR
 refine W_loopI (ι:=Nat) (fun i=>i≤l.length∧Hr (intD (valsE (preV l i) (l.drop i))) R)
  (fun i=>stOf [(0,.i (valsI l)),(13,.i (valsI l)),(14,intD l.length),(15,intD i)] []) (fun i=>l.length - i) 0 ⟨Nat.zero_le _,hR'⟩ ?_ ?_
 ·(refine le_stOf _ _ [] [] ?_ ?_ rfl rfl <;> (simp [Int.natCast_add,Int.natCast_zero,Int.natCast_one,valsI]; done))
 ·rintro i ⟨hi,hR⟩
  clear hR'
  rw [stOf_eq]
  by_cases h:i < l.length
  ·have e1:=get_lt (f:=encV) h
   rw [List.drop_eq_getElem_cons h,valsE] at hR
   have hnx:preV l (i+1)=some l[i]:=by simp [preV,h]
   rw [← hnx] at hR
   cases i with
   | zero =>
    have hp:preV l 0=none:=rfl
    rw [hp] at hR
    simp only [Option.any_none,Bool.false_eq_true,if_false] at hR
    have hg0:¬ ((0:Int) < ((0:Nat):Int)):=by omega
    clear hp
    generalize l[0]=v at *
    clear hnx
    (repeat' (first | (simp -implicitDefEqProofs only [go_sem,Nat.reduceLT,Nat.reduceAdd,Nat.reduceMul,reduceIte,Nat.reduceEqDiff,reduceCtorEq,Nat.reducePow,Nat.reduceLeDiff,Int.reduceLE,Int.reduceLT,Int.reduceToNat,Int.reduceEq,Nat.reduceBEq,valsI,intD,encV,Int.natCast_zero, *]) | (with_reducible refine ⟨?_,?_⟩; (· first | (obtain ⟨rfl⟩:=‹Hq _ _›; with_reducible refine chk_ok ?_; kernel_rfl) | kernel_rfl)) | (with_reducible intro ops hops) | (simp -implicitDefEqProofs (disch:=omega) only [wr64,wru64,get_lt]) | ((first | refine Wc_split (fun hg=>?_) (fun hg=>?_) | refine RoG_split (fun hg=>?_) (fun hg=>?_) | refine RdG_split (fun hg=>?_) (fun hg=>?_)) <;> (try simp only [nrm] at hg) <;> (try simp only [hg,lgc,reduceIte,reduceCtorEq] at hR) <;> (try (exfalso; omega))) | (refine ⟨0+1,⟨h,hR⟩,?_,?_⟩; (· (refine le_stOf _ _ [] [] ?_ ?_ rfl rfl <;> (simp [Int.natCast_add,Int.natCast_zero,Int.natCast_one,valsI]; done))); (· (simp only; omega))) | ((try simp only [*,lgc,reduceIte,reduceCtorEq] at hR); obtain ⟨rfl⟩:=hR; refine fin_q (rs:=[.tmp 2]) rfl ?_; (try simp only [go_sem,Nat.reduceLT,Nat.reduceAdd,Nat.reduceMul,reduceIte,Nat.reduceEqDiff,reduceCtorEq,Nat.reducePow,Nat.reduceLeDiff,Int.reduceLE,Int.reduceLT,Int.reduceToNat,Int.reduceEq,Nat.reduceBEq,valsI,intD,encV,Int.natCast_zero]); (simp [valsI,intD,encV,Int.natCast_zero]; done))))
   | succ j =>
    have hj:j < l.length:=by omega
    have hp:preV l (j+1)=some l[j]:=by simp [preV,hj]
    have e2:=get_lt (f:=encV) hj
    rw [hp] at hR
    simp only [Option.any_some,decide_eq_true_eq] at hR
    have hg0:(0:Int) < ((j+1:Nat):Int):=by omega
    have w0:IntKind.i64.wrap (((j+1:Nat):Int) - 1)=(j:Int):=by rw [wrap64 (by omega) (by omega)]; omega
    generalize l[j+1]=v at *
    generalize l[j]=q at *
    clear hnx hp
    (repeat' (first | (simp -implicitDefEqProofs only [go_sem,Nat.reduceLT,Nat.reduceAdd,Nat.reduceMul,reduceIte,Nat.reduceEqDiff,reduceCtorEq,Nat.reducePow,Nat.reduceLeDiff,Int.reduceLE,Int.reduceLT,Int.reduceToNat,Int.reduceEq,Nat.reduceBEq,valsI,intD,encV, *]) | (with_reducible refine ⟨?_,?_⟩; (· first | (obtain ⟨rfl⟩:=‹Hq _ _›; with_reducible refine chk_ok ?_; kernel_rfl) | kernel_rfl)) | (with_reducible intro ops hops) | (simp -implicitDefEqProofs (disch:=omega) only [wr64,wru64,get_lt]) | ((first | refine Wc_split (fun hg=>?_) (fun hg=>?_) | refine RoG_split (fun hg=>?_) (fun hg=>?_) | refine RdG_split (fun hg=>?_) (fun hg=>?_)) <;> (try simp only [nrm] at hg) <;> (try simp only [hg,lgc,reduceIte,reduceCtorEq] at hR) <;> (try (exfalso; omega))) | (refine ⟨j+1+1,⟨h,hR⟩,?_,?_⟩; (· (refine le_stOf _ _ [] [] ?_ ?_ rfl rfl <;> (simp [Int.natCast_add,Int.natCast_zero,Int.natCast_one,valsI]; done))); (· (simp only; omega))) | ((try simp only [*,lgc,reduceIte,reduceCtorEq] at hR); obtain ⟨rfl⟩:=hR; refine fin_q (rs:=[.tmp 2]) rfl ?_; (try simp only [go_sem,Nat.reduceLT,Nat.reduceAdd,Nat.reduceMul,reduceIte,Nat.reduceEqDiff,reduceCtorEq,Nat.reducePow,Nat.reduceLeDiff,Int.reduceLE,Int.reduceLT,Int.reduceToNat,Int.reduceEq,Nat.reduceBEq,valsI,intD,encV]); (simp [valsI,intD,encV]; done))))
  ·rw [List.drop_eq_nil_of_le (by omega),valsE] at hR
   (repeat' (first | (simp -implicitDefEqProofs only [go_sem,Nat.reduceLT,Nat.reduceAdd,Nat.reduceMul,reduceIte,Nat.reduceEqDiff,reduceCtorEq,Nat.reducePow,Nat.reduceLeDiff,Int.reduceLE,Int.reduceLT,Int.reduceToNat,Int.reduceEq,Nat.reduceBEq,valsI,intD, *]) | (with_reducible refine ⟨?_,?_⟩; (· first | (obtain ⟨rfl⟩:=‹Hq _ _›; with_reducible refine chk_ok ?_; kernel_rfl) | kernel_rfl)) | (with_reducible intro ops hops) | (simp -implicitDefEqProofs (disch:=omega) only [wr64,wru64,get_lt]) | ((first | refine Wc_split (fun hg=>?_) (fun hg=>?_) | refine RoG_split (fun hg=>?_) (fun hg=>?_) | refine RdG_split (fun hg=>?_) (fun hg=>?_)) <;> (try simp only [nrm] at hg) <;> (try simp only [hg,lgc,reduceIte,reduceCtorEq] at hR) <;> (try (exfalso; omega))) | ((try simp only [*,lgc,reduceIte,reduceCtorEq] at hR); obtain ⟨rfl⟩:=hR; refine fin_q (rs:=[.tmp 2]) rfl ?_; (try simp only [go_sem,Nat.reduceLT,Nat.reduceAdd,Nat.reduceMul,reduceIte,Nat.reduceEqDiff,reduceCtorEq,Nat.reducePow,Nat.reduceLeDiff,Int.reduceLE,Int.reduceLT,Int.reduceToNat,Int.reduceEq,Nat.reduceBEq,valsI,intD]); (simp [valsI,intD]; done))))
theorem hwrong_A (h:HdrD):PureD Try.prog 52 [hdrD h] (intD (wrongH h)):=by
 refine hide_r fun R hR=>?_
 have c1:=hname_A h.c
 have c2:=hnum_A h.h
 have c3:=hnum_A h.t
 unfold wrongH at hR
 refine callD_W 41 Try.func52 rfl rfl rfl (fun _ _=>rfl) ?_
 (repeat' (first | (simp -implicitDefEqProofs only [go_sem,Nat.reduceLT,Nat.reduceAdd,Nat.reduceMul,reduceIte,Nat.reduceEqDiff,reduceCtorEq,Nat.reducePow,Nat.reduceLeDiff,Int.reduceLE,Int.reduceLT,Int.reduceToNat,Int.reduceEq,Nat.reduceBEq,hdrD,intD,boolD,bI,sD, *]) | (with_reducible refine ⟨?_,?_⟩; (· first | (obtain ⟨rfl⟩:=‹Hq _ _›; with_reducible refine chk_ok ?_; kernel_rfl) | kernel_rfl)) | (with_reducible intro ops hops) | (simp -implicitDefEqProofs (disch:=omega) only [wr64,wru64,get_lt]) | ((with_reducible refine call_id ?_); (first | ((with_reducible refine Call_fl (c1) ?_ ?_ ?_); (· (simp [hdrD,intD,boolD,bI,sD]; done)); (· (simp [hdrD,intD,boolD,bI,sD,and_assoc]; done))) | ((with_reducible refine Call_fl (c2) ?_ ?_ ?_); (· (simp [hdrD,intD,boolD,bI,sD]; done)); (· (simp [hdrD,intD,boolD,bI,sD,and_assoc]; done))) | ((with_reducible refine Call_fl (c3) ?_ ?_ ?_); (· (simp [hdrD,intD,boolD,bI,sD]; done)); (· (simp [hdrD,intD,boolD,bI,sD,and_assoc]; done))))) | ((with_reducible refine callF_id ?_); (first | ((with_reducible refine CallF_fl (c1) ?_ ?_ ?_); (· (simp [hdrD,intD,boolD,bI,sD]; done)); (· (intro G hG; simp [hdrD,intD,boolD,bI,sD] at hG; simp [hdrD,intD,boolD,bI,sD,hG,and_assoc]; done))) | ((with_reducible refine CallF_fl (c2) ?_ ?_ ?_); (· (simp [hdrD,intD,boolD,bI,sD]; done)); (· (intro G hG; simp [hdrD,intD,boolD,bI,sD] at hG; simp [hdrD,intD,boolD,bI,sD,hG,and_assoc]; done))) | ((with_reducible refine CallF_fl (c3) ?_ ?_ ?_); (· (simp [hdrD,intD,boolD,bI,sD]; done)); (· (intro G hG; simp [hdrD,intD,boolD,bI,sD] at hG; simp [hdrD,intD,boolD,bI,sD,hG,and_assoc]; done))))) | ((first | refine Wc_split (fun hg=>?_) (fun hg=>?_) | refine RoG_split (fun hg=>?_) (fun hg=>?_) | refine RdG_split (fun hg=>?_) (fun hg=>?_)) <;> (try simp only [nrm] at hg) <;> (try simp only [hg,lgc,reduceIte,reduceCtorEq] at hR) <;> (try (exfalso; omega))) | ((try simp only [*,lgc,reduceIte,reduceCtorEq] at hR); obtain ⟨rfl⟩:=hR; refine fin_q (rs:=[.tmp 2]) rfl ?_; (try simp only [go_sem,Nat.reduceLT,Nat.reduceAdd,Nat.reduceMul,reduceIte,Nat.reduceEqDiff,reduceCtorEq,Nat.reducePow,Nat.reduceLeDiff,Int.reduceLE,Int.reduceLT,Int.reduceToNat,Int.reduceEq,Nat.reduceBEq,hdrD,intD,boolD,bI,sD]); (simp [hdrD,intD,boolD,bI,sD]; done))))
theorem hbytes_A (h:HdrD) (h0:h.c.size≤1048576) (h1:h.root.length≤1048576) (h2:h.vals.length≤1048576) (h3:h.next.length≤1048576):PureD Try.prog 34 [hdrD h] (.i (bI (bytesH h))):=by
 refine hide_r fun R hR=>?_
 have c1:=hraw_A (unB h.c)
 have c2:=hnump_A (u64 h.h)
 have c3:=hnump_A (u64 h.t)
 have c4:=hraw_A h.root
 have c5:=hraw_A h.vals
 have c6:=hraw_A h.next
 have hsz:h.c.size≤140737488355328:=by omega
 have c7:=hpieces_A (pcsH h) (by simp [pcsH]) (by intro p hp; simp only [pcsH,rawB,numP,List.mem_cons,List.not_mem_nil,or_false] at hp; rcases hp with rfl | rfl | rfl | rfl | rfl | rfl <;> simp only [unB_len,List.length_nil] <;> omega)
  (by intro p hp; simp only [pcsH,rawB,numP,List.mem_cons,List.not_mem_nil,or_false] at hp; rcases hp with rfl | rfl | rfl | rfl | rfl | rfl <;> first | exact u64_lt _ | (simp only; omega))
 unfold bytesH at hR
 generalize (writeF (pcsH h)).1=W at *
 simp only [pcsH,rawB,numP,List.map_cons,List.map_nil,encP] at c7
 clear h0 h1 h2 h3
 refine callD_W 26 Try.func34 rfl rfl rfl (fun _ _=>rfl) ?_
 (repeat' (first | (simp -implicitDefEqProofs only [go_sem,Nat.reduceLT,Nat.reduceAdd,Nat.reduceMul,reduceIte,Nat.reduceEqDiff,reduceCtorEq,Nat.reducePow,Nat.reduceLeDiff,Int.reduceLE,Int.reduceLT,Int.reduceToNat,Int.reduceEq,Nat.reduceBEq,hdrD,u64D,bI,strI_un,wrap_u, *]) | (with_reducible refine ⟨?_,?_⟩; (· first | (obtain ⟨rfl⟩:=‹Hq _ _›; with_reducible refine chk_ok ?_; kernel_rfl) | kernel_rfl)) | (with_reducible intro ops hops) | (simp -implicitDefEqProofs (disch:=omega) only [wr64,wru64,get_lt]) | ((with_reducible refine call_id ?_); (first | ((with_reducible refine Call_fz (c1) ?_ ?_); (· (simp [hdrD,u64D,bI,strI_un,wrap_u,and_assoc]; done))) | ((with_reducible refine Call_fl (c2) ?_ ?_ ?_); (· (simp [hdrD,u64D,bI,strI_un,wrap_u]; done)); (· (simp [hdrD,u64D,bI,strI_un,wrap_u,and_assoc]; done))) | ((with_reducible refine Call_fz (c2) ?_ ?_); (· (simp [hdrD,u64D,bI,strI_un,wrap_u,and_assoc]; done))) | ((with_reducible refine Call_fz (c3) ?_ ?_); (· (simp [hdrD,u64D,bI,strI_un,wrap_u,and_assoc]; done))) | ((with_reducible refine Call_fz (c4) ?_ ?_); (· (simp [hdrD,u64D,bI,strI_un,wrap_u,and_assoc]; done))) | ((with_reducible refine Call_fz (c5) ?_ ?_); (· (simp [hdrD,u64D,bI,strI_un,wrap_u,and_assoc]; done))) | ((with_reducible refine Call_fz (c6) ?_ ?_); (· (simp [hdrD,u64D,bI,strI_un,wrap_u,and_assoc]; done))) | ((with_reducible refine Call_fz (c7) ?_ ?_); (· (simp [hdrD,u64D,bI,strI_un,wrap_u,and_assoc]; done))))) | ((with_reducible refine callF_id ?_); (first | ((with_reducible refine CallF_fz (c1) ?_ ?_); (· (intro G hG; simp [hdrD,u64D,bI,strI_un,wrap_u] at hG; simp [hdrD,u64D,bI,strI_un,wrap_u,hG,and_assoc]; done))) | ((with_reducible refine CallF_fl (c2) ?_ ?_ ?_); (· (simp [hdrD,u64D,bI,strI_un,wrap_u]; done)); (· (intro G hG; simp [hdrD,u64D,bI,strI_un,wrap_u] at hG; simp [hdrD,u64D,bI,strI_un,wrap_u,hG,and_assoc]; done))) | ((with_reducible refine CallF_fz (c2) ?_ ?_); (· (intro G hG; simp [hdrD,u64D,bI,strI_un,wrap_u] at hG; simp [hdrD,u64D,bI,strI_un,wrap_u,hG,and_assoc]; done))) | ((with_reducible refine CallF_fz (c3) ?_ ?_); (· (intro G hG; simp [hdrD,u64D,bI,strI_un,wrap_u] at hG; simp [hdrD,u64D,bI,strI_un,wrap_u,hG,and_assoc]; done))) | ((with_reducible refine CallF_fz (c4) ?_ ?_); (· (intro G hG; simp [hdrD,u64D,bI,strI_un,wrap_u] at hG; simp [hdrD,u64D,bI,strI_un,wrap_u,hG,and_assoc]; done))) | ((with_reducible refine CallF_fz (c5) ?_ ?_); (· (intro G hG; simp [hdrD,u64D,bI,strI_un,wrap_u] at hG; simp [hdrD,u64D,bI,strI_un,wrap_u,hG,and_assoc]; done))) | ((with_reducible refine CallF_fz (c6) ?_ ?_); (· (intro G hG; simp [hdrD,u64D,bI,strI_un,wrap_u] at hG; simp [hdrD,u64D,bI,strI_un,wrap_u,hG,and_assoc]; done))) | ((with_reducible refine CallF_fz (c7) ?_ ?_); (· (intro G hG; simp [hdrD,u64D,bI,strI_un,wrap_u] at hG; simp [hdrD,u64D,bI,strI_un,wrap_u,hG,and_assoc]; done))))) | ((first | refine Wc_split (fun hg=>?_) (fun hg=>?_) | refine RoG_split (fun hg=>?_) (fun hg=>?_) | refine RdG_split (fun hg=>?_) (fun hg=>?_)) <;> (try simp only [nrm] at hg) <;> (try simp only [hg,lgc,reduceIte,reduceCtorEq] at hR) <;> (try (exfalso; omega))) | ((try simp only [*,lgc,reduceIte,reduceCtorEq] at hR); obtain ⟨rfl⟩:=hR; refine fin_q (rs:=[.tmp 2]) rfl ?_; (try simp only [go_sem,Nat.reduceLT,Nat.reduceAdd,Nat.reduceMul,reduceIte,Nat.reduceEqDiff,reduceCtorEq,Nat.reducePow,Nat.reduceLeDiff,Int.reduceLE,Int.reduceLT,Int.reduceToNat,Int.reduceEq,Nat.reduceBEq,hdrD,u64D,bI,strI_un,wrap_u]); (simp [hdrD,u64D,bI,strI_un,wrap_u]; done))))
theorem zip_get {α β:Type} {l:List α} {m:List β} {i:Nat} (h:i < l.length) (h':i < m.length):(l.zip m)[i]'(by rw [List.length_zip]; omega)=(l[i],m[i]):=by simp
theorem yes_le {l:List ValD} (h:ValsOk l) (m:List VoteD) (i:Nat):yesF ((l.zip m).take i)≤10000000:=by
 have h1:=sum_le (f:=yesOf) (k:=1000000) (l:=(l.zip m).take i) (take_mem fun q hq=>by
  obtain ⟨v,x⟩:=q
  have:=h.pow v (List.of_mem_zip hq).1
  show (if x.is=true then v.p else 0)≤_
  split <;> omega)
 have h2:=h.len
 have h3:((l.zip m).take i).length≤10:=by rw [List.length_take,List.length_zip]; omega
 unfold yesF
 have:((l.zip m).take i).length * 1000000≤10 * 1000000:=Nat.mul_le_mul_right _ h3
 omega
structure HdrSm (h:HdrD):Prop where
 c:h.c.size≤1048576
 root:h.root.length≤1048576
 vals:h.vals.length≤1048576
 next:h.next.length≤1048576
theorem bytesH_len (h:HdrD):(bytesH h).length≤20000:=writeF_len _
theorem hpower_A (s:SignedD) (hs:HdrSm s.hdr) (hv:ValsOk s.vals) (hl:s.votes.length=s.vals.length) (hk:∀ v∈s.vals,v.k < 18446744073709551616) (hx:∀ x∈s.votes,x.r < 18446744073709551616∧x.s < 18446744073709551616) :
  PureD Try.prog 53 [.rp (encS s) 0] (.tup [u64D (sumP s.vals),u64D (yesF (s.vals.zip s.votes)),boolD (badF (bytesH s.hdr) (s.vals.zip s.votes))]):=by
 refine hide_r fun R hR=>?_
 have c1:=hbytes_A s.hdr hs.c hs.root hs.vals hs.next
 have hbl:=bytesH_len s.hdr
 have hlz:(s.vals.zip s.votes).length=s.vals.length:=by rw [List.length_zip]; omega
 have hle:=hv.len
 refine callD_W 57 Try.func53 rfl rfl rfl (fun _ _=>rfl) ?_
 (repeat' (first | (simp -implicitDefEqProofs only [go_sem,Nat.reduceLT,Nat.reduceAdd,Nat.reduceMul,reduceIte,Nat.reduceEqDiff,reduceCtorEq,Nat.reducePow,Nat.reduceLeDiff,Int.reduceLE,Int.reduceLT,Int.reduceToNat,Int.reduceEq,Nat.reduceBEq,encS,hdrD,bI,valsI,votesI,u64D,boolD, *]) | (with_reducible refine ⟨?_,?_⟩; (· first | (obtain ⟨rfl⟩:=‹Hq _ _›; with_reducible refine chk_ok ?_; kernel_rfl) | kernel_rfl)) | (with_reducible intro ops hops) | (simp -implicitDefEqProofs (disch:=omega) only [wr64,wru64,get_lt]) | ((with_reducible refine call_id ?_); (first | ((with_reducible refine Call_fz (c1) ?_ ?_); (· (simp [encS,hdrD,bI,valsI,votesI,u64D,boolD,and_assoc]; done))))) | ((with_reducible refine callF_id ?_); (first | ((with_reducible refine CallF_fz (c1) ?_ ?_); (· (intro G hG; simp [encS,hdrD,bI,valsI,votesI,u64D,boolD] at hG; simp [encS,hdrD,bI,valsI,votesI,u64D,boolD,hG,and_assoc]; done))))) | ((first | refine Wc_split (fun hg=>?_) (fun hg=>?_) | refine RoG_split (fun hg=>?_) (fun hg=>?_) | refine RdG_split (fun hg=>?_) (fun hg=>?_)) <;> (try simp only [nrm] at hg) <;> (try simp only [hg,lgc,reduceIte,reduceCtorEq] at hR) <;> (try (exfalso; omega))) | ((try simp only [*,lgc,reduceIte,reduceCtorEq] at hR); obtain ⟨rfl⟩:=hR; refine fin_q (rs:=[.tmp 2,.tmp 3,.tmp 4]) rfl ?_; (try simp only [go_sem,Nat.reduceLT,Nat.reduceAdd,Nat.reduceMul,reduceIte,Nat.reduceEqDiff,reduceCtorEq,Nat.reducePow,Nat.reduceLeDiff,Int.reduceLE,Int.reduceLT,Int.reduceToNat,Int.reduceEq,Nat.reduceBEq,encS,hdrD,bI,valsI,votesI,u64D,boolD]); (simp [encS,hdrD,bI,valsI,votesI,u64D,boolD]; done))))
 refine W_loopI (ι:=Nat) (fun i=>i≤s.vals.length)
  (fun i=>stOf [(0,.rp (encS s) 0),(5,.i (bI (bytesH s.hdr))),(2,u64D (sumP (s.vals.take i))),(3,u64D (yesF ((s.vals.zip s.votes).take i))),(4,boolD (badF (bytesH s.hdr) ((s.vals.zip s.votes).take i))),(16,.i (valsI s.vals)),(17,intD s.vals.length),(18,intD i)] []) (fun i=>s.vals.length - i) 0 (Nat.zero_le _) ?_ ?_
 ·(refine le_stOf _ _ [] [] ?_ ?_ rfl rfl <;> (simp [Int.natCast_add,Int.natCast_zero,Int.natCast_one,encS,valsI,votesI,u64D,sumP,yesF,badF]; done))
 ·rintro i hi
  rw [stOf_eq]
  by_cases h:i < s.vals.length
  ·have h2:i < s.votes.length:=by omega
   have e1:=get_lt (f:=encV) h
   have e2:=get_lt (f:=encX) h2
   have t1:sumP (s.vals.take (i+1))=sumP (s.vals.take i)+s.vals[i].p:=sum_take h
   have t2:yesF ((s.vals.zip s.votes).take (i+1))=yesF ((s.vals.zip s.votes).take i)+yesOf (s.vals.zip s.votes)[i]:=sum_take (by omega)
   have t3:badF (bytesH s.hdr) ((s.vals.zip s.votes).take (i+1))=(badF (bytesH s.hdr) ((s.vals.zip s.votes).take i) || badOf (bytesH s.hdr) (s.vals.zip s.votes)[i]):=any_take (by omega)
   have b1:=sumP_le hv i
   have b2:=yes_le hv s.votes i
   have b3:=hv.pow s.vals[i] (List.getElem_mem h)
   have c2:=good_A s.vals[i].k (bytesH s.hdr) s.votes[i].r s.votes[i].s (hk _ (List.getElem_mem h)) (hx _ (List.getElem_mem h2)).1 (hx _ (List.getElem_mem h2)).2 (by omega)
   rw [zip_get h h2] at t2 t3
   generalize s.vals[i]=v at *
   generalize s.votes[i]=x at *
   generalize sumP (s.vals.take i)=A at *
   generalize yesF ((s.vals.zip s.votes).take i)=B at *
   generalize badF (bytesH s.hdr) ((s.vals.zip s.votes).take i)=C at *
   unfold yesOf at t2
   unfold badOf at t3
   simp only at t2 t3
   have w1:IntKind.u64.wrap ((A:Int)+(v.p:Int))=((A+v.p:Nat):Int):=by rw [IntKind.wrap_u64]; omega
   have w2:IntKind.u64.wrap ((B:Int)+(v.p:Int))=((B+v.p:Nat):Int):=by rw [IntKind.wrap_u64]; omega
   clear hR b1 b2 b3 hlz hbl hv hk hx
   generalize bytesH s.hdr=M at *
   generalize goodF v.k M x.r x.s=G at *
   obtain ⟨xi,xr,xs⟩:=x
   cases xi <;> cases G <;> simp at t2 t3
   all_goals
    (repeat' (first | (simp -implicitDefEqProofs only [go_sem,Nat.reduceLT,Nat.reduceAdd,Nat.reduceMul,reduceIte,Nat.reduceEqDiff,reduceCtorEq,Nat.reducePow,Nat.reduceLeDiff,Int.reduceLE,Int.reduceLT,Int.reduceToNat,Int.reduceEq,Nat.reduceBEq,encS,hdrD,bI,valsI,votesI,u64D,boolD,intD,encV,encX,sealD, *]) | (with_reducible refine ⟨?_,?_⟩; (· first | (obtain ⟨rfl⟩:=‹Hq _ _›; with_reducible refine chk_ok ?_; kernel_rfl) | kernel_rfl)) | (with_reducible intro ops hops) | (simp -implicitDefEqProofs (disch:=omega) only [wr64,wru64,get_lt]) | ((with_reducible refine call_id ?_); (first | ((with_reducible refine Call_fl (c2) ?_ ?_ ?_); (· (simp [encS,hdrD,bI,valsI,votesI,u64D,boolD,intD,encV,encX,sealD]; done)); (· (simp [encS,hdrD,bI,valsI,votesI,u64D,boolD,intD,encV,encX,sealD,and_assoc]; done))))) | ((with_reducible refine callF_id ?_); (first | ((with_reducible refine CallF_fl (c2) ?_ ?_ ?_); (· (simp [encS,hdrD,bI,valsI,votesI,u64D,boolD,intD,encV,encX,sealD]; done)); (· (intro G hG; simp [encS,hdrD,bI,valsI,votesI,u64D,boolD,intD,encV,encX,sealD] at hG; simp [encS,hdrD,bI,valsI,votesI,u64D,boolD,intD,encV,encX,sealD,hG,and_assoc]; done))))) | ((first | refine Wc_split (fun hg=>?_) (fun hg=>?_) | refine RoG_split (fun hg=>?_) (fun hg=>?_) | refine RdG_split (fun hg=>?_) (fun hg=>?_)) <;> (try simp only [nrm] at hg) <;> (try simp only [hg,lgc,reduceIte,reduceCtorEq] at hR) <;> (try (exfalso; omega))) | (refine ⟨i+1,h,?_,?_⟩; (· (refine le_stOf _ _ [] [] ?_ ?_ rfl rfl <;> (simp [Int.natCast_add,Int.natCast_zero,Int.natCast_one,encS,valsI,votesI,u64D,t1,t2,t3,Bool.or_true,Bool.or_false]; done))); (· (simp only; omega))) | ((try simp only [*,lgc,reduceIte,reduceCtorEq] at hR); obtain ⟨rfl⟩:=hR; refine fin_q (rs:=[.tmp 2,.tmp 3,.tmp 4]) rfl ?_; (try simp only [go_sem,Nat.reduceLT,Nat.reduceAdd,Nat.reduceMul,reduceIte,Nat.reduceEqDiff,reduceCtorEq,Nat.reducePow,Nat.reduceLeDiff,Int.reduceLE,Int.reduceLT,Int.reduceToNat,Int.reduceEq,Nat.reduceBEq,encS,hdrD,bI,valsI,votesI,u64D,boolD,intD,encV,encX,sealD]); (simp [encS,hdrD,bI,valsI,votesI,u64D,boolD,intD,encV,encX,sealD]; done))))
  ·have ht:s.vals.take i=s.vals:=List.take_of_length_le (by omega)
   have ht2:(s.vals.zip s.votes).take i=s.vals.zip s.votes:=List.take_of_length_le (by omega)
   rw [ht,ht2]
   (repeat' (first | (simp -implicitDefEqProofs only [go_sem,Nat.reduceLT,Nat.reduceAdd,Nat.reduceMul,reduceIte,Nat.reduceEqDiff,reduceCtorEq,Nat.reducePow,Nat.reduceLeDiff,Int.reduceLE,Int.reduceLT,Int.reduceToNat,Int.reduceEq,Nat.reduceBEq,encS,hdrD,bI,valsI,votesI,u64D,boolD,intD, *]) | (with_reducible refine ⟨?_,?_⟩; (· first | (obtain ⟨rfl⟩:=‹Hq _ _›; with_reducible refine chk_ok ?_; kernel_rfl) | kernel_rfl)) | (with_reducible intro ops hops) | (simp -implicitDefEqProofs (disch:=omega) only [wr64,wru64,get_lt]) | ((first | refine Wc_split (fun hg=>?_) (fun hg=>?_) | refine RoG_split (fun hg=>?_) (fun hg=>?_) | refine RdG_split (fun hg=>?_) (fun hg=>?_)) <;> (try simp only [nrm] at hg) <;> (try simp only [hg,lgc,reduceIte,reduceCtorEq] at hR) <;> (try (exfalso; omega))) | ((try simp only [*,lgc,reduceIte,reduceCtorEq] at hR); obtain ⟨rfl⟩:=hR; refine fin_q (rs:=[.tmp 2,.tmp 3,.tmp 4]) rfl ?_; (try simp only [go_sem,Nat.reduceLT,Nat.reduceAdd,Nat.reduceMul,reduceIte,Nat.reduceEqDiff,reduceCtorEq,Nat.reducePow,Nat.reduceLeDiff,Int.reduceLE,Int.reduceLT,Int.reduceToNat,Int.reduceEq,Nat.reduceBEq,encS,hdrD,bI,valsI,votesI,u64D,boolD,intD]); (simp [encS,hdrD,bI,valsI,votesI,u64D,boolD,intD]; done))))
theorem valsV {l:List ValD} (h:ValsOk l) (hk:∀ v∈l,v.k < 18446744073709551616):∀ v∈l,v.k < 18446744073709551616∧v.p < 18446744073709551616:=fun v hv=>⟨hk v hv,by have:=h.pow v hv; omega⟩
theorem yes_all (l:List (ValD × VoteD)):yesF (l.take l.length)=yesF l:=by rw [List.take_length]
structure SgnSm (s:SignedD):Prop where
 h:HdrSm s.hdr
 len:s.vals.length≤1048576
 k:∀ v∈s.vals,v.k < 18446744073709551616∧v.p < 18446744073709551616
 x:∀ x∈s.votes,x.r < 18446744073709551616∧x.s < 18446744073709551616
theorem hcheck_A (s:SignedD) (hs:SgnSm s):PureD Try.prog 37 [signedD s] (intD (checkS s)):=by
 refine hide_r fun R hR=>?_
 have c1:=hwrong_A s.hdr
 have c2:=hvals_A s.vals (by have:=hs.len; omega)
 have c4:=equal_A (digestV s.vals) s.hdr.vals
 unfold checkS at hR
 by_cases hv:valsW s.vals=0
 ·have ok:=valsW_zero.1 hv
  have c3:=hdigest_A s.vals (by have:=ok.len; omega) hs.k
  by_cases hl:s.votes.length=s.vals.length
  ·have c5:=hpower_A s hs.h ok hl (fun v h=>(hs.k v h).1) hs.x
   have b1:=sumP_le ok s.vals.length
   have b2:=yes_le ok s.votes (s.vals.zip s.votes).length
   rw [List.take_length] at b1 b2
   have hl':(s.votes.length:Int)=s.vals.length:=by omega
   rw [hv] at hR c2
   generalize sumP s.vals=A at *
   generalize yesF (s.vals.zip s.votes)=B at *
   generalize badF (bytesH s.hdr) (s.vals.zip s.votes)=C at *
   have w1:IntKind.u64.wrap (3 * (B:Int))=3 * (B:Int):=by rw [IntKind.wrap_u64]; omega
   have w2:IntKind.u64.wrap (2 * (A:Int))=2 * (A:Int):=by rw [IntKind.wrap_u64]; omega
   generalize digestV s.vals=X at *
   generalize hW:wrongH s.hdr=Wr at *
   clear b1 b2 hv ok hl hW hs
   simp only [hl',if_true] at hR
   cases C
   all_goals
    refine callD_W 50 Try.func37 rfl rfl rfl (fun _ _=>rfl) ?_
    (repeat' (first | (simp -implicitDefEqProofs only [go_sem,Nat.reduceLT,Nat.reduceAdd,Nat.reduceMul,reduceIte,Nat.reduceEqDiff,reduceCtorEq,Nat.reducePow,Nat.reduceLeDiff,Int.reduceLE,Int.reduceLT,Int.reduceToNat,Int.reduceEq,Nat.reduceBEq,signedD,hdrD,encS,bI,valsI,votesI,u64D,boolD,intD, *]) | (with_reducible refine ⟨?_,?_⟩; (· first | (obtain ⟨rfl⟩:=‹Hq _ _›; with_reducible refine chk_ok ?_; kernel_rfl) | kernel_rfl)) | (with_reducible intro ops hops) | (simp -implicitDefEqProofs (disch:=omega) only [wr64,wru64,get_lt]) | ((with_reducible refine call_id ?_); (first | ((with_reducible refine Call_fl (c1) ?_ ?_ ?_); (· (simp [signedD,hdrD,encS,bI,valsI,votesI,u64D,boolD,intD]; done)); (· (simp [signedD,hdrD,encS,bI,valsI,votesI,u64D,boolD,intD,and_assoc]; done))) | ((with_reducible refine Call_fl (c2) ?_ ?_ ?_); (· (simp [signedD,hdrD,encS,bI,valsI,votesI,u64D,boolD,intD]; done)); (· (simp [signedD,hdrD,encS,bI,valsI,votesI,u64D,boolD,intD,and_assoc]; done))) | ((with_reducible refine Call_fz (c3) ?_ ?_); (· (simp [signedD,hdrD,encS,bI,valsI,votesI,u64D,boolD,intD,and_assoc]; done))) | ((with_reducible refine Call_fl (c4) ?_ ?_ ?_); (· (simp [signedD,hdrD,encS,bI,valsI,votesI,u64D,boolD,intD]; done)); (· (simp [signedD,hdrD,encS,bI,valsI,votesI,u64D,boolD,intD,and_assoc]; done))) | ((with_reducible refine Call_fl (c5) ?_ ?_ ?_); (· (simp [signedD,hdrD,encS,bI,valsI,votesI,u64D,boolD,intD]; done)); (· (simp [signedD,hdrD,encS,bI,valsI,votesI,u64D,boolD,intD,and_assoc]; done))))) | ((with_reducible refine callF_id ?_); (first | ((with_reducible refine CallF_fl (c1) ?_ ?_ ?_); (· (simp [signedD,hdrD,encS,bI,valsI,votesI,u64D,boolD,intD]; done)); (· (intro G hG; simp [signedD,hdrD,encS,bI,valsI,votesI,u64D,boolD,intD] at hG; simp [signedD,hdrD,encS,bI,valsI,votesI,u64D,boolD,intD,hG,and_assoc]; done))) | ((with_reducible refine CallF_fl (c2) ?_ ?_ ?_); (· (simp [signedD,hdrD,encS,bI,valsI,votesI,u64D,boolD,intD]; done)); (· (intro G hG; simp [signedD,hdrD,encS,bI,valsI,votesI,u64D,boolD,intD] at hG; simp [signedD,hdrD,encS,bI,valsI,votesI,u64D,boolD,intD,hG,and_assoc]; done))) | ((with_reducible refine CallF_fz (c3) ?_ ?_); (· (intro G hG; simp [signedD,hdrD,encS,bI,valsI,votesI,u64D,boolD,intD] at hG; simp [signedD,hdrD,encS,bI,valsI,votesI,u64D,boolD,intD,hG,and_assoc]; done))) | ((with_reducible refine CallF_fl (c4) ?_ ?_ ?_); (· (simp [signedD,hdrD,encS,bI,valsI,votesI,u64D,boolD,intD]; done)); (· (intro G hG; simp [signedD,hdrD,encS,bI,valsI,votesI,u64D,boolD,intD] at hG; simp [signedD,hdrD,encS,bI,valsI,votesI,u64D,boolD,intD,hG,and_assoc]; done))) | ((with_reducible refine CallF_fl (c5) ?_ ?_ ?_); (· (simp [signedD,hdrD,encS,bI,valsI,votesI,u64D,boolD,intD]; done)); (· (intro G hG; simp [signedD,hdrD,encS,bI,valsI,votesI,u64D,boolD,intD] at hG; simp [signedD,hdrD,encS,bI,valsI,votesI,u64D,boolD,intD,hG,and_assoc]; done))))) | ((first | refine Wc_split (fun hg=>?_) (fun hg=>?_) | refine RoG_split (fun hg=>?_) (fun hg=>?_) | refine RdG_split (fun hg=>?_) (fun hg=>?_)) <;> (try simp only [nrm] at hg) <;> (try simp only [hg,lgc,reduceIte,reduceCtorEq] at hR) <;> (try (exfalso; omega))) | ((try simp only [*,lgc,reduceIte,reduceCtorEq] at hR); obtain ⟨rfl⟩:=hR; refine fin_q (rs:=[.tmp 2]) rfl ?_; (try simp only [go_sem,Nat.reduceLT,Nat.reduceAdd,Nat.reduceMul,reduceIte,Nat.reduceEqDiff,reduceCtorEq,Nat.reducePow,Nat.reduceLeDiff,Int.reduceLE,Int.reduceLT,Int.reduceToNat,Int.reduceEq,Nat.reduceBEq,signedD,hdrD,encS,bI,valsI,votesI,u64D,boolD,intD]); (simp [signedD,hdrD,encS,bI,valsI,votesI,u64D,boolD,intD]; done))))
  ·have hl':¬ (s.votes.length:Int)=s.vals.length:=by omega
   rw [hv] at hR c2
   clear hs hv ok
   simp only [hl',if_false] at hR
   generalize digestV s.vals=X at *
   generalize hW:wrongH s.hdr=Wr at *
   clear hW hl
   refine callD_W 50 Try.func37 rfl rfl rfl (fun _ _=>rfl) ?_
   (repeat' (first | (simp -implicitDefEqProofs only [go_sem,Nat.reduceLT,Nat.reduceAdd,Nat.reduceMul,reduceIte,Nat.reduceEqDiff,reduceCtorEq,Nat.reducePow,Nat.reduceLeDiff,Int.reduceLE,Int.reduceLT,Int.reduceToNat,Int.reduceEq,Nat.reduceBEq,signedD,hdrD,encS,bI,valsI,votesI,u64D,boolD,intD, *]) | (with_reducible refine ⟨?_,?_⟩; (· first | (obtain ⟨rfl⟩:=‹Hq _ _›; with_reducible refine chk_ok ?_; kernel_rfl) | kernel_rfl)) | (with_reducible intro ops hops) | (simp -implicitDefEqProofs (disch:=omega) only [wr64,wru64,get_lt]) | ((with_reducible refine call_id ?_); (first | ((with_reducible refine Call_fl (c1) ?_ ?_ ?_); (· (simp [signedD,hdrD,encS,bI,valsI,votesI,u64D,boolD,intD]; done)); (· (simp [signedD,hdrD,encS,bI,valsI,votesI,u64D,boolD,intD,and_assoc]; done))) | ((with_reducible refine Call_fl (c2) ?_ ?_ ?_); (· (simp [signedD,hdrD,encS,bI,valsI,votesI,u64D,boolD,intD]; done)); (· (simp [signedD,hdrD,encS,bI,valsI,votesI,u64D,boolD,intD,and_assoc]; done))) | ((with_reducible refine Call_fz (c3) ?_ ?_); (· (simp [signedD,hdrD,encS,bI,valsI,votesI,u64D,boolD,intD,and_assoc]; done))) | ((with_reducible refine Call_fl (c4) ?_ ?_ ?_); (· (simp [signedD,hdrD,encS,bI,valsI,votesI,u64D,boolD,intD]; done)); (· (simp [signedD,hdrD,encS,bI,valsI,votesI,u64D,boolD,intD,and_assoc]; done))))) | ((with_reducible refine callF_id ?_); (first | ((with_reducible refine CallF_fl (c1) ?_ ?_ ?_); (· (simp [signedD,hdrD,encS,bI,valsI,votesI,u64D,boolD,intD]; done)); (· (intro G hG; simp [signedD,hdrD,encS,bI,valsI,votesI,u64D,boolD,intD] at hG; simp [signedD,hdrD,encS,bI,valsI,votesI,u64D,boolD,intD,hG,and_assoc]; done))) | ((with_reducible refine CallF_fl (c2) ?_ ?_ ?_); (· (simp [signedD,hdrD,encS,bI,valsI,votesI,u64D,boolD,intD]; done)); (· (intro G hG; simp [signedD,hdrD,encS,bI,valsI,votesI,u64D,boolD,intD] at hG; simp [signedD,hdrD,encS,bI,valsI,votesI,u64D,boolD,intD,hG,and_assoc]; done))) | ((with_reducible refine CallF_fz (c3) ?_ ?_); (· (intro G hG; simp [signedD,hdrD,encS,bI,valsI,votesI,u64D,boolD,intD] at hG; simp [signedD,hdrD,encS,bI,valsI,votesI,u64D,boolD,intD,hG,and_assoc]; done))) | ((with_reducible refine CallF_fl (c4) ?_ ?_ ?_); (· (simp [signedD,hdrD,encS,bI,valsI,votesI,u64D,boolD,intD]; done)); (· (intro G hG; simp [signedD,hdrD,encS,bI,valsI,votesI,u64D,boolD,intD] at hG; simp [signedD,hdrD,encS,bI,valsI,votesI,u64D,boolD,intD,hG,and_assoc]; done))))) | ((first | refine Wc_split (fun hg=>?_) (fun hg=>?_) | refine RoG_split (fun hg=>?_) (fun hg=>?_) | refine RdG_split (fun hg=>?_) (fun hg=>?_)) <;> (try simp only [nrm] at hg) <;> (try simp only [hg,lgc,reduceIte,reduceCtorEq] at hR) <;> (try (exfalso; omega))) | ((try simp only [*,lgc,reduceIte,reduceCtorEq] at hR); obtain ⟨rfl⟩:=hR; refine fin_q (rs:=[.tmp 2]) rfl ?_; (try simp only [go_sem,Nat.reduceLT,Nat.reduceAdd,Nat.reduceMul,reduceIte,Nat.reduceEqDiff,reduceCtorEq,Nat.reducePow,Nat.reduceLeDiff,Int.reduceLE,Int.reduceLT,Int.reduceToNat,Int.reduceEq,Nat.reduceBEq,signedD,hdrD,encS,bI,valsI,votesI,u64D,boolD,intD]); (simp [signedD,hdrD,encS,bI,valsI,votesI,u64D,boolD,intD]; done))))
 ·clear c4
  generalize hW:wrongH s.hdr=Wr at *
  generalize valsW s.vals=V at *
  clear hW hs
  simp only [hv,if_false] at hR
  refine callD_W 50 Try.func37 rfl rfl rfl (fun _ _=>rfl) ?_
  (repeat' (first | (simp -implicitDefEqProofs only [go_sem,Nat.reduceLT,Nat.reduceAdd,Nat.reduceMul,reduceIte,Nat.reduceEqDiff,reduceCtorEq,Nat.reducePow,Nat.reduceLeDiff,Int.reduceLE,Int.reduceLT,Int.reduceToNat,Int.reduceEq,Nat.reduceBEq,signedD,hdrD,encS,bI,valsI,votesI,u64D,boolD,intD, *]) | (with_reducible refine ⟨?_,?_⟩; (· first | (obtain ⟨rfl⟩:=‹Hq _ _›; with_reducible refine chk_ok ?_; kernel_rfl) | kernel_rfl)) | (with_reducible intro ops hops) | (simp -implicitDefEqProofs (disch:=omega) only [wr64,wru64,get_lt]) | ((with_reducible refine call_id ?_); (first | ((with_reducible refine Call_fl (c1) ?_ ?_ ?_); (· (simp [signedD,hdrD,encS,bI,valsI,votesI,u64D,boolD,intD]; done)); (· (simp [signedD,hdrD,encS,bI,valsI,votesI,u64D,boolD,intD,and_assoc]; done))) | ((with_reducible refine Call_fl (c2) ?_ ?_ ?_); (· (simp [signedD,hdrD,encS,bI,valsI,votesI,u64D,boolD,intD]; done)); (· (simp [signedD,hdrD,encS,bI,valsI,votesI,u64D,boolD,intD,and_assoc]; done))))) | ((with_reducible refine callF_id ?_); (first | ((with_reducible refine CallF_fl (c1) ?_ ?_ ?_); (· (simp [signedD,hdrD,encS,bI,valsI,votesI,u64D,boolD,intD]; done)); (· (intro G hG; simp [signedD,hdrD,encS,bI,valsI,votesI,u64D,boolD,intD] at hG; simp [signedD,hdrD,encS,bI,valsI,votesI,u64D,boolD,intD,hG,and_assoc]; done))) | ((with_reducible refine CallF_fl (c2) ?_ ?_ ?_); (· (simp [signedD,hdrD,encS,bI,valsI,votesI,u64D,boolD,intD]; done)); (· (intro G hG; simp [signedD,hdrD,encS,bI,valsI,votesI,u64D,boolD,intD] at hG; simp [signedD,hdrD,encS,bI,valsI,votesI,u64D,boolD,intD,hG,and_assoc]; done))))) | ((first | refine Wc_split (fun hg=>?_) (fun hg=>?_) | refine RoG_split (fun hg=>?_) (fun hg=>?_) | refine RdG_split (fun hg=>?_) (fun hg=>?_)) <;> (try simp only [nrm] at hg) <;> (try simp only [hg,lgc,reduceIte,reduceCtorEq] at hR) <;> (try (exfalso; omega))) | ((try simp only [*,lgc,reduceIte,reduceCtorEq] at hR); obtain ⟨rfl⟩:=hR; refine fin_q (rs:=[.tmp 2]) rfl ?_; (try simp only [go_sem,Nat.reduceLT,Nat.reduceAdd,Nat.reduceMul,reduceIte,Nat.reduceEqDiff,reduceCtorEq,Nat.reducePow,Nat.reduceLeDiff,Int.reduceLE,Int.reduceLT,Int.reduceToNat,Int.reduceEq,Nat.reduceBEq,signedD,hdrD,encS,bI,valsI,votesI,u64D,boolD,intD]); (simp [signedD,hdrD,encS,bI,valsI,votesI,u64D,boolD,intD]; done))))
end Go.Proofs.Ytkodnlkgblkfdaa
