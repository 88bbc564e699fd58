/- header.Overlap, Sign: by value. (hdrD signedD) -/
import Derived.Test.YtkodnlkgblkfdaaHdC
set_option linter.all false
namespace Go.Proofs.Ytkodnlkgblkfdaa
open Go Go.Abs Go.RowKit Go.Proofs.Ytkodnlkgblkfdaa.Ty
set_option maxHeartbeats 4000000
theorem hit_le {z:List (ValD × VoteD)} {t:ValD} (ht:t.p≤1000000) (hz:z.length≤10) (i:Nat):hitF (z.take i) t≤10000000:=by
 have h1:=sum_le (f:=hitOf t) (k:=1000000) (l:=z.take i) (fun q _=>by unfold hitOf; split <;> omega)
 have h3:(z.take i).length≤10:=by rw [List.length_take]; omega
 unfold hitF
 have:(z.take i).length * 1000000≤10 * 1000000:=Nat.mul_le_mul_right _ h3
 omega
theorem hits_le {z:List (ValD × VoteD)} {tr:List ValD} (ht:ValsOk tr) (hz:z.length≤10) (j:Nat):hitsF z (tr.take j)≤100000000:=by
 have h1:=sum_le (f:=hitF z) (k:=10000000) (l:=tr.take j) (take_mem fun t h=>by
  have:=hit_le (t:=t) (ht.pow t h).2 hz z.length
  rw [List.take_length] at this; exact this)
 have h2:=ht.len
 have h3:(tr.take j).length≤10:=by rw [List.length_take]; omega
 unfold hitsF
 have:(tr.take j).length * 10000000≤10 * 10000000:=Nat.mul_le_mul_right _ h3
 omega
theorem hover_A (tr:List ValD) (s:SignedD) (ht:ValsOk tr) (hv:ValsOk s.vals) (hl:s.votes.length=s.vals.length):PureD Try.prog 41 [.i (valsI tr),signedD s] (boolD (overF tr s)):=by
 refine hide_r fun R hR=>?_
 have hlen:=ht.len
 have hlz:(s.vals.zip s.votes).length=s.vals.length:=by rw [List.length_zip]; omega
 have hz10:(s.vals.zip s.votes).length≤10:=by have:=hv.len; omega
 have hsl:=hv.len
 unfold overF at hR
 generalize hz:s.vals.zip s.votes=z at *
 refine callD_W 52 Try.func41 rfl rfl rfl (fun _ _=>rfl) ?_
 (repeat' (first | (simp -implicitDefEqProofs only [go_sem,Nat.reduceLT,Nat.reduceAdd,Nat.reduceMul,reduceIte,Nat.reduceEqDiff,reduceCtorEq,Nat.reducePow,Nat.reduceLeDiff,Int.reduceLE,Int.reduceLT,Int.reduceToNat,Int.reduceEq,Nat.reduceBEq,signedD,bI,valsI,votesI,u64D,boolD,intD, *]) | (with_reducible refine ⟨?_,?_⟩; (· first | (obtain ⟨rfl⟩:=‹Hq _ _›; with_reducible refine chk_ok ?_; kernel_rfl) | kernel_rfl)) | (with_reducible intro ops hops) | (simp -implicitDefEqProofs (disch:=omega) only [wr64,wru64,get_lt]) | ((first | refine Wc_split (fun hg=>?_) (fun hg=>?_) | refine RoG_split (fun hg=>?_) (fun hg=>?_) | refine RdG_split (fun hg=>?_) (fun hg=>?_)) <;> (try simp only [nrm] at hg) <;> (try simp only [hg,lgc,reduceIte,reduceCtorEq] at hR) <;> (try (exfalso; omega))) | ((try simp only [*,lgc,reduceIte,reduceCtorEq] at hR); obtain ⟨rfl⟩:=hR; refine fin_q (rs:=[.tmp 4]) rfl ?_; (try simp only [go_sem,Nat.reduceLT,Nat.reduceAdd,Nat.reduceMul,reduceIte,Nat.reduceEqDiff,reduceCtorEq,Nat.reducePow,Nat.reduceLeDiff,Int.reduceLE,Int.reduceLT,Int.reduceToNat,Int.reduceEq,Nat.reduceBEq,signedD,bI,valsI,votesI,u64D,boolD,intD]); (simp [signedD,bI,valsI,votesI,u64D,boolD,intD]; done))))
 refine W_loopI (ι:=Nat) (fun j=>j≤tr.length)
  (fun j=>stOf [(3,.pt 100 0 0 0),(5,u64D (sumP (tr.take j))),(6,u64D (hitsF z (tr.take j))),(11,.i (valsI tr)),(12,intD tr.length),(13,intD j)] [(100,.box ((encS s).map .i))]) (fun j=>tr.length - j) 0 (Nat.zero_le _) ?_ ?_
 ·(refine le_stOf _ _ [] [(100,1000)] ?_ ?_ rfl rfl <;> (simp [Int.natCast_add,Int.natCast_zero,Int.natCast_one,encS,valsI,votesI,u64D,sumP,hitsF]; done))
 ·rintro j hj
  rw [stOf_eq]
  by_cases h:j < tr.length
  ·have e1:=get_lt (f:=encV) h
   have b1:=sumP_le ht j
   have b2:=hits_le ht hz10 j
   have b3:=ht.pow tr[j] (List.getElem_mem h)
   have t1:sumP (tr.take (j+1))=sumP (tr.take j)+tr[j].p:=sum_take h
   have t2:hitsF z (tr.take (j+1))=hitsF z (tr.take j)+hitF z tr[j]:=sum_take h
   generalize tr[j]=t at *
   generalize sumP (tr.take j)=A at *
   generalize hitsF z (tr.take j)=B at *
   have w1:IntKind.u64.wrap ((A:Int)+(t.p:Int))=((A+t.p:Nat):Int):=by rw [IntKind.wrap_u64]; omega
   (repeat' (first | (simp -implicitDefEqProofs only [go_sem,Nat.reduceLT,Nat.reduceAdd,Nat.reduceMul,reduceIte,Nat.reduceEqDiff,reduceCtorEq,Nat.reducePow,Nat.reduceLeDiff,Int.reduceLE,Int.reduceLT,Int.reduceToNat,Int.reduceEq,Nat.reduceBEq,encS,bI,valsI,votesI,u64D,boolD,intD,encV, *]) | (with_reducible refine ⟨?_,?_⟩; (· first | (obtain ⟨rfl⟩:=‹Hq _ _›; with_reducible refine chk_ok ?_; kernel_rfl) | kernel_rfl)) | (with_reducible intro ops hops) | (simp -implicitDefEqProofs (disch:=omega) only [wr64,wru64,get_lt]) | ((first | refine Wc_split (fun hg=>?_) (fun hg=>?_) | refine RoG_split (fun hg=>?_) (fun hg=>?_) | refine RdG_split (fun hg=>?_) (fun hg=>?_)) <;> (try simp only [nrm] at hg) <;> (try simp only [hg,lgc,reduceIte,reduceCtorEq] at hR) <;> (try (exfalso; omega))) | ((try simp only [*,lgc,reduceIte,reduceCtorEq] at hR); obtain ⟨rfl⟩:=hR; refine fin_q (rs:=[.tmp 4]) rfl ?_; (try simp only [go_sem,Nat.reduceLT,Nat.reduceAdd,Nat.reduceMul,reduceIte,Nat.reduceEqDiff,reduceCtorEq,Nat.reducePow,Nat.reduceLeDiff,Int.reduceLE,Int.reduceLT,Int.reduceToNat,Int.reduceEq,Nat.reduceBEq,encS,bI,valsI,votesI,u64D,boolD,intD,encV]); (simp [encS,bI,valsI,votesI,u64D,boolD,intD,encV]; done))))
   refine W_loopI (ι:=Nat) (fun i=>i≤s.vals.length)
    (fun i=>stOf [(3,.pt 100 0 0 0),(8,.pt 101 0 0 0),(5,u64D (A+t.p)),(6,u64D (B+hitF (z.take i) t)),(11,.i (valsI tr)),(12,intD tr.length),(13,intD j),(22,.i (valsI s.vals)),(23,intD s.vals.length),(24,intD i)] [(100,.box ((encS s).map .i)),(101,.box [.i (.s (.int .u64 t.k)),.i (.s (.int .u64 t.p))])]) (fun i=>s.vals.length - i) 0 (Nat.zero_le _) ?_ ?_
   ·(refine le_stOf _ _ [] [(100,100),(101,2026)] ?_ ?_ rfl rfl <;> (simp [Int.natCast_add,Int.natCast_zero,Int.natCast_one,encS,valsI,votesI,u64D,hitF]; done))
   ·rintro i hi
    rw [stOf_eq]
    by_cases h':i < s.vals.length
    ·have h2:i < s.votes.length:=by omega
     have e1:=get_lt (f:=encV) h'
     have e2:=get_lt (f:=encX) h2
     have b4:=hit_le (t:=t) b3.2 hz10 i
     have t3:hitF (z.take (i+1)) t=hitF (z.take i) t+hitOf t (z[i]'(by omega)):=sum_take (by omega)
     have hzi:z[i]'(by omega)=(s.vals[i],s.votes[i]):=by subst hz; exact zip_get h' h2
     rw [hzi] at t3
     clear hzi
     generalize s.vals[i]=v at *
     generalize s.votes[i]=x at *
     generalize hitF (z.take i) t=C at *
     rw [show hitOf t (v,x)=if v.k=t.k∧x.is=true then t.p else 0 from rfl] at t3
     have w2:IntKind.u64.wrap (((B+C:Nat):Int)+(t.p:Int))=((B+C+t.p:Nat):Int):=by rw [IntKind.wrap_u64]; omega
     have k1:((v.k:Int)=(t.k:Int))=(v.k=t.k):=propext (by omega)
     clear hR b1 b2 b3 b4 hlz hlen ht hv t1 t2 w1 hz hz10
     obtain ⟨xi,xr,xs⟩:=x
     by_cases hk:v.k=t.k <;> cases xi <;> simp only [hk,true_and,Bool.false_eq_true,if_false,if_true,and_self,false_and,and_false,Nat.add_zero] at t3
     all_goals
      (repeat' (first | (simp -implicitDefEqProofs only [go_sem,Nat.reduceLT,Nat.reduceAdd,Nat.reduceMul,reduceIte,Nat.reduceEqDiff,reduceCtorEq,Nat.reducePow,Nat.reduceLeDiff,Int.reduceLE,Int.reduceLT,Int.reduceToNat,Int.reduceEq,Nat.reduceBEq,encS,bI,valsI,votesI,u64D,boolD,intD,encV,encX, *]) | (with_reducible refine ⟨?_,?_⟩; (· first | (obtain ⟨rfl⟩:=‹Hq _ _›; with_reducible refine chk_ok ?_; kernel_rfl) | kernel_rfl)) | (with_reducible intro ops hops) | (simp -implicitDefEqProofs (disch:=omega) only [wr64,wru64,get_lt]) | ((first | refine Wc_split (fun hg=>?_) (fun hg=>?_) | refine RoG_split (fun hg=>?_) (fun hg=>?_) | refine RdG_split (fun hg=>?_) (fun hg=>?_)) <;> (try simp only [nrm] at hg) <;> (try simp only [hg,lgc,reduceIte,reduceCtorEq] at hR) <;> (try (exfalso; omega))) | (refine ⟨i+1,h',?_,?_⟩; (· (refine le_stOf _ _ [] [(100,100),(101,101)] ?_ ?_ rfl rfl <;> (simp [Int.natCast_add,Int.natCast_zero,Int.natCast_one,encS,valsI,votesI,u64D,t3,Nat.add_assoc,Int.add_assoc]; done))); (· (simp only; omega))) | ((try simp only [*,lgc,reduceIte,reduceCtorEq] at hR); obtain ⟨rfl⟩:=hR; refine fin_q (rs:=[.tmp 4]) rfl ?_; (try simp only [go_sem,Nat.reduceLT,Nat.reduceAdd,Nat.reduceMul,reduceIte,Nat.reduceEqDiff,reduceCtorEq,Nat.reducePow,Nat.reduceLeDiff,Int.reduceLE,Int.reduceLT,Int.reduceToNat,Int.reduceEq,Nat.reduceBEq,encS,bI,valsI,votesI,u64D,boolD,intD,encV,encX]); (simp [encS,bI,valsI,votesI,u64D,boolD,intD,encV,encX]; done))))
    ·have hti:z.take i=z:=List.take_of_length_le (by omega)
     rw [hti]
     clear hR b1 b2 b3 ht hv hlz hz10 hti w1
     (repeat' (first | (simp -implicitDefEqProofs only [go_sem,Nat.reduceLT,Nat.reduceAdd,Nat.reduceMul,reduceIte,Nat.reduceEqDiff,reduceCtorEq,Nat.reducePow,Nat.reduceLeDiff,Int.reduceLE,Int.reduceLT,Int.reduceToNat,Int.reduceEq,Nat.reduceBEq,encS,bI,valsI,votesI,u64D,boolD,intD, *]) | (with_reducible refine ⟨?_,?_⟩; (· first | (obtain ⟨rfl⟩:=‹Hq _ _›; with_reducible refine chk_ok ?_; kernel_rfl) | kernel_rfl)) | (with_reducible intro ops hops) | (simp -implicitDefEqProofs (disch:=omega) only [wr64,wru64,get_lt]) | ((first | refine Wc_split (fun hg=>?_) (fun hg=>?_) | refine RoG_split (fun hg=>?_) (fun hg=>?_) | refine RdG_split (fun hg=>?_) (fun hg=>?_)) <;> (try simp only [nrm] at hg) <;> (try simp only [hg,lgc,reduceIte,reduceCtorEq] at hR) <;> (try (exfalso; omega))) | (refine ⟨j+1,h,?_,?_⟩; (· (refine le_stOf _ _ [] [(100,100)] ?_ ?_ rfl rfl <;> (simp [Int.natCast_add,Int.natCast_zero,Int.natCast_one,encS,valsI,votesI,u64D,t1,t2]; done))); (· (simp only; omega))) | ((try simp only [*,lgc,reduceIte,reduceCtorEq] at hR); obtain ⟨rfl⟩:=hR; refine fin_q (rs:=[.tmp 4]) rfl ?_; (try simp only [go_sem,Nat.reduceLT,Nat.reduceAdd,Nat.reduceMul,reduceIte,Nat.reduceEqDiff,reduceCtorEq,Nat.reducePow,Nat.reduceLeDiff,Int.reduceLE,Int.reduceLT,Int.reduceToNat,Int.reduceEq,Nat.reduceBEq,encS,bI,valsI,votesI,u64D,boolD,intD]); (simp [encS,bI,valsI,votesI,u64D,boolD,intD]; done))))
  ·have htj:tr.take j=tr:=List.take_of_length_le (by omega)
   have b1:=sumP_le ht j
   have b2:=hits_le ht hz10 j
   rw [htj] at b1 b2 ⊢
   generalize sumP tr=A at *
   generalize hitsF z tr=B at *
   have w1:IntKind.u64.wrap (3 * (B:Int))=((3 * B:Nat):Int):=by rw [IntKind.wrap_u64]; omega
   have k1:decide ((A:Int) < ((3 * B:Nat):Int))=decide (A < 3 * B):=by congr 1; exact propext (by omega)
   clear b1 b2 ht hv hlz hz10 htj
   (repeat' (first | (simp -implicitDefEqProofs only [go_sem,Nat.reduceLT,Nat.reduceAdd,Nat.reduceMul,reduceIte,Nat.reduceEqDiff,reduceCtorEq,Nat.reducePow,Nat.reduceLeDiff,Int.reduceLE,Int.reduceLT,Int.reduceToNat,Int.reduceEq,Nat.reduceBEq,encS,bI,valsI,votesI,u64D,boolD,intD, *]) | (with_reducible refine ⟨?_,?_⟩; (· first | (obtain ⟨rfl⟩:=‹Hq _ _›; with_reducible refine chk_ok ?_; kernel_rfl) | kernel_rfl)) | (with_reducible intro ops hops) | (simp -implicitDefEqProofs (disch:=omega) only [wr64,wru64,get_lt]) | ((first | refine Wc_split (fun hg=>?_) (fun hg=>?_) | refine RoG_split (fun hg=>?_) (fun hg=>?_) | refine RdG_split (fun hg=>?_) (fun hg=>?_)) <;> (try simp only [nrm] at hg) <;> (try simp only [hg,lgc,reduceIte,reduceCtorEq] at hR) <;> (try (exfalso; omega))) | ((try simp only [*,lgc,reduceIte,reduceCtorEq] at hR); obtain ⟨rfl⟩:=hR; refine fin_q (rs:=[.tmp 4]) rfl ?_; (try simp only [go_sem,Nat.reduceLT,Nat.reduceAdd,Nat.reduceMul,reduceIte,Nat.reduceEqDiff,reduceCtorEq,Nat.reducePow,Nat.reduceLeDiff,Int.reduceLE,Int.reduceLT,Int.reduceToNat,Int.reduceEq,Nat.reduceBEq,encS,bI,valsI,votesI,u64D,boolD,intD]); (simp [encS,bI,valsI,votesI,u64D,boolD,intD]; done))))
def votesAt (h:HdrD) (seeds:List (List UInt8)) (vals:List ValD) (j i:Nat):List VoteD:=(vals.take i).map (voteF h (seeds.take (j+1)))++(vals.drop i).map (voteF h (seeds.take j))
theorem voteF_succ {h:HdrD} {seeds:List (List UInt8)} {v:ValD} {j:Nat} (hj:j < seeds.length):voteF h (seeds.take (j+1)) v=if v.k=keyF seeds[j] then ⟨true,sigR seeds[j] (bytesH h),sigS seeds[j] (bytesH h)⟩ else voteF h (seeds.take j) v:=by
 unfold voteF
 rw [List.take_succ_eq_append_getElem hj,List.foldl_append]; rfl
theorem votesAt_len (h:HdrD) (seeds:List (List UInt8)) (vals:List ValD) (j i:Nat):(votesAt h seeds vals j i).length=vals.length:=by
 simp [votesAt]; omega
theorem votesAt_end (h:HdrD) (seeds:List (List UInt8)) (vals:List ValD) (j:Nat):votesAt h seeds vals j vals.length=votesAt h seeds vals (j+1) 0:=by
 simp [votesAt]
theorem votesAt_set {h:HdrD} {seeds:List (List UInt8)} {vals:List ValD} {j i:Nat} (hi:i < vals.length):votesAt h seeds vals j (i+1)=(votesAt h seeds vals j i).set i (voteF h (seeds.take (j+1)) vals[i]):=by
 unfold votesAt
 have hl:((vals.take i).map (voteF h (seeds.take (j+1)))).length=i:=by simp; omega
 rw [List.set_append_right _ _ (by omega),hl,Nat.sub_self,List.take_succ_eq_append_getElem hi,List.map_append,List.drop_eq_getElem_cons hi,List.map_cons,List.map_cons,List.map_nil,List.set_cons_zero,List.append_assoc]
 rfl
theorem votesAt_get {h:HdrD} {seeds:List (List UInt8)} {vals:List ValD} {j i:Nat} (hi:i < vals.length):(votesAt h seeds vals j i)[i]?=some (voteF h (seeds.take j) vals[i]):=by
 unfold votesAt
 have hl:((vals.take i).map (voteF h (seeds.take (j+1)))).length=i:=by simp; omega
 rw [List.getElem?_append_right (by omega),hl,Nat.sub_self,List.drop_eq_getElem_cons hi]
 rfl
theorem votesAt_zero (h:HdrD) (seeds:List (List UInt8)) (vals:List ValD):votesAt h seeds vals 0 0=List.replicate vals.length ⟨false,0,0⟩:=by
 unfold votesAt voteF
 simp only [List.take_zero,List.map_nil,List.drop_zero,List.nil_append,List.foldl_nil]
 induction vals with
 | nil=>rfl
 | cons a t ih=>rw [List.map_cons,ih,List.length_cons,List.replicate_succ]
theorem votesAt_all (h:HdrD) (seeds:List (List UInt8)) (vals:List ValD):votesAt h seeds vals seeds.length 0=vals.map (voteF h seeds):=by
 unfold votesAt
 simp
theorem set_same {α:Type} {l:List α} {i:Nat} {x:α} (h:l[i]?=some x):l.set i x=l:=by
 apply List.ext_getElem?
 intro k
 rw [List.getElem?_set]
 split
 ·rename_i e; subst e; rw [h]; simp
  have:=(List.getElem?_eq_some_iff.1 h).1
  exact this
 ·rfl
structure SeedsSm (l:List (List UInt8)):Prop where
 len:l.length≤1048576
 b:∀ s∈l,s.length≤1048576
end Go.Proofs.Ytkodnlkgblkfdaa
