/- landref6.Overlap, SameSigned, Sign: by value. (hdrD signedD) -/
import Derived.Test.YtkodnlkgblkfdaaRHdD
import Derived.Test.YtkodnlkgblkfdaaGHd
set_option linter.all false
namespace Go.Proofs.Ytkodnlkgblkfdaa
open Go Go.Abs Go.RowKit Go.Proofs.Ytkodnlkgblkfdaa.Ty
def voteB (t:ValD) (q:ValD × VoteD):Bool:=decide (q.1.k=t.k) && q.2.is
def votB (z:List (ValD × VoteD)) (t:ValD):Bool:=z.any (voteB t)
theorem votB_take {z:List (ValD × VoteD)} {t:ValD} {i:Nat} (h:i < z.length):votB (z.take (i+1)) t=(votB (z.take i) t || voteB t z[i]):=any_take h
theorem hit_no {t:ValD}:∀ {z:List (ValD × VoteD)},(∀ q∈z,q.1.k≠t.k)→hitF z t=0∧votB z t=false
 | [],_=>⟨rfl,rfl⟩
 | a :: r,h=>by
  obtain ⟨h1,h2⟩:=hit_no (z:=r) (fun q hq=>h q (List.mem_cons_of_mem _ hq))
  have ha:=h a (List.mem_cons_self ..)
  unfold hitF votB at *
  rw [List.map_cons,List.sum_cons,h1,List.any_cons,h2]
  unfold hitOf voteB
  rw [if_neg (fun e=>ha e.1),decide_eq_false ha]
  exact ⟨rfl,rfl⟩
theorem hit_vot {t:ValD}:∀ {l:List ValD} {m:List VoteD},l.Pairwise (fun a b=>a.k < b.k)→hitF (l.zip m) t=if votB (l.zip m) t=true then t.p else 0
 | [],m,_=>by simp [hitF,votB]
 | a :: l,[],_=>by simp [hitF,votB]
 | a :: l,x :: m,hp=>by
  have hp':=List.pairwise_cons.1 hp
  by_cases ha:a.k=t.k
  ·obtain ⟨h1,h2⟩:=hit_no (t:=t) (z:=l.zip m) (fun q hq=>by
    obtain ⟨v,y⟩:=q
    have:=hp'.1 v (List.of_mem_zip hq).1
    simp only; omega)
   rw [List.zip_cons_cons]
   unfold hitF votB at *
   rw [List.map_cons,List.sum_cons,h1,List.any_cons,h2]
   unfold hitOf voteB
   simp [ha]
  ·have ih:=hit_vot (t:=t) (m:=m) hp'.2
   rw [List.zip_cons_cons]
   unfold hitF votB at *
   have z1:hitOf t (a,x)=0:=by unfold hitOf; rw [if_neg (fun e=>ha e.1)]
   have z2:voteB t (a,x)=false:=by unfold voteB; rw [decide_eq_false ha]; rfl
   rw [List.map_cons,List.sum_cons,ih,List.any_cons,z1,z2,Bool.false_or,Nat.zero_add]
theorem hits_le2 (z:List (ValD × VoteD)) {l:List ValD} {m:List VoteD} (hz:z=l.zip m) (hr:l.Pairwise fun a b=>a.k < b.k) (tr:List ValD):hitsF z tr≤sumP tr:=by
 subst hz
 exact sum_mono fun t _=>by rw [hit_vot hr]; split <;> omega
theorem hits_take {z:List (ValD × VoteD)} {tr:List ValD} {j:Nat} (h:j < tr.length):hitsF z (tr.take (j+1))=hitsF z (tr.take j)+hitF z tr[j]:=sum_take h
set_option maxHeartbeats 8000000
theorem rover_A (tr:List ValD) (s:SignedD) (ht:ValsOk tr) (hv:ValsOk s.vals) (hl:s.votes.length=s.vals.length):PureD Try.prog 48 [.i (valsI tr),signedD s] (boolD (overF tr s)):=by
 refine hide_r fun R hR=>?_
 have hlen:=ht.len
 have hsl:=hv.len
 have hrise:=hv.rise
 have hlz:(s.vals.zip s.votes).length=s.vals.length:=by rw [List.length_zip]; omega
 unfold overF at hR
 refine callD_W 57 Try.func48 rfl rfl rfl (fun _ _=>rfl) ?_
 (repeat' (first | (simp -implicitDefEqProofs only [go_sem,Nat.reduceLT,Nat.reduceAdd,Nat.reduceMul,reduceIte,Nat.reduceEqDiff,reduceCtorEq,Nat.reducePow,Nat.reduceLeDiff,Int.reduceLE,Int.reduceLT,Int.reduceToNat,Int.reduceEq,Nat.reduceBEq,signedD,valsI,votesI,u64D, *]) | (with_reducible refine ⟨?_,?_⟩; (· first | (obtain ⟨rfl⟩:=‹Hq _ _›; with_reducible refine chk_ok ?_; kernel_rfl) | kernel_rfl)) | (with_reducible intro ops hops) | (simp -implicitDefEqProofs (disch:=omega) only [wr64,wru64,get_lt]) | ((first | refine Wc_split (fun hg=>?_) (fun hg=>?_) | refine RoG_split (fun hg=>?_) (fun hg=>?_) | refine RdG_split (fun hg=>?_) (fun hg=>?_)) <;> (try simp only [nrm] at hg) <;> (try simp only [hg,lgc,reduceIte,reduceCtorEq] at hR) <;> (try (exfalso; omega))) | ((try simp only [*,lgc,reduceIte,reduceCtorEq] at hR); obtain ⟨rfl⟩:=hR; refine fin_q (rs:=[.tmp 4]) rfl ?_; (try simp only [go_sem,Nat.reduceLT,Nat.reduceAdd,Nat.reduceMul,reduceIte,Nat.reduceEqDiff,reduceCtorEq,Nat.reducePow,Nat.reduceLeDiff,Int.reduceLE,Int.reduceLT,Int.reduceToNat,Int.reduceEq,Nat.reduceBEq,signedD,valsI,votesI,u64D]); (simp [signedD,valsI,votesI,u64D]; done))))
 refine W_loopR (ι:=Nat) (fun j=>j≤tr.length)
  (fun j=>stOf [(3,.pt 100 0 0 0),(5,u64D (hitsF (s.vals.zip s.votes) (tr.take j))),(6,u64D (sumP (tr.take j) - hitsF (s.vals.zip s.votes) (tr.take j))),(12,.i (valsI tr)),(13,intD tr.length),(14,intD j)] [(100,.box ((encS s).map .i))]) (fun j=>tr.length - j) 0 (Nat.zero_le _) ?_ ?_
 ·(refine le_stOf _ _ [] [(100,1000)] ?_ ?_ rfl rfl <;> (simp [Int.natCast_add,Int.natCast_zero,Int.natCast_one,encS,valsI,votesI,u64D,sumP,hitsF]; done))
 ·rintro j hj RL hL
  rw [stOf_eq]
  by_cases h:j < tr.length
  ·have e1:=get_lt (f:=encV) h
   have b1:=sumP_le ht j
   have b2:=hits_le2 _ rfl hrise (m:=s.votes) (tr.take j)
   have b3:=ht.pow tr[j] (List.getElem_mem h)
   have t1:sumP (tr.take (j+1))=sumP (tr.take j)+tr[j].p:=sum_take h
   have t2:=hits_take (z:=s.vals.zip s.votes) h
   rw [hit_vot hrise] at t2
   generalize tr[j]=t at *
   generalize sumP (tr.take j)=A at *
   generalize hitsF (s.vals.zip s.votes) (tr.take j)=B at *
   have w1:IntKind.u64.wrap ((B:Int)+(t.p:Int))=((B+t.p:Nat):Int):=by rw [IntKind.wrap_u64]; omega
   have w2:IntKind.u64.wrap (((A - B:Nat):Int)+(t.p:Int))=((A - B+t.p:Nat):Int):=by rw [IntKind.wrap_u64]; omega
   clear hR
   (repeat' (first | (simp -implicitDefEqProofs only [go_sem,Nat.reduceLT,Nat.reduceAdd,Nat.reduceMul,reduceIte,Nat.reduceEqDiff,reduceCtorEq,Nat.reducePow,Nat.reduceLeDiff,Int.reduceLE,Int.reduceLT,Int.reduceToNat,Int.reduceEq,Nat.reduceBEq,encS,valsI,votesI,u64D,encV, *]) | (with_reducible refine ⟨?_,?_⟩; (· first | (obtain ⟨rfl⟩:=‹Hq _ _›; with_reducible refine chk_ok ?_; kernel_rfl) | kernel_rfl)) | (with_reducible intro ops hops) | (simp -implicitDefEqProofs (disch:=omega) only [wr64,wru64,get_lt]) | ((first | refine Wc_split (fun hg=>?_) (fun hg=>?_) | refine RoG_split (fun hg=>?_) (fun hg=>?_) | refine RdG_split (fun hg=>?_) (fun hg=>?_)) <;> (try simp only [nrm] at hg) <;> (try simp only [hg,lgc,reduceIte,reduceCtorEq] at hR) <;> (try (exfalso; omega))) | ((try simp only [*,lgc,reduceIte,reduceCtorEq] at hR); obtain ⟨rfl⟩:=hR; refine fin_q (rs:=[.tmp 4]) rfl ?_; (try simp only [go_sem,Nat.reduceLT,Nat.reduceAdd,Nat.reduceMul,reduceIte,Nat.reduceEqDiff,reduceCtorEq,Nat.reducePow,Nat.reduceLeDiff,Int.reduceLE,Int.reduceLT,Int.reduceToNat,Int.reduceEq,Nat.reduceBEq,encS,valsI,votesI,u64D,encV]); (simp [encS,valsI,votesI,u64D,encV]; done))))
   refine W_loopR (ι:=Nat) (fun i=>i≤s.vals.length)
    (fun i=>stOf [(3,.pt 100 0 0 0),(8,.pt 101 0 0 0),(5,u64D B),(6,u64D (A - B)),(9,boolD (votB ((s.vals.zip s.votes).take i) t)),(12,.i (valsI tr)),(13,intD tr.length),(14,intD j),(19,.i (valsI s.vals)),(20,intD s.vals.length),(21,intD i)] [(100,.box ((encS s).map .i)),(101,.box [.i (.s (.int .u64 t.k)),.i (.s (.int .u64 t.p))])]) (fun i=>s.vals.length - i) 0 (Nat.zero_le _) ?_ ?_
   ·(refine le_stOf _ _ [] [(100,100),(101,2026)] ?_ ?_ rfl rfl <;> (simp [Int.natCast_add,Int.natCast_zero,Int.natCast_one,encS,valsI,votesI,u64D,votB]; done))
   ·rintro i hi RL2 hL2
    rw [stOf_eq]
    by_cases h':i < s.vals.length
    ·have h2:i < s.votes.length:=by omega
     have e1:=get_lt (f:=encV) h'
     have e2:=get_lt (f:=encX) h2
     have t3:=votB_take (z:=s.vals.zip s.votes) (t:=t) (i:=i) (by omega)
     rw [zip_get h' h2] at t3
     generalize s.vals[i]=v at *
     generalize s.votes[i]=x at *
     generalize votB ((s.vals.zip s.votes).take i) t=C at *
     rw [show voteB t (v,x)=(decide (v.k=t.k) && x.is) from rfl] at t3
     have k1:((v.k:Int)=(t.k:Int))=(v.k=t.k):=propext (by omega)
     clear b1 b2 b3 t1 t2 w1 w2 ht hv hlz hrise
     obtain ⟨xi,xr,xs⟩:=x
     cases C
     ·by_cases hk:v.k=t.k <;> cases xi <;> simp [hk] at t3
      all_goals
       (repeat' (first | (simp -implicitDefEqProofs only [go_sem,Nat.reduceLT,Nat.reduceAdd,Nat.reduceMul,reduceIte,Nat.reduceEqDiff,reduceCtorEq,Nat.reducePow,Nat.reduceLeDiff,Int.reduceLE,Int.reduceLT,Int.reduceToNat,Int.reduceEq,Nat.reduceBEq,encS,valsI,votesI,u64D,encV,encX, *]) | (with_reducible refine ⟨?_,?_⟩; (· first | (obtain ⟨rfl⟩:=‹Hq _ _›; with_reducible refine chk_ok ?_; kernel_rfl) | kernel_rfl)) | (with_reducible intro ops hops) | (simp -implicitDefEqProofs (disch:=omega) only [wr64,wru64,get_lt]) | ((first | refine Wc_split (fun hg=>?_) (fun hg=>?_) | refine RoG_split (fun hg=>?_) (fun hg=>?_) | refine RdG_split (fun hg=>?_) (fun hg=>?_)) <;> (try simp only [nrm] at hg) <;> (try simp only [hg,lgc,reduceIte,reduceCtorEq] at hR) <;> (try (exfalso; omega))) | (refine hL2 (i+1) _ (h') ?_ ?_; (· (refine le_stOf _ _ [] [(100,100),(101,101)] ?_ ?_ rfl rfl <;> (simp [Int.natCast_add,Int.natCast_zero,Int.natCast_one,encS,valsI,votesI,u64D,t3]; done))); (· (first | omega | (simp only; omega)))) | ((try simp only [*,lgc,reduceIte,reduceCtorEq] at hR); obtain ⟨rfl⟩:=hR; refine fin_q (rs:=[.tmp 4]) rfl ?_; (try simp only [go_sem,Nat.reduceLT,Nat.reduceAdd,Nat.reduceMul,reduceIte,Nat.reduceEqDiff,reduceCtorEq,Nat.reducePow,Nat.reduceLeDiff,Int.reduceLE,Int.reduceLT,Int.reduceToNat,Int.reduceEq,Nat.reduceBEq,encS,valsI,votesI,u64D,encV,encX]); (simp [encS,valsI,votesI,u64D,encV,encX]; done))))
     ·simp only [Bool.true_or] at t3
      (repeat' (first | (simp -implicitDefEqProofs only [go_sem,Nat.reduceLT,Nat.reduceAdd,Nat.reduceMul,reduceIte,Nat.reduceEqDiff,reduceCtorEq,Nat.reducePow,Nat.reduceLeDiff,Int.reduceLE,Int.reduceLT,Int.reduceToNat,Int.reduceEq,Nat.reduceBEq,encS,valsI,votesI,u64D,encV,encX, *]) | (with_reducible refine ⟨?_,?_⟩; (· first | (obtain ⟨rfl⟩:=‹Hq _ _›; with_reducible refine chk_ok ?_; kernel_rfl) | kernel_rfl)) | (with_reducible intro ops hops) | (simp -implicitDefEqProofs (disch:=omega) only [wr64,wru64,get_lt]) | ((first | refine Wc_split (fun hg=>?_) (fun hg=>?_) | refine RoG_split (fun hg=>?_) (fun hg=>?_) | refine RdG_split (fun hg=>?_) (fun hg=>?_)) <;> (try simp only [nrm] at hg) <;> (try simp only [hg,lgc,reduceIte,reduceCtorEq] at hR) <;> (try (exfalso; omega))) | (refine hL2 (i+1) _ (h') ?_ ?_; (· (refine le_stOf _ _ [] [(100,100),(101,101)] ?_ ?_ rfl rfl <;> (simp [Int.natCast_add,Int.natCast_zero,Int.natCast_one,encS,valsI,votesI,u64D,t3]; done))); (· (first | omega | (simp only; omega)))) | ((try simp only [*,lgc,reduceIte,reduceCtorEq] at hR); obtain ⟨rfl⟩:=hR; refine fin_q (rs:=[.tmp 4]) rfl ?_; (try simp only [go_sem,Nat.reduceLT,Nat.reduceAdd,Nat.reduceMul,reduceIte,Nat.reduceEqDiff,reduceCtorEq,Nat.reducePow,Nat.reduceLeDiff,Int.reduceLE,Int.reduceLT,Int.reduceToNat,Int.reduceEq,Nat.reduceBEq,encS,valsI,votesI,u64D,encV,encX]); (simp [encS,valsI,votesI,u64D,encV,encX]; done))))
    ·have hti:(s.vals.zip s.votes).take i=s.vals.zip s.votes:=List.take_of_length_le (by omega)
     rw [hti]
     generalize votB (s.vals.zip s.votes) t=C at *
     cases C
     ·simp only [Bool.false_eq_true,if_false,Nat.add_zero] at t2
      have q1:A+t.p - B=A - B+t.p:=by omega
      clear b1 b2 b3 w1 ht hv hlz hti hrise
      (repeat' (first | (simp -implicitDefEqProofs only [go_sem,Nat.reduceLT,Nat.reduceAdd,Nat.reduceMul,reduceIte,Nat.reduceEqDiff,reduceCtorEq,Nat.reducePow,Nat.reduceLeDiff,Int.reduceLE,Int.reduceLT,Int.reduceToNat,Int.reduceEq,Nat.reduceBEq,encS,valsI,votesI,u64D, *]) | (with_reducible refine ⟨?_,?_⟩; (· first | (obtain ⟨rfl⟩:=‹Hq _ _›; with_reducible refine chk_ok ?_; kernel_rfl) | kernel_rfl)) | (with_reducible intro ops hops) | (simp -implicitDefEqProofs (disch:=omega) only [wr64,wru64,get_lt]) | ((first | refine Wc_split (fun hg=>?_) (fun hg=>?_) | refine RoG_split (fun hg=>?_) (fun hg=>?_) | refine RdG_split (fun hg=>?_) (fun hg=>?_)) <;> (try simp only [nrm] at hg) <;> (try simp only [hg,lgc,reduceIte,reduceCtorEq] at hR) <;> (try (exfalso; omega))) | (refine hL (j+1) _ (h) ?_ ?_; (· (refine le_stOf _ _ [] [(100,100)] ?_ ?_ rfl rfl <;> (simp [Int.natCast_add,Int.natCast_zero,Int.natCast_one,encS,valsI,votesI,u64D,t1,t2,q1]; done))); (· (first | omega | (simp only; omega)))) | ((try simp only [*,lgc,reduceIte,reduceCtorEq] at hR); obtain ⟨rfl⟩:=hR; refine fin_q (rs:=[.tmp 4]) rfl ?_; (try simp only [go_sem,Nat.reduceLT,Nat.reduceAdd,Nat.reduceMul,reduceIte,Nat.reduceEqDiff,reduceCtorEq,Nat.reducePow,Nat.reduceLeDiff,Int.reduceLE,Int.reduceLT,Int.reduceToNat,Int.reduceEq,Nat.reduceBEq,encS,valsI,votesI,u64D]); (simp [encS,valsI,votesI,u64D]; done))))
     ·simp only [if_true] at t2
      have q1:A+t.p - (B+t.p)=A - B:=by omega
      clear b1 b2 b3 w2 ht hv hlz hti hrise
      (repeat' (first | (simp -implicitDefEqProofs only [go_sem,Nat.reduceLT,Nat.reduceAdd,Nat.reduceMul,reduceIte,Nat.reduceEqDiff,reduceCtorEq,Nat.reducePow,Nat.reduceLeDiff,Int.reduceLE,Int.reduceLT,Int.reduceToNat,Int.reduceEq,Nat.reduceBEq,encS,valsI,votesI,u64D, *]) | (with_reducible refine ⟨?_,?_⟩; (· first | (obtain ⟨rfl⟩:=‹Hq _ _›; with_reducible refine chk_ok ?_; kernel_rfl) | kernel_rfl)) | (with_reducible intro ops hops) | (simp -implicitDefEqProofs (disch:=omega) only [wr64,wru64,get_lt]) | ((first | refine Wc_split (fun hg=>?_) (fun hg=>?_) | refine RoG_split (fun hg=>?_) (fun hg=>?_) | refine RdG_split (fun hg=>?_) (fun hg=>?_)) <;> (try simp only [nrm] at hg) <;> (try simp only [hg,lgc,reduceIte,reduceCtorEq] at hR) <;> (try (exfalso; omega))) | (refine hL (j+1) _ (h) ?_ ?_; (· (refine le_stOf _ _ [] [(100,100)] ?_ ?_ rfl rfl <;> (simp [Int.natCast_add,Int.natCast_zero,Int.natCast_one,encS,valsI,votesI,u64D,t1,t2,q1]; done))); (· (first | omega | (simp only; omega)))) | ((try simp only [*,lgc,reduceIte,reduceCtorEq] at hR); obtain ⟨rfl⟩:=hR; refine fin_q (rs:=[.tmp 4]) rfl ?_; (try simp only [go_sem,Nat.reduceLT,Nat.reduceAdd,Nat.reduceMul,reduceIte,Nat.reduceEqDiff,reduceCtorEq,Nat.reducePow,Nat.reduceLeDiff,Int.reduceLE,Int.reduceLT,Int.reduceToNat,Int.reduceEq,Nat.reduceBEq,encS,valsI,votesI,u64D]); (simp [encS,valsI,votesI,u64D]; done))))
  ·have htj:tr.take j=tr:=List.take_of_length_le (by omega)
   have b1:=sumP_le ht j
   have b2:=hits_le2 _ rfl hrise (m:=s.votes) tr
   rw [htj] at b1 ⊢
   generalize sumP tr=A at *
   generalize hitsF (s.vals.zip s.votes) tr=B at *
   have w1:IntKind.u64.wrap (2 * (B:Int))=((2 * B:Nat):Int):=by rw [IntKind.wrap_u64]; omega
   have k1:decide (((A - B:Nat):Int) < ((2 * B:Nat):Int))=decide (A < 3 * B):=by congr 1; exact propext (by omega)
   clear b1 b2 ht hv hlz htj hrise
   (repeat' (first | (simp -implicitDefEqProofs only [go_sem,Nat.reduceLT,Nat.reduceAdd,Nat.reduceMul,reduceIte,Nat.reduceEqDiff,reduceCtorEq,Nat.reducePow,Nat.reduceLeDiff,Int.reduceLE,Int.reduceLT,Int.reduceToNat,Int.reduceEq,Nat.reduceBEq,encS,valsI,votesI,u64D, *]) | (with_reducible refine ⟨?_,?_⟩; (· first | (obtain ⟨rfl⟩:=‹Hq _ _›; with_reducible refine chk_ok ?_; kernel_rfl) | kernel_rfl)) | (with_reducible intro ops hops) | (simp -implicitDefEqProofs (disch:=omega) only [wr64,wru64,get_lt]) | ((first | refine Wc_split (fun hg=>?_) (fun hg=>?_) | refine RoG_split (fun hg=>?_) (fun hg=>?_) | refine RdG_split (fun hg=>?_) (fun hg=>?_)) <;> (try simp only [nrm] at hg) <;> (try simp only [hg,lgc,reduceIte,reduceCtorEq] at hR) <;> (try (exfalso; omega))) | ((try simp only [*,lgc,reduceIte,reduceCtorEq] at hR); obtain ⟨rfl⟩:=hR; refine fin_q (rs:=[.tmp 4]) rfl ?_; (try simp only [go_sem,Nat.reduceLT,Nat.reduceAdd,Nat.reduceMul,reduceIte,Nat.reduceEqDiff,reduceCtorEq,Nat.reducePow,Nat.reduceLeDiff,Int.reduceLE,Int.reduceLT,Int.reduceToNat,Int.reduceEq,Nat.reduceBEq,encS,valsI,votesI,u64D]); (simp [encS,valsI,votesI,u64D]; done))))
def samV:List ValD→List ValD→Bool
 | [],[]=>true
 | a :: x,b :: y=>(decide (a.k=b.k) && decide (a.p=b.p)) && samV x y
 | _,_=>false
def samX:List VoteD→List VoteD→Bool
 | [],[]=>true
 | a :: x,b :: y=>(decide (a.is=b.is) && (decide (a.r=b.r) && decide (a.s=b.s))) && samX x y
 | _,_=>false
theorem samV_self:∀ (x:List ValD),samV x x=true
 | []=>rfl
 | a :: x=>by rw [samV,samV_self x]; simp
theorem samX_self:∀ (x:List VoteD),samX x x=true
 | []=>rfl
 | a :: x=>by rw [samX,samX_self x]; simp
end Go.Proofs.Ytkodnlkgblkfdaa
