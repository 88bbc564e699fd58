/- Merged texts: HdB, HdC, HdD, ClC, InsKn, ClD, ClE. -/
import Derived.Test.YtadoaljnfeoecaaGreatDoorGHd
import Derived.Test.YtadoaljnfeoecaaGreatDoorGWire
import Derived.Test.YtadoaljnfeoecaaGreatDoorGCl
import Derived.Test.YtadoaljnfeoecaaGreatDoorGx
import Derived.Test.YtadoaljnfeoecaaGreatDoorGMk
set_option linter.all false
namespace Go.Proofs.YtadoaljnfeoecaaGreatDoor
open Go Go.Abs Go.RowKit Go.Proofs.YtadoaljnfeoecaaGreatDoor.Ty
set_option maxHeartbeats 4000000
theorem hpieces_A (l:List PieceD) (hl:l.length≤1048576) (hb:∀ p∈l,p.b.length≤1048576) (hn:n64s l):PureD Tryz.prog 117 [.i (.sl (l.map encP))] (.i (bI (writeF l).1)):=by
 have hw:=write_A l hl hb hn
 refine hide_r fun R hR=>?_
 generalize writeF l=W at *
 refine callD_W 11 Tryz.func117 rfl rfl rfl (fun _ _=>rfl) ?_
 (repeat' (first | (simp -implicitDefEqProofs only [go_sem,Nat.reduceLT,Nat.reduceAdd,Nat.reduceMul,reduceIte,Nat.reduceEqDiff,reduceCtorEq,Nat.reducePow,Nat.reduceLeDiff,Int.reduceLE,Int.reduceLT,Int.reduceToNat,Int.reduceEq,Nat.reduceBEq,bI,faultD, *]) | (with_reducible refine ⟨?_,?_⟩; (· first | (obtain ⟨rfl⟩:=‹Hq _ _›; with_reducible refine chk_ok ?_; kernel_rfl) | kernel_rfl)) | (with_reducible intro ops hops) | (simp -implicitDefEqProofs (disch:=omega) only [wr64,wru64,get_lt]) | ((with_reducible refine call_id ?_); (first | ((with_reducible refine Call_fl (hw) ?_ ?_ ?_); (· (simp [bI,faultD]; done)); (· (simp [bI,faultD,and_assoc]; done))) | ((with_reducible refine Call_fz (hw) ?_ ?_); (· (simp [bI,faultD,and_assoc]; done))))) | ((with_reducible refine callF_id ?_); (first | ((with_reducible refine CallF_fl (hw) ?_ ?_ ?_); (· (simp [bI,faultD]; done)); (· (intro G hG; simp [bI,faultD] at hG; simp [bI,faultD,hG,and_assoc]; done))) | ((with_reducible refine CallF_fz (hw) ?_ ?_); (· (intro G hG; simp [bI,faultD] at hG; simp [bI,faultD,hG,and_assoc]; done))))) | ((first | refine Wc_split (fun hg=>?_) (fun hg=>?_) | refine RoG_split (fun hg=>?_) (fun hg=>?_) | refine RdG_split (fun hg=>?_) (fun hg=>?_)) <;> (try simp only [nrm] at hg) <;> (try simp only [hg,lgc,reduceIte,reduceCtorEq] at hR) <;> (try (exfalso; omega))) | ((try simp only [*,lgc,reduceIte,reduceCtorEq] at hR); obtain ⟨rfl⟩:=hR; refine fin_q (rs:=[.tmp 2]) rfl ?_; (try simp only [go_sem,Nat.reduceLT,Nat.reduceAdd,Nat.reduceMul,reduceIte,Nat.reduceEqDiff,reduceCtorEq,Nat.reducePow,Nat.reduceLeDiff,Int.reduceLE,Int.reduceLT,Int.reduceToNat,Int.reduceEq,Nat.reduceBEq,bI,faultD]); (simp [bI,faultD]; done))))
theorem hnump_A (n:Nat):PureD Tryz.prog 119 [u64D n] (.agg [.i (.s (.int .i64 1)),.i (.s (.int .u64 n)),.i (.sl [])]):=by
 refine hide_r fun R hR=>?_
 refine callD_W 5 Tryz.func119 rfl rfl rfl (fun _ _=>rfl) ?_
 (repeat' (first | (simp -implicitDefEqProofs only [go_sem,Nat.reduceLT,Nat.reduceAdd,Nat.reduceMul,reduceIte,Nat.reduceEqDiff,reduceCtorEq,Nat.reducePow,Nat.reduceLeDiff,Int.reduceLE,Int.reduceLT,Int.reduceToNat,Int.reduceEq,Nat.reduceBEq,u64D, *]) | (with_reducible refine ⟨?_,?_⟩; (· first | (obtain ⟨rfl⟩:=‹Hq _ _›; with_reducible refine chk_ok ?_; kernel_rfl) | kernel_rfl)) | (with_reducible intro ops hops) | (simp -implicitDefEqProofs (disch:=omega) only [wr64,wru64,get_lt]) | ((first | refine Wc_split (fun hg=>?_) (fun hg=>?_) | refine RoG_split (fun hg=>?_) (fun hg=>?_) | refine RdG_split (fun hg=>?_) (fun hg=>?_)) <;> (try simp only [nrm] at hg) <;> (try simp only [hg,lgc,reduceIte,reduceCtorEq] at hR) <;> (try (exfalso; omega))) | ((try simp only [*,lgc,reduceIte,reduceCtorEq] at hR); obtain ⟨rfl⟩:=hR; refine fin_q (rs:=[.cell 2 170]) rfl ?_; (try simp only [go_sem,Nat.reduceLT,Nat.reduceAdd,Nat.reduceMul,reduceIte,Nat.reduceEqDiff,reduceCtorEq,Nat.reducePow,Nat.reduceLeDiff,Int.reduceLE,Int.reduceLT,Int.reduceToNat,Int.reduceEq,Nat.reduceBEq,u64D]); (simp [u64D]; done))))
theorem hraw_A (b:List UInt8):PureD Tryz.prog 118 [.i (bI b)] (.agg [.i (.s (.int .i64 2)),.i (.s (.int .u64 0)),.i (bI b)]):=by
 refine hide_r fun R hR=>?_
 refine callD_W 5 Tryz.func118 rfl rfl rfl (fun _ _=>rfl) ?_
 (repeat' (first | (simp -implicitDefEqProofs only [go_sem,Nat.reduceLT,Nat.reduceAdd,Nat.reduceMul,reduceIte,Nat.reduceEqDiff,reduceCtorEq,Nat.reducePow,Nat.reduceLeDiff,Int.reduceLE,Int.reduceLT,Int.reduceToNat,Int.reduceEq,Nat.reduceBEq,bI, *]) | (with_reducible refine ⟨?_,?_⟩; (· first | (obtain ⟨rfl⟩:=‹Hq _ _›; with_reducible refine chk_ok ?_; kernel_rfl) | kernel_rfl)) | (with_reducible intro ops hops) | (simp -implicitDefEqProofs (disch:=omega) only [wr64,wru64,get_lt]) | ((first | refine Wc_split (fun hg=>?_) (fun hg=>?_) | refine RoG_split (fun hg=>?_) (fun hg=>?_) | refine RdG_split (fun hg=>?_) (fun hg=>?_)) <;> (try simp only [nrm] at hg) <;> (try simp only [hg,lgc,reduceIte,reduceCtorEq] at hR) <;> (try (exfalso; omega))) | ((try simp only [*,lgc,reduceIte,reduceCtorEq] at hR); obtain ⟨rfl⟩:=hR; refine fin_q (rs:=[.cell 2 170]) rfl ?_; (try simp only [go_sem,Nat.reduceLT,Nat.reduceAdd,Nat.reduceMul,reduceIte,Nat.reduceEqDiff,reduceCtorEq,Nat.reducePow,Nat.reduceLeDiff,Int.reduceLE,Int.reduceLT,Int.reduceToNat,Int.reduceEq,Nat.reduceBEq,bI]); (simp [bI]; done))))
theorem pcsV_take {l:List ValD} {i:Nat} (h:i < l.length):pcsV (l.take (i+1))=pcsV (l.take i)++[numP l[i].k,numP l[i].p]:=by
 unfold pcsV
 rw [List.take_succ_eq_append_getElem h,List.flatMap_append]; simp
theorem pcsV_len (l:List ValD):(pcsV l).length=2 * l.length:=by
 unfold pcsV
 induction l with
 | nil=>rfl
 | cons a t ih=>rw [List.flatMap_cons,List.length_append,ih]; simp; omega
theorem pcsV_64 {l:List ValD} (h:∀ v∈l,v.k < 18446744073709551616∧v.p < 18446744073709551616):n64s (pcsV l):=by
 intro p hp
 unfold pcsV at hp
 rw [List.mem_flatMap] at hp
 obtain ⟨v,hv,hp⟩:=hp
 simp only [List.mem_cons,List.not_mem_nil,or_false] at hp
 rcases hp with rfl | rfl
 ·exact (h v hv).1
 ·exact (h v hv).2
theorem pcsV_b (l:List ValD):∀ p∈pcsV l,p.b=[]:=by
 intro p hp
 unfold pcsV at hp
 rw [List.mem_flatMap] at hp
 obtain ⟨v,hv,hp⟩:=hp
 simp only [List.mem_cons,List.not_mem_nil,or_false] at hp
 rcases hp with rfl | rfl <;> rfl
theorem uni_P (l:List PieceD):uni 3 (l.map encP)=true:=uni_map (s:=3) (f:=encP) (fun _=>rfl) l
theorem hdigest_A (l:List ValD) (hl:l.length≤500000) (hn:∀ v∈l,v.k < 18446744073709551616∧v.p < 18446744073709551616):PureD Tryz.prog 113 [.i (valsI l)] (.i (bI (digestV l))):=by
 refine hide_r fun R hR=>?_
 refine callD_W 25 Tryz.func113 rfl rfl rfl (fun _ _=>rfl) ?_
 (repeat' (first | (simp -implicitDefEqProofs only [go_sem,Nat.reduceLT,Nat.reduceAdd,Nat.reduceMul,reduceIte,Nat.reduceEqDiff,reduceCtorEq,Nat.reducePow,Nat.reduceLeDiff,Int.reduceLE,Int.reduceLT,Int.reduceToNat,Int.reduceEq,Nat.reduceBEq,valsI, *]) | (with_reducible refine ⟨?_,?_⟩; (· first | (obtain ⟨rfl⟩:=‹Hq _ _›; with_reducible refine chk_ok ?_; kernel_rfl) | kernel_rfl)) | (with_reducible intro ops hops) | (simp -implicitDefEqProofs (disch:=omega) only [wr64,wru64,get_lt]) | ((first | refine Wc_split (fun hg=>?_) (fun hg=>?_) | refine RoG_split (fun hg=>?_) (fun hg=>?_) | refine RdG_split (fun hg=>?_) (fun hg=>?_)) <;> (try simp only [nrm] at hg) <;> (try simp only [hg,lgc,reduceIte,reduceCtorEq] at hR) <;> (try (exfalso; omega))) | ((try simp only [*,lgc,reduceIte,reduceCtorEq] at hR); obtain ⟨rfl⟩:=hR; refine fin_q (rs:=[.tmp 2]) rfl ?_; (try simp only [go_sem,Nat.reduceLT,Nat.reduceAdd,Nat.reduceMul,reduceIte,Nat.reduceEqDiff,reduceCtorEq,Nat.reducePow,Nat.reduceLeDiff,Int.reduceLE,Int.reduceLT,Int.reduceToNat,Int.reduceEq,Nat.reduceBEq,valsI]); (simp [valsI]; done))))
 refine W_loopI (ι:=Nat) (fun i=>i≤l.length)
  (fun i=>stOf [(6,.i (valsI l)),(7,intD l.length),(8,intD i),(3,.os 100 3 0 (pcsV (l.take i)).length)] [(100,.arr 3 ((pcsV (l.take i)).map encP))]) (fun i=>l.length - i) 0 (Nat.zero_le _) ?_ ?_
 ·(refine le_stOf _ _ [] [] ?_ ?_ rfl rfl <;> (simp [Int.natCast_add,Int.natCast_zero,Int.natCast_one,valsI,pcsV]; done))
 ·rintro i hi
  rw [stOf_eq]
  by_cases h:i < l.length
  ·have e1:=get_lt (f:=encV) h
   have hs:=pcsV_take h
   have hlen:=pcsV_len (l.take i)
   have hlt:(l.take i).length=i:=by rw [List.length_take]; omega
   have c1:=hnump_A l[i].k
   have c2:=hnump_A l[i].p
   have hu:=uni_P (pcsV (l.take i))
   rw [hlt] at hlen
   generalize l[i]=v at *
   generalize hP':pcsV (l.take (i+1))=P' at *
   generalize pcsV (l.take i)=P at *
   subst hs
   have b1:P.length≤140737488355326:=by omega
   have b3:(P.length+2) * 40≤140737488355328:=by omega
   clear hR hlen hlt
   (repeat' (first | (simp -implicitDefEqProofs only [go_sem,Nat.reduceLT,Nat.reduceAdd,Nat.reduceMul,reduceIte,Nat.reduceEqDiff,reduceCtorEq,Nat.reducePow,Nat.reduceLeDiff,Int.reduceLE,Int.reduceLT,Int.reduceToNat,Int.reduceEq,Nat.reduceBEq,valsI,encV,u64D,intD, *]) | (with_reducible refine ⟨?_,?_⟩; (· first | (obtain ⟨rfl⟩:=‹Hq _ _›; with_reducible refine chk_ok ?_; kernel_rfl) | kernel_rfl)) | (with_reducible intro ops hops) | (simp -implicitDefEqProofs (disch:=omega) only [wr64,wru64,get_lt]) | ((with_reducible refine call_id ?_); (first | ((with_reducible refine Call_fl (c1) ?_ ?_ ?_); (· (simp [valsI,encV,u64D,intD]; done)); (· (simp [valsI,encV,u64D,intD,and_assoc]; done))) | ((with_reducible refine Call_fz (c1) ?_ ?_); (· (simp [valsI,encV,u64D,intD,and_assoc]; done))) | ((with_reducible refine Call_fl (c2) ?_ ?_ ?_); (· (simp [valsI,encV,u64D,intD]; done)); (· (simp [valsI,encV,u64D,intD,and_assoc]; done))) | ((with_reducible refine Call_fz (c2) ?_ ?_); (· (simp [valsI,encV,u64D,intD,and_assoc]; done))))) | ((with_reducible refine callF_id ?_); (first | ((with_reducible refine CallF_fl (c1) ?_ ?_ ?_); (· (simp [valsI,encV,u64D,intD]; done)); (· (intro G hG; simp [valsI,encV,u64D,intD] at hG; simp [valsI,encV,u64D,intD,hG,and_assoc]; done))) | ((with_reducible refine CallF_fz (c1) ?_ ?_); (· (intro G hG; simp [valsI,encV,u64D,intD] at hG; simp [valsI,encV,u64D,intD,hG,and_assoc]; done))) | ((with_reducible refine CallF_fl (c2) ?_ ?_ ?_); (· (simp [valsI,encV,u64D,intD]; done)); (· (intro G hG; simp [valsI,encV,u64D,intD] at hG; simp [valsI,encV,u64D,intD,hG,and_assoc]; done))) | ((with_reducible refine CallF_fz (c2) ?_ ?_); (· (intro G hG; simp [valsI,encV,u64D,intD] at hG; simp [valsI,encV,u64D,intD,hG,and_assoc]; done))))) | ((first | refine Wc_split (fun hg=>?_) (fun hg=>?_) | refine RoG_split (fun hg=>?_) (fun hg=>?_) | refine RdG_split (fun hg=>?_) (fun hg=>?_)) <;> (try simp only [nrm] at hg) <;> (try simp only [hg,lgc,reduceIte,reduceCtorEq] at hR) <;> (try (exfalso; omega))) | (refine ⟨i+1,h,?_,?_⟩; (· (refine le_stOf _ _ [] [(100,2288)] ?_ ?_ rfl rfl <;> (simp [Int.natCast_add,Int.natCast_zero,Int.natCast_one,hP',valsI,encP,numP,bI]; done))); (· (simp only; omega))) | ((try simp only [*,lgc,reduceIte,reduceCtorEq] at hR); obtain ⟨rfl⟩:=hR; refine fin_q (rs:=[.tmp 2]) rfl ?_; (try simp only [go_sem,Nat.reduceLT,Nat.reduceAdd,Nat.reduceMul,reduceIte,Nat.reduceEqDiff,reduceCtorEq,Nat.reducePow,Nat.reduceLeDiff,Int.reduceLE,Int.reduceLT,Int.reduceToNat,Int.reduceEq,Nat.reduceBEq,valsI,encV,u64D,intD]); (simp [valsI,encV,u64D,intD]; done))))
  ·have ht:l.take i=l:=List.take_of_length_le (by omega)
   have c1:=hpieces_A (pcsV l) (by rw [pcsV_len]; omega) (fun p hp=>by rw [pcsV_b l p hp]; simp) (pcsV_64 hn)
   have c2:=sum_D (writeF (pcsV l)).1 (by have:=writeF_len (pcsV l); omega)
   unfold digestV at hR
   rw [ht]
   generalize (writeF (pcsV l)).1=W at *
   generalize pcsV l=P at *
   (repeat' (first | (simp -implicitDefEqProofs only [go_sem,Nat.reduceLT,Nat.reduceAdd,Nat.reduceMul,reduceIte,Nat.reduceEqDiff,reduceCtorEq,Nat.reducePow,Nat.reduceLeDiff,Int.reduceLE,Int.reduceLT,Int.reduceToNat,Int.reduceEq,Nat.reduceBEq,valsI,intD,bI, *]) | (with_reducible refine ⟨?_,?_⟩; (· first | (obtain ⟨rfl⟩:=‹Hq _ _›; with_reducible refine chk_ok ?_; kernel_rfl) | kernel_rfl)) | (with_reducible intro ops hops) | (simp -implicitDefEqProofs (disch:=omega) only [wr64,wru64,get_lt]) | ((with_reducible refine call_id ?_); (first | ((with_reducible refine Call_fz (c1) ?_ ?_); (· (simp [valsI,intD,bI,and_assoc]; done))) | ((with_reducible refine Call_fz (c2) ?_ ?_); (· (simp [valsI,intD,bI,and_assoc]; done))))) | ((with_reducible refine callF_id ?_); (first | ((with_reducible refine CallF_fz (c1) ?_ ?_); (· (intro G hG; simp [valsI,intD,bI] at hG; simp [valsI,intD,bI,hG,and_assoc]; done))) | ((with_reducible refine CallF_fz (c2) ?_ ?_); (· (intro G hG; simp [valsI,intD,bI] at hG; simp [valsI,intD,bI,hG,and_assoc]; done))))) | ((first | refine Wc_split (fun hg=>?_) (fun hg=>?_) | refine RoG_split (fun hg=>?_) (fun hg=>?_) | refine RdG_split (fun hg=>?_) (fun hg=>?_)) <;> (try simp only [nrm] at hg) <;> (try simp only [hg,lgc,reduceIte,reduceCtorEq] at hR) <;> (try (exfalso; omega))) | ((try simp only [*,lgc,reduceIte,reduceCtorEq] at hR); obtain ⟨rfl⟩:=hR; refine fin_q (rs:=[.tmp 2]) rfl ?_; (try simp only [go_sem,Nat.reduceLT,Nat.reduceAdd,Nat.reduceMul,reduceIte,Nat.reduceEqDiff,reduceCtorEq,Nat.reducePow,Nat.reduceLeDiff,Int.reduceLE,Int.reduceLT,Int.reduceToNat,Int.reduceEq,Nat.reduceBEq,valsI,intD,bI]); (simp [valsI,intD,bI]; done))))
end Go.Proofs.YtadoaljnfeoecaaGreatDoor
set_option linter.all false
namespace Go.Proofs.YtadoaljnfeoecaaGreatDoor
open Go Go.Abs Go.RowKit Go.Proofs.YtadoaljnfeoecaaGreatDoor.Ty
set_option maxHeartbeats 4000000
def preV (l:List ValD) (i:Nat):Option ValD:=if i=0 then none else l[i - 1]?
theorem hvals_A (l:List ValD) (hl:l.length≤1048576):PureD Tryz.prog 112 [.i (valsI l)] (intD (valsW l)):=by
 refine hide_r fun R hR=>?_
 unfold valsW at hR
 refine callD_W 42 Tryz.func112 rfl rfl rfl (fun _ _=>rfl) ?_
 (repeat' (first | (simp -implicitDefEqProofs only [go_sem,Nat.reduceLT,Nat.reduceAdd,Nat.reduceMul,reduceIte,Nat.reduceEqDiff,reduceCtorEq,Nat.reducePow,Nat.reduceLeDiff,Int.reduceLE,Int.reduceLT,Int.reduceToNat,Int.reduceEq,Nat.reduceBEq,valsI,intD, *]) | (with_reducible refine ⟨?_,?_⟩; (· first | (obtain ⟨rfl⟩:=‹Hq _ _›; with_reducible refine chk_ok ?_; kernel_rfl) | kernel_rfl)) | (with_reducible intro ops hops) | (simp -implicitDefEqProofs (disch:=omega) only [wr64,wru64,get_lt]) | ((first | refine Wc_split (fun hg=>?_) (fun hg=>?_) | refine RoG_split (fun hg=>?_) (fun hg=>?_) | refine RdG_split (fun hg=>?_) (fun hg=>?_)) <;> (try simp only [nrm] at hg) <;> (try simp only [hg,lgc,reduceIte,reduceCtorEq] at hR) <;> (try (exfalso; omega))) | ((try simp only [*,lgc,reduceIte,reduceCtorEq] at hR); obtain ⟨rfl⟩:=hR; refine fin_q (rs:=[.tmp 2]) rfl ?_; (try simp only [go_sem,Nat.reduceLT,Nat.reduceAdd,Nat.reduceMul,reduceIte,Nat.reduceEqDiff,reduceCtorEq,Nat.reducePow,Nat.reduceLeDiff,Int.reduceLE,Int.reduceLT,Int.reduceToNat,Int.reduceEq,Nat.reduceBEq,valsI,intD]); (simp [valsI,intD]; done))))
 have hR':Hr (intD (valsE (preV l 0) (l.drop 0))) R:=hR
 clear hR
 refine W_loopI (ι:=Nat) (fun i=>i≤l.length∧Hr (intD (valsE (preV l i) (l.drop i))) R)
  (fun i=>stOf [(0,.i (valsI l)),(13,.i (valsI l)),(14,intD l.length),(15,intD i)] []) (fun i=>l.length - i) 0 ⟨Nat.zero_le _,hR'⟩ ?_ ?_
 ·(refine le_stOf _ _ [] [] ?_ ?_ rfl rfl <;> (simp [Int.natCast_add,Int.natCast_zero,Int.natCast_one,valsI]; done))
 ·rintro i ⟨hi,hR⟩
  clear hR'
  rw [stOf_eq]
  by_cases h:i < l.length
  ·have e1:=get_lt (f:=encV) h
   rw [List.drop_eq_getElem_cons h,valsE] at hR
   have hnx:preV l (i+1)=some l[i]:=by simp [preV,h]
   rw [← hnx] at hR
   cases i with
   | zero =>
    have hp:preV l 0=none:=rfl
    rw [hp] at hR
    simp only [Option.any_none,Bool.false_eq_true,if_false] at hR
    have hg0:¬ ((0:Int) < ((0:Nat):Int)):=by omega
    clear hp
    generalize l[0]=v at *
    clear hnx
    (repeat' (first | (simp -implicitDefEqProofs only [go_sem,Nat.reduceLT,Nat.reduceAdd,Nat.reduceMul,reduceIte,Nat.reduceEqDiff,reduceCtorEq,Nat.reducePow,Nat.reduceLeDiff,Int.reduceLE,Int.reduceLT,Int.reduceToNat,Int.reduceEq,Nat.reduceBEq,valsI,intD,encV,Int.natCast_zero, *]) | (with_reducible refine ⟨?_,?_⟩; (· first | (obtain ⟨rfl⟩:=‹Hq _ _›; with_reducible refine chk_ok ?_; kernel_rfl) | kernel_rfl)) | (with_reducible intro ops hops) | (simp -implicitDefEqProofs (disch:=omega) only [wr64,wru64,get_lt]) | ((first | refine Wc_split (fun hg=>?_) (fun hg=>?_) | refine RoG_split (fun hg=>?_) (fun hg=>?_) | refine RdG_split (fun hg=>?_) (fun hg=>?_)) <;> (try simp only [nrm] at hg) <;> (try simp only [hg,lgc,reduceIte,reduceCtorEq] at hR) <;> (try (exfalso; omega))) | (refine ⟨0+1,⟨h,hR⟩,?_,?_⟩; (· (refine le_stOf _ _ [] [] ?_ ?_ rfl rfl <;> (simp [Int.natCast_add,Int.natCast_zero,Int.natCast_one,valsI]; done))); (· (simp only; omega))) | ((try simp only [*,lgc,reduceIte,reduceCtorEq] at hR); obtain ⟨rfl⟩:=hR; refine fin_q (rs:=[.tmp 2]) rfl ?_; (try simp only [go_sem,Nat.reduceLT,Nat.reduceAdd,Nat.reduceMul,reduceIte,Nat.reduceEqDiff,reduceCtorEq,Nat.reducePow,Nat.reduceLeDiff,Int.reduceLE,Int.reduceLT,Int.reduceToNat,Int.reduceEq,Nat.reduceBEq,valsI,intD,encV,Int.natCast_zero]); (simp [valsI,intD,encV,Int.natCast_zero]; done))))
   | succ j =>
    have hj:j < l.length:=by omega
    have hp:preV l (j+1)=some l[j]:=by simp [preV,hj]
    have e2:=get_lt (f:=encV) hj
    rw [hp] at hR
    simp only [Option.any_some,decide_eq_true_eq] at hR
    have hg0:(0:Int) < ((j+1:Nat):Int):=by omega
    have w0:IntKind.i64.wrap (((j+1:Nat):Int) - 1)=(j:Int):=by rw [wrap64 (by omega) (by omega)]; omega
    generalize l[j+1]=v at *
    generalize l[j]=q at *
    clear hnx hp
    (repeat' (first | (simp -implicitDefEqProofs only [go_sem,Nat.reduceLT,Nat.reduceAdd,Nat.reduceMul,reduceIte,Nat.reduceEqDiff,reduceCtorEq,Nat.reducePow,Nat.reduceLeDiff,Int.reduceLE,Int.reduceLT,Int.reduceToNat,Int.reduceEq,Nat.reduceBEq,valsI,intD,encV, *]) | (with_reducible refine ⟨?_,?_⟩; (· first | (obtain ⟨rfl⟩:=‹Hq _ _›; with_reducible refine chk_ok ?_; kernel_rfl) | kernel_rfl)) | (with_reducible intro ops hops) | (simp -implicitDefEqProofs (disch:=omega) only [wr64,wru64,get_lt]) | ((first | refine Wc_split (fun hg=>?_) (fun hg=>?_) | refine RoG_split (fun hg=>?_) (fun hg=>?_) | refine RdG_split (fun hg=>?_) (fun hg=>?_)) <;> (try simp only [nrm] at hg) <;> (try simp only [hg,lgc,reduceIte,reduceCtorEq] at hR) <;> (try (exfalso; omega))) | (refine ⟨j+1+1,⟨h,hR⟩,?_,?_⟩; (· (refine le_stOf _ _ [] [] ?_ ?_ rfl rfl <;> (simp [Int.natCast_add,Int.natCast_zero,Int.natCast_one,valsI]; done))); (· (simp only; omega))) | ((try simp only [*,lgc,reduceIte,reduceCtorEq] at hR); obtain ⟨rfl⟩:=hR; refine fin_q (rs:=[.tmp 2]) rfl ?_; (try simp only [go_sem,Nat.reduceLT,Nat.reduceAdd,Nat.reduceMul,reduceIte,Nat.reduceEqDiff,reduceCtorEq,Nat.reducePow,Nat.reduceLeDiff,Int.reduceLE,Int.reduceLT,Int.reduceToNat,Int.reduceEq,Nat.reduceBEq,valsI,intD,encV]); (simp [valsI,intD,encV]; done))))
  ·rw [List.drop_eq_nil_of_le (by omega),valsE] at hR
   (repeat' (first | (simp -implicitDefEqProofs only [go_sem,Nat.reduceLT,Nat.reduceAdd,Nat.reduceMul,reduceIte,Nat.reduceEqDiff,reduceCtorEq,Nat.reducePow,Nat.reduceLeDiff,Int.reduceLE,Int.reduceLT,Int.reduceToNat,Int.reduceEq,Nat.reduceBEq,valsI,intD, *]) | (with_reducible refine ⟨?_,?_⟩; (· first | (obtain ⟨rfl⟩:=‹Hq _ _›; with_reducible refine chk_ok ?_; kernel_rfl) | kernel_rfl)) | (with_reducible intro ops hops) | (simp -implicitDefEqProofs (disch:=omega) only [wr64,wru64,get_lt]) | ((first | refine Wc_split (fun hg=>?_) (fun hg=>?_) | refine RoG_split (fun hg=>?_) (fun hg=>?_) | refine RdG_split (fun hg=>?_) (fun hg=>?_)) <;> (try simp only [nrm] at hg) <;> (try simp only [hg,lgc,reduceIte,reduceCtorEq] at hR) <;> (try (exfalso; omega))) | ((try simp only [*,lgc,reduceIte,reduceCtorEq] at hR); obtain ⟨rfl⟩:=hR; refine fin_q (rs:=[.tmp 2]) rfl ?_; (try simp only [go_sem,Nat.reduceLT,Nat.reduceAdd,Nat.reduceMul,reduceIte,Nat.reduceEqDiff,reduceCtorEq,Nat.reducePow,Nat.reduceLeDiff,Int.reduceLE,Int.reduceLT,Int.reduceToNat,Int.reduceEq,Nat.reduceBEq,valsI,intD]); (simp [valsI,intD]; done))))
theorem hwrong_A (h:HdrD):PureD Tryz.prog 145 [hdrD h] (intD (wrongH h)):=by
 refine hide_r fun R hR=>?_
 have c1:=hname_A h.c
 have c2:=hnum_A h.h
 have c3:=hnum_A h.t
 unfold wrongH at hR
 refine callD_W 41 Tryz.func145 rfl rfl rfl (fun _ _=>rfl) ?_
 (repeat' (first | (simp -implicitDefEqProofs only [go_sem,Nat.reduceLT,Nat.reduceAdd,Nat.reduceMul,reduceIte,Nat.reduceEqDiff,reduceCtorEq,Nat.reducePow,Nat.reduceLeDiff,Int.reduceLE,Int.reduceLT,Int.reduceToNat,Int.reduceEq,Nat.reduceBEq,hdrD,intD,boolD,bI,sD, *]) | (with_reducible refine ⟨?_,?_⟩; (· first | (obtain ⟨rfl⟩:=‹Hq _ _›; with_reducible refine chk_ok ?_; kernel_rfl) | kernel_rfl)) | (with_reducible intro ops hops) | (simp -implicitDefEqProofs (disch:=omega) only [wr64,wru64,get_lt]) | ((with_reducible refine call_id ?_); (first | ((with_reducible refine Call_fl (c1) ?_ ?_ ?_); (· (simp [hdrD,intD,boolD,bI,sD]; done)); (· (simp [hdrD,intD,boolD,bI,sD,and_assoc]; done))) | ((with_reducible refine Call_fl (c2) ?_ ?_ ?_); (· (simp [hdrD,intD,boolD,bI,sD]; done)); (· (simp [hdrD,intD,boolD,bI,sD,and_assoc]; done))) | ((with_reducible refine Call_fl (c3) ?_ ?_ ?_); (· (simp [hdrD,intD,boolD,bI,sD]; done)); (· (simp [hdrD,intD,boolD,bI,sD,and_assoc]; done))))) | ((with_reducible refine callF_id ?_); (first | ((with_reducible refine CallF_fl (c1) ?_ ?_ ?_); (· (simp [hdrD,intD,boolD,bI,sD]; done)); (· (intro G hG; simp [hdrD,intD,boolD,bI,sD] at hG; simp [hdrD,intD,boolD,bI,sD,hG,and_assoc]; done))) | ((with_reducible refine CallF_fl (c2) ?_ ?_ ?_); (· (simp [hdrD,intD,boolD,bI,sD]; done)); (· (intro G hG; simp [hdrD,intD,boolD,bI,sD] at hG; simp [hdrD,intD,boolD,bI,sD,hG,and_assoc]; done))) | ((with_reducible refine CallF_fl (c3) ?_ ?_ ?_); (· (simp [hdrD,intD,boolD,bI,sD]; done)); (· (intro G hG; simp [hdrD,intD,boolD,bI,sD] at hG; simp [hdrD,intD,boolD,bI,sD,hG,and_assoc]; done))))) | ((first | refine Wc_split (fun hg=>?_) (fun hg=>?_) | refine RoG_split (fun hg=>?_) (fun hg=>?_) | refine RdG_split (fun hg=>?_) (fun hg=>?_)) <;> (try simp only [nrm] at hg) <;> (try simp only [hg,lgc,reduceIte,reduceCtorEq] at hR) <;> (try (exfalso; omega))) | ((try simp only [*,lgc,reduceIte,reduceCtorEq] at hR); obtain ⟨rfl⟩:=hR; refine fin_q (rs:=[.tmp 2]) rfl ?_; (try simp only [go_sem,Nat.reduceLT,Nat.reduceAdd,Nat.reduceMul,reduceIte,Nat.reduceEqDiff,reduceCtorEq,Nat.reducePow,Nat.reduceLeDiff,Int.reduceLE,Int.reduceLT,Int.reduceToNat,Int.reduceEq,Nat.reduceBEq,hdrD,intD,boolD,bI,sD]); (simp [hdrD,intD,boolD,bI,sD]; done))))
theorem hbytes_A (h:HdrD) (h0:h.c.size≤1048576) (h1:h.root.length≤1048576) (h2:h.vals.length≤1048576) (h3:h.next.length≤1048576):PureD Tryz.prog 76 [hdrD h] (.i (bI (bytesH h))):=by
 refine hide_r fun R hR=>?_
 have c1:=hraw_A (unB h.c)
 have c2:=hnump_A (u64 h.h)
 have c3:=hnump_A (u64 h.t)
 have c4:=hraw_A h.root
 have c5:=hraw_A h.vals
 have c6:=hraw_A h.next
 have hsz:h.c.size≤140737488355328:=by omega
 have c7:=hpieces_A (pcsH h) (by simp [pcsH]) (by intro p hp; simp only [pcsH,rawB,numP,List.mem_cons,List.not_mem_nil,or_false] at hp; rcases hp with rfl | rfl | rfl | rfl | rfl | rfl <;> simp only [unB_len,List.length_nil] <;> omega)
  (by intro p hp; simp only [pcsH,rawB,numP,List.mem_cons,List.not_mem_nil,or_false] at hp; rcases hp with rfl | rfl | rfl | rfl | rfl | rfl <;> first | exact u64_lt _ | (simp only; omega))
 unfold bytesH at hR
 generalize (writeF (pcsH h)).1=W at *
 simp only [pcsH,rawB,numP,List.map_cons,List.map_nil,encP] at c7
 clear h0 h1 h2 h3
 refine callD_W 26 Tryz.func76 rfl rfl rfl (fun _ _=>rfl) ?_
 (repeat' (first | (simp -implicitDefEqProofs only [go_sem,Nat.reduceLT,Nat.reduceAdd,Nat.reduceMul,reduceIte,Nat.reduceEqDiff,reduceCtorEq,Nat.reducePow,Nat.reduceLeDiff,Int.reduceLE,Int.reduceLT,Int.reduceToNat,Int.reduceEq,Nat.reduceBEq,hdrD,u64D,bI,strI_un,wrap_u, *]) | (with_reducible refine ⟨?_,?_⟩; (· first | (obtain ⟨rfl⟩:=‹Hq _ _›; with_reducible refine chk_ok ?_; kernel_rfl) | kernel_rfl)) | (with_reducible intro ops hops) | (simp -implicitDefEqProofs (disch:=omega) only [wr64,wru64,get_lt]) | ((with_reducible refine call_id ?_); (first | ((with_reducible refine Call_fz (c1) ?_ ?_); (· (simp [hdrD,u64D,bI,strI_un,wrap_u,and_assoc]; done))) | ((with_reducible refine Call_fl (c2) ?_ ?_ ?_); (· (simp [hdrD,u64D,bI,strI_un,wrap_u]; done)); (· (simp [hdrD,u64D,bI,strI_un,wrap_u,and_assoc]; done))) | ((with_reducible refine Call_fz (c2) ?_ ?_); (· (simp [hdrD,u64D,bI,strI_un,wrap_u,and_assoc]; done))) | ((with_reducible refine Call_fz (c3) ?_ ?_); (· (simp [hdrD,u64D,bI,strI_un,wrap_u,and_assoc]; done))) | ((with_reducible refine Call_fz (c4) ?_ ?_); (· (simp [hdrD,u64D,bI,strI_un,wrap_u,and_assoc]; done))) | ((with_reducible refine Call_fz (c5) ?_ ?_); (· (simp [hdrD,u64D,bI,strI_un,wrap_u,and_assoc]; done))) | ((with_reducible refine Call_fz (c6) ?_ ?_); (· (simp [hdrD,u64D,bI,strI_un,wrap_u,and_assoc]; done))) | ((with_reducible refine Call_fz (c7) ?_ ?_); (· (simp [hdrD,u64D,bI,strI_un,wrap_u,and_assoc]; done))))) | ((with_reducible refine callF_id ?_); (first | ((with_reducible refine CallF_fz (c1) ?_ ?_); (· (intro G hG; simp [hdrD,u64D,bI,strI_un,wrap_u] at hG; simp [hdrD,u64D,bI,strI_un,wrap_u,hG,and_assoc]; done))) | ((with_reducible refine CallF_fl (c2) ?_ ?_ ?_); (· (simp [hdrD,u64D,bI,strI_un,wrap_u]; done)); (· (intro G hG; simp [hdrD,u64D,bI,strI_un,wrap_u] at hG; simp [hdrD,u64D,bI,strI_un,wrap_u,hG,and_assoc]; done))) | ((with_reducible refine CallF_fz (c2) ?_ ?_); (· (intro G hG; simp [hdrD,u64D,bI,strI_un,wrap_u] at hG; simp [hdrD,u64D,bI,strI_un,wrap_u,hG,and_assoc]; done))) | ((with_reducible refine CallF_fz (c3) ?_ ?_); (· (intro G hG; simp [hdrD,u64D,bI,strI_un,wrap_u] at hG; simp [hdrD,u64D,bI,strI_un,wrap_u,hG,and_assoc]; done))) | ((with_reducible refine CallF_fz (c4) ?_ ?_); (· (intro G hG; simp [hdrD,u64D,bI,strI_un,wrap_u] at hG; simp [hdrD,u64D,bI,strI_un,wrap_u,hG,and_assoc]; done))) | ((with_reducible refine CallF_fz (c5) ?_ ?_); (· (intro G hG; simp [hdrD,u64D,bI,strI_un,wrap_u] at hG; simp [hdrD,u64D,bI,strI_un,wrap_u,hG,and_assoc]; done))) | ((with_reducible refine CallF_fz (c6) ?_ ?_); (· (intro G hG; simp [hdrD,u64D,bI,strI_un,wrap_u] at hG; simp [hdrD,u64D,bI,strI_un,wrap_u,hG,and_assoc]; done))) | ((with_reducible refine CallF_fz (c7) ?_ ?_); (· (intro G hG; simp [hdrD,u64D,bI,strI_un,wrap_u] at hG; simp [hdrD,u64D,bI,strI_un,wrap_u,hG,and_assoc]; done))))) | ((first | refine Wc_split (fun hg=>?_) (fun hg=>?_) | refine RoG_split (fun hg=>?_) (fun hg=>?_) | refine RdG_split (fun hg=>?_) (fun hg=>?_)) <;> (try simp only [nrm] at hg) <;> (try simp only [hg,lgc,reduceIte,reduceCtorEq] at hR) <;> (try (exfalso; omega))) | ((try simp only [*,lgc,reduceIte,reduceCtorEq] at hR); obtain ⟨rfl⟩:=hR; refine fin_q (rs:=[.tmp 2]) rfl ?_; (try simp only [go_sem,Nat.reduceLT,Nat.reduceAdd,Nat.reduceMul,reduceIte,Nat.reduceEqDiff,reduceCtorEq,Nat.reducePow,Nat.reduceLeDiff,Int.reduceLE,Int.reduceLT,Int.reduceToNat,Int.reduceEq,Nat.reduceBEq,hdrD,u64D,bI,strI_un,wrap_u]); (simp [hdrD,u64D,bI,strI_un,wrap_u]; done))))
theorem zip_get {α β:Type} {l:List α} {m:List β} {i:Nat} (h:i < l.length) (h':i < m.length):(l.zip m)[i]'(by rw [List.length_zip]; omega)=(l[i],m[i]):=by simp
theorem yes_le {l:List ValD} (h:ValsOk l) (m:List VoteD) (i:Nat):yesF ((l.zip m).take i)≤10000000:=by
 have h1:=sum_le (f:=yesOf) (k:=1000000) (l:=(l.zip m).take i) (take_mem fun q hq=>by
  obtain ⟨v,x⟩:=q
  have:=h.pow v (List.of_mem_zip hq).1
  show (if x.is=true then v.p else 0)≤_
  split <;> omega)
 have h2:=h.len
 have h3:((l.zip m).take i).length≤10:=by rw [List.length_take,List.length_zip]; omega
 unfold yesF
 have:((l.zip m).take i).length * 1000000≤10 * 1000000:=Nat.mul_le_mul_right _ h3
 omega
structure HdrSm (h:HdrD):Prop where
 c:h.c.size≤1048576
 root:h.root.length≤1048576
 vals:h.vals.length≤1048576
 next:h.next.length≤1048576
theorem bytesH_len (h:HdrD):(bytesH h).length≤20000:=writeF_len _
theorem hpower_A (s:SignedD) (hs:HdrSm s.hdr) (hv:ValsOk s.vals) (hl:s.votes.length=s.vals.length) (hk:∀ v∈s.vals,v.k < 18446744073709551616) (hx:∀ x∈s.votes,x.r < 18446744073709551616∧x.s < 18446744073709551616) :
  PureD Tryz.prog 146 [.rp (encS s) 0] (.tup [u64D (sumP s.vals),u64D (yesF (s.vals.zip s.votes)),boolD (badF (bytesH s.hdr) (s.vals.zip s.votes))]):=by
 refine hide_r fun R hR=>?_
 have c1:=hbytes_A s.hdr hs.c hs.root hs.vals hs.next
 have hbl:=bytesH_len s.hdr
 have hlz:(s.vals.zip s.votes).length=s.vals.length:=by rw [List.length_zip]; omega
 have hle:=hv.len
 refine callD_W 57 Tryz.func146 rfl rfl rfl (fun _ _=>rfl) ?_
 (repeat' (first | (simp -implicitDefEqProofs only [go_sem,Nat.reduceLT,Nat.reduceAdd,Nat.reduceMul,reduceIte,Nat.reduceEqDiff,reduceCtorEq,Nat.reducePow,Nat.reduceLeDiff,Int.reduceLE,Int.reduceLT,Int.reduceToNat,Int.reduceEq,Nat.reduceBEq,encS,hdrD,bI,valsI,votesI,u64D,boolD, *]) | (with_reducible refine ⟨?_,?_⟩; (· first | (obtain ⟨rfl⟩:=‹Hq _ _›; with_reducible refine chk_ok ?_; kernel_rfl) | kernel_rfl)) | (with_reducible intro ops hops) | (simp -implicitDefEqProofs (disch:=omega) only [wr64,wru64,get_lt]) | ((with_reducible refine call_id ?_); (first | ((with_reducible refine Call_fz (c1) ?_ ?_); (· (simp [encS,hdrD,bI,valsI,votesI,u64D,boolD,and_assoc]; done))))) | ((with_reducible refine callF_id ?_); (first | ((with_reducible refine CallF_fz (c1) ?_ ?_); (· (intro G hG; simp [encS,hdrD,bI,valsI,votesI,u64D,boolD] at hG; simp [encS,hdrD,bI,valsI,votesI,u64D,boolD,hG,and_assoc]; done))))) | ((first | refine Wc_split (fun hg=>?_) (fun hg=>?_) | refine RoG_split (fun hg=>?_) (fun hg=>?_) | refine RdG_split (fun hg=>?_) (fun hg=>?_)) <;> (try simp only [nrm] at hg) <;> (try simp only [hg,lgc,reduceIte,reduceCtorEq] at hR) <;> (try (exfalso; omega))) | ((try simp only [*,lgc,reduceIte,reduceCtorEq] at hR); obtain ⟨rfl⟩:=hR; refine fin_q (rs:=[.tmp 2,.tmp 3,.tmp 4]) rfl ?_; (try simp only [go_sem,Nat.reduceLT,Nat.reduceAdd,Nat.reduceMul,reduceIte,Nat.reduceEqDiff,reduceCtorEq,Nat.reducePow,Nat.reduceLeDiff,Int.reduceLE,Int.reduceLT,Int.reduceToNat,Int.reduceEq,Nat.reduceBEq,encS,hdrD,bI,valsI,votesI,u64D,boolD]); (simp [encS,hdrD,bI,valsI,votesI,u64D,boolD]; done))))
 refine W_loopI (ι:=Nat) (fun i=>i≤s.vals.length)
  (fun i=>stOf [(0,.rp (encS s) 0),(5,.i (bI (bytesH s.hdr))),(2,u64D (sumP (s.vals.take i))),(3,u64D (yesF ((s.vals.zip s.votes).take i))),(4,boolD (badF (bytesH s.hdr) ((s.vals.zip s.votes).take i))),(16,.i (valsI s.vals)),(17,intD s.vals.length),(18,intD i)] []) (fun i=>s.vals.length - i) 0 (Nat.zero_le _) ?_ ?_
 ·(refine le_stOf _ _ [] [] ?_ ?_ rfl rfl <;> (simp [Int.natCast_add,Int.natCast_zero,Int.natCast_one,encS,valsI,votesI,u64D,sumP,yesF,badF]; done))
 ·rintro i hi
  rw [stOf_eq]
  by_cases h:i < s.vals.length
  ·have h2:i < s.votes.length:=by omega
   have e1:=get_lt (f:=encV) h
   have e2:=get_lt (f:=encX) h2
   have t1:sumP (s.vals.take (i+1))=sumP (s.vals.take i)+s.vals[i].p:=sum_take h
   have t2:yesF ((s.vals.zip s.votes).take (i+1))=yesF ((s.vals.zip s.votes).take i)+yesOf (s.vals.zip s.votes)[i]:=sum_take (by omega)
   have t3:badF (bytesH s.hdr) ((s.vals.zip s.votes).take (i+1))=(badF (bytesH s.hdr) ((s.vals.zip s.votes).take i) || badOf (bytesH s.hdr) (s.vals.zip s.votes)[i]):=any_take (by omega)
   have b1:=sumP_le hv i
   have b2:=yes_le hv s.votes i
   have b3:=hv.pow s.vals[i] (List.getElem_mem h)
   have c2:=good_A s.vals[i].k (bytesH s.hdr) s.votes[i].r s.votes[i].s (hk _ (List.getElem_mem h)) (hx _ (List.getElem_mem h2)).1 (hx _ (List.getElem_mem h2)).2 (by omega)
   rw [zip_get h h2] at t2 t3
   generalize s.vals[i]=v at *
   generalize s.votes[i]=x at *
   generalize sumP (s.vals.take i)=A at *
   generalize yesF ((s.vals.zip s.votes).take i)=B at *
   generalize badF (bytesH s.hdr) ((s.vals.zip s.votes).take i)=C at *
   unfold yesOf at t2
   unfold badOf at t3
   simp only at t2 t3
   have w1:IntKind.u64.wrap ((A:Int)+(v.p:Int))=((A+v.p:Nat):Int):=by rw [IntKind.wrap_u64]; omega
   have w2:IntKind.u64.wrap ((B:Int)+(v.p:Int))=((B+v.p:Nat):Int):=by rw [IntKind.wrap_u64]; omega
   clear hR b1 b2 b3 hlz hbl hv hk hx
   generalize bytesH s.hdr=M at *
   generalize goodF v.k M x.r x.s=G at *
   obtain ⟨xi,xr,xs⟩:=x
   cases xi <;> cases G <;> simp at t2 t3
   all_goals
    (repeat' (first | (simp -implicitDefEqProofs only [go_sem,Nat.reduceLT,Nat.reduceAdd,Nat.reduceMul,reduceIte,Nat.reduceEqDiff,reduceCtorEq,Nat.reducePow,Nat.reduceLeDiff,Int.reduceLE,Int.reduceLT,Int.reduceToNat,Int.reduceEq,Nat.reduceBEq,encS,hdrD,bI,valsI,votesI,u64D,boolD,intD,encV,encX,sealD, *]) | (with_reducible refine ⟨?_,?_⟩; (· first | (obtain ⟨rfl⟩:=‹Hq _ _›; with_reducible refine chk_ok ?_; kernel_rfl) | kernel_rfl)) | (with_reducible intro ops hops) | (simp -implicitDefEqProofs (disch:=omega) only [wr64,wru64,get_lt]) | ((with_reducible refine call_id ?_); (first | ((with_reducible refine Call_fl (c2) ?_ ?_ ?_); (· (simp [encS,hdrD,bI,valsI,votesI,u64D,boolD,intD,encV,encX,sealD]; done)); (· (simp [encS,hdrD,bI,valsI,votesI,u64D,boolD,intD,encV,encX,sealD,and_assoc]; done))))) | ((with_reducible refine callF_id ?_); (first | ((with_reducible refine CallF_fl (c2) ?_ ?_ ?_); (· (simp [encS,hdrD,bI,valsI,votesI,u64D,boolD,intD,encV,encX,sealD]; done)); (· (intro G hG; simp [encS,hdrD,bI,valsI,votesI,u64D,boolD,intD,encV,encX,sealD] at hG; simp [encS,hdrD,bI,valsI,votesI,u64D,boolD,intD,encV,encX,sealD,hG,and_assoc]; done))))) | ((first | refine Wc_split (fun hg=>?_) (fun hg=>?_) | refine RoG_split (fun hg=>?_) (fun hg=>?_) | refine RdG_split (fun hg=>?_) (fun hg=>?_)) <;> (try simp only [nrm] at hg) <;> (try simp only [hg,lgc,reduceIte,reduceCtorEq] at hR) <;> (try (exfalso; omega))) | (refine ⟨i+1,h,?_,?_⟩; (· (refine le_stOf _ _ [] [] ?_ ?_ rfl rfl <;> (simp [Int.natCast_add,Int.natCast_zero,Int.natCast_one,encS,valsI,votesI,u64D,t1,t2,t3,Bool.or_true,Bool.or_false]; done))); (· (simp only; omega))) | ((try simp only [*,lgc,reduceIte,reduceCtorEq] at hR); obtain ⟨rfl⟩:=hR; refine fin_q (rs:=[.tmp 2,.tmp 3,.tmp 4]) rfl ?_; (try simp only [go_sem,Nat.reduceLT,Nat.reduceAdd,Nat.reduceMul,reduceIte,Nat.reduceEqDiff,reduceCtorEq,Nat.reducePow,Nat.reduceLeDiff,Int.reduceLE,Int.reduceLT,Int.reduceToNat,Int.reduceEq,Nat.reduceBEq,encS,hdrD,bI,valsI,votesI,u64D,boolD,intD,encV,encX,sealD]); (simp [encS,hdrD,bI,valsI,votesI,u64D,boolD,intD,encV,encX,sealD]; done))))
  ·have ht:s.vals.take i=s.vals:=List.take_of_length_le (by omega)
   have ht2:(s.vals.zip s.votes).take i=s.vals.zip s.votes:=List.take_of_length_le (by omega)
   rw [ht,ht2]
   (repeat' (first | (simp -implicitDefEqProofs only [go_sem,Nat.reduceLT,Nat.reduceAdd,Nat.reduceMul,reduceIte,Nat.reduceEqDiff,reduceCtorEq,Nat.reducePow,Nat.reduceLeDiff,Int.reduceLE,Int.reduceLT,Int.reduceToNat,Int.reduceEq,Nat.reduceBEq,encS,hdrD,bI,valsI,votesI,u64D,boolD,intD, *]) | (with_reducible refine ⟨?_,?_⟩; (· first | (obtain ⟨rfl⟩:=‹Hq _ _›; with_reducible refine chk_ok ?_; kernel_rfl) | kernel_rfl)) | (with_reducible intro ops hops) | (simp -implicitDefEqProofs (disch:=omega) only [wr64,wru64,get_lt]) | ((first | refine Wc_split (fun hg=>?_) (fun hg=>?_) | refine RoG_split (fun hg=>?_) (fun hg=>?_) | refine RdG_split (fun hg=>?_) (fun hg=>?_)) <;> (try simp only [nrm] at hg) <;> (try simp only [hg,lgc,reduceIte,reduceCtorEq] at hR) <;> (try (exfalso; omega))) | ((try simp only [*,lgc,reduceIte,reduceCtorEq] at hR); obtain ⟨rfl⟩:=hR; refine fin_q (rs:=[.tmp 2,.tmp 3,.tmp 4]) rfl ?_; (try simp only [go_sem,Nat.reduceLT,Nat.reduceAdd,Nat.reduceMul,reduceIte,Nat.reduceEqDiff,reduceCtorEq,Nat.reducePow,Nat.reduceLeDiff,Int.reduceLE,Int.reduceLT,Int.reduceToNat,Int.reduceEq,Nat.reduceBEq,encS,hdrD,bI,valsI,votesI,u64D,boolD,intD]); (simp [encS,hdrD,bI,valsI,votesI,u64D,boolD,intD]; done))))
structure SgnSm (s:SignedD):Prop where
 h:HdrSm s.hdr
 len:s.vals.length≤1048576
 k:∀ v∈s.vals,v.k < 18446744073709551616∧v.p < 18446744073709551616
 x:∀ x∈s.votes,x.r < 18446744073709551616∧x.s < 18446744073709551616
theorem hcheck_A (s:SignedD) (hs:SgnSm s):PureD Tryz.prog 110 [signedD s] (intD (checkS s)):=by
 refine hide_r fun R hR=>?_
 have c1:=hwrong_A s.hdr
 have c2:=hvals_A s.vals (by have:=hs.len; omega)
 have c4:=equal_A (digestV s.vals) s.hdr.vals
 unfold checkS at hR
 by_cases hv:valsW s.vals=0
 ·have ok:=valsW_zero.1 hv
  have c3:=hdigest_A s.vals (by have:=ok.len; omega) hs.k
  by_cases hl:s.votes.length=s.vals.length
  ·have c5:=hpower_A s hs.h ok hl (fun v h=>(hs.k v h).1) hs.x
   have b1:=sumP_le ok s.vals.length
   have b2:=yes_le ok s.votes (s.vals.zip s.votes).length
   rw [List.take_length] at b1 b2
   have hl':(s.votes.length:Int)=s.vals.length:=by omega
   rw [hv] at hR c2
   generalize sumP s.vals=A at *
   generalize yesF (s.vals.zip s.votes)=B at *
   generalize badF (bytesH s.hdr) (s.vals.zip s.votes)=C at *
   have w1:IntKind.u64.wrap (3 * (B:Int))=3 * (B:Int):=by rw [IntKind.wrap_u64]; omega
   have w2:IntKind.u64.wrap (2 * (A:Int))=2 * (A:Int):=by rw [IntKind.wrap_u64]; omega
   generalize digestV s.vals=X at *
   generalize hW:wrongH s.hdr=Wr at *
   clear b1 b2 hv ok hl hW hs
   simp only [hl',if_true] at hR
   cases C
   all_goals
    refine callD_W 50 Tryz.func110 rfl rfl rfl (fun _ _=>rfl) ?_
    (repeat' (first | (simp -implicitDefEqProofs only [go_sem,Nat.reduceLT,Nat.reduceAdd,Nat.reduceMul,reduceIte,Nat.reduceEqDiff,reduceCtorEq,Nat.reducePow,Nat.reduceLeDiff,Int.reduceLE,Int.reduceLT,Int.reduceToNat,Int.reduceEq,Nat.reduceBEq,signedD,hdrD,encS,bI,valsI,votesI,u64D,boolD,intD, *]) | (with_reducible refine ⟨?_,?_⟩; (· first | (obtain ⟨rfl⟩:=‹Hq _ _›; with_reducible refine chk_ok ?_; kernel_rfl) | kernel_rfl)) | (with_reducible intro ops hops) | (simp -implicitDefEqProofs (disch:=omega) only [wr64,wru64,get_lt]) | ((with_reducible refine call_id ?_); (first | ((with_reducible refine Call_fl (c1) ?_ ?_ ?_); (· (simp [signedD,hdrD,encS,bI,valsI,votesI,u64D,boolD,intD]; done)); (· (simp [signedD,hdrD,encS,bI,valsI,votesI,u64D,boolD,intD,and_assoc]; done))) | ((with_reducible refine Call_fl (c2) ?_ ?_ ?_); (· (simp [signedD,hdrD,encS,bI,valsI,votesI,u64D,boolD,intD]; done)); (· (simp [signedD,hdrD,encS,bI,valsI,votesI,u64D,boolD,intD,and_assoc]; done))) | ((with_reducible refine Call_fz (c3) ?_ ?_); (· (simp [signedD,hdrD,encS,bI,valsI,votesI,u64D,boolD,intD,and_assoc]; done))) | ((with_reducible refine Call_fl (c4) ?_ ?_ ?_); (· (simp [signedD,hdrD,encS,bI,valsI,votesI,u64D,boolD,intD]; done)); (· (simp [signedD,hdrD,encS,bI,valsI,votesI,u64D,boolD,intD,and_assoc]; done))) | ((with_reducible refine Call_fl (c5) ?_ ?_ ?_); (· (simp [signedD,hdrD,encS,bI,valsI,votesI,u64D,boolD,intD]; done)); (· (simp [signedD,hdrD,encS,bI,valsI,votesI,u64D,boolD,intD,and_assoc]; done))))) | ((with_reducible refine callF_id ?_); (first | ((with_reducible refine CallF_fl (c1) ?_ ?_ ?_); (· (simp [signedD,hdrD,encS,bI,valsI,votesI,u64D,boolD,intD]; done)); (· (intro G hG; simp [signedD,hdrD,encS,bI,valsI,votesI,u64D,boolD,intD] at hG; simp [signedD,hdrD,encS,bI,valsI,votesI,u64D,boolD,intD,hG,and_assoc]; done))) | ((with_reducible refine CallF_fl (c2) ?_ ?_ ?_); (· (simp [signedD,hdrD,encS,bI,valsI,votesI,u64D,boolD,intD]; done)); (· (intro G hG; simp [signedD,hdrD,encS,bI,valsI,votesI,u64D,boolD,intD] at hG; simp [signedD,hdrD,encS,bI,valsI,votesI,u64D,boolD,intD,hG,and_assoc]; done))) | ((with_reducible refine CallF_fz (c3) ?_ ?_); (· (intro G hG; simp [signedD,hdrD,encS,bI,valsI,votesI,u64D,boolD,intD] at hG; simp [signedD,hdrD,encS,bI,valsI,votesI,u64D,boolD,intD,hG,and_assoc]; done))) | ((with_reducible refine CallF_fl (c4) ?_ ?_ ?_); (· (simp [signedD,hdrD,encS,bI,valsI,votesI,u64D,boolD,intD]; done)); (· (intro G hG; simp [signedD,hdrD,encS,bI,valsI,votesI,u64D,boolD,intD] at hG; simp [signedD,hdrD,encS,bI,valsI,votesI,u64D,boolD,intD,hG,and_assoc]; done))) | ((with_reducible refine CallF_fl (c5) ?_ ?_ ?_); (· (simp [signedD,hdrD,encS,bI,valsI,votesI,u64D,boolD,intD]; done)); (· (intro G hG; simp [signedD,hdrD,encS,bI,valsI,votesI,u64D,boolD,intD] at hG; simp [signedD,hdrD,encS,bI,valsI,votesI,u64D,boolD,intD,hG,and_assoc]; done))))) | ((first | refine Wc_split (fun hg=>?_) (fun hg=>?_) | refine RoG_split (fun hg=>?_) (fun hg=>?_) | refine RdG_split (fun hg=>?_) (fun hg=>?_)) <;> (try simp only [nrm] at hg) <;> (try simp only [hg,lgc,reduceIte,reduceCtorEq] at hR) <;> (try (exfalso; omega))) | ((try simp only [*,lgc,reduceIte,reduceCtorEq] at hR); obtain ⟨rfl⟩:=hR; refine fin_q (rs:=[.tmp 2]) rfl ?_; (try simp only [go_sem,Nat.reduceLT,Nat.reduceAdd,Nat.reduceMul,reduceIte,Nat.reduceEqDiff,reduceCtorEq,Nat.reducePow,Nat.reduceLeDiff,Int.reduceLE,Int.reduceLT,Int.reduceToNat,Int.reduceEq,Nat.reduceBEq,signedD,hdrD,encS,bI,valsI,votesI,u64D,boolD,intD]); (simp [signedD,hdrD,encS,bI,valsI,votesI,u64D,boolD,intD]; done))))
  ·have hl':¬ (s.votes.length:Int)=s.vals.length:=by omega
   rw [hv] at hR c2
   clear hs hv ok
   simp only [hl',if_false] at hR
   generalize digestV s.vals=X at *
   generalize hW:wrongH s.hdr=Wr at *
   clear hW hl
   refine callD_W 50 Tryz.func110 rfl rfl rfl (fun _ _=>rfl) ?_
   (repeat' (first | (simp -implicitDefEqProofs only [go_sem,Nat.reduceLT,Nat.reduceAdd,Nat.reduceMul,reduceIte,Nat.reduceEqDiff,reduceCtorEq,Nat.reducePow,Nat.reduceLeDiff,Int.reduceLE,Int.reduceLT,Int.reduceToNat,Int.reduceEq,Nat.reduceBEq,signedD,hdrD,encS,bI,valsI,votesI,u64D,boolD,intD, *]) | (with_reducible refine ⟨?_,?_⟩; (· first | (obtain ⟨rfl⟩:=‹Hq _ _›; with_reducible refine chk_ok ?_; kernel_rfl) | kernel_rfl)) | (with_reducible intro ops hops) | (simp -implicitDefEqProofs (disch:=omega) only [wr64,wru64,get_lt]) | ((with_reducible refine call_id ?_); (first | ((with_reducible refine Call_fl (c1) ?_ ?_ ?_); (· (simp [signedD,hdrD,encS,bI,valsI,votesI,u64D,boolD,intD]; done)); (· (simp [signedD,hdrD,encS,bI,valsI,votesI,u64D,boolD,intD,and_assoc]; done))) | ((with_reducible refine Call_fl (c2) ?_ ?_ ?_); (· (simp [signedD,hdrD,encS,bI,valsI,votesI,u64D,boolD,intD]; done)); (· (simp [signedD,hdrD,encS,bI,valsI,votesI,u64D,boolD,intD,and_assoc]; done))) | ((with_reducible refine Call_fz (c3) ?_ ?_); (· (simp [signedD,hdrD,encS,bI,valsI,votesI,u64D,boolD,intD,and_assoc]; done))) | ((with_reducible refine Call_fl (c4) ?_ ?_ ?_); (· (simp [signedD,hdrD,encS,bI,valsI,votesI,u64D,boolD,intD]; done)); (· (simp [signedD,hdrD,encS,bI,valsI,votesI,u64D,boolD,intD,and_assoc]; done))))) | ((with_reducible refine callF_id ?_); (first | ((with_reducible refine CallF_fl (c1) ?_ ?_ ?_); (· (simp [signedD,hdrD,encS,bI,valsI,votesI,u64D,boolD,intD]; done)); (· (intro G hG; simp [signedD,hdrD,encS,bI,valsI,votesI,u64D,boolD,intD] at hG; simp [signedD,hdrD,encS,bI,valsI,votesI,u64D,boolD,intD,hG,and_assoc]; done))) | ((with_reducible refine CallF_fl (c2) ?_ ?_ ?_); (· (simp [signedD,hdrD,encS,bI,valsI,votesI,u64D,boolD,intD]; done)); (· (intro G hG; simp [signedD,hdrD,encS,bI,valsI,votesI,u64D,boolD,intD] at hG; simp [signedD,hdrD,encS,bI,valsI,votesI,u64D,boolD,intD,hG,and_assoc]; done))) | ((with_reducible refine CallF_fz (c3) ?_ ?_); (· (intro G hG; simp [signedD,hdrD,encS,bI,valsI,votesI,u64D,boolD,intD] at hG; simp [signedD,hdrD,encS,bI,valsI,votesI,u64D,boolD,intD,hG,and_assoc]; done))) | ((with_reducible refine CallF_fl (c4) ?_ ?_ ?_); (· (simp [signedD,hdrD,encS,bI,valsI,votesI,u64D,boolD,intD]; done)); (· (intro G hG; simp [signedD,hdrD,encS,bI,valsI,votesI,u64D,boolD,intD] at hG; simp [signedD,hdrD,encS,bI,valsI,votesI,u64D,boolD,intD,hG,and_assoc]; done))))) | ((first | refine Wc_split (fun hg=>?_) (fun hg=>?_) | refine RoG_split (fun hg=>?_) (fun hg=>?_) | refine RdG_split (fun hg=>?_) (fun hg=>?_)) <;> (try simp only [nrm] at hg) <;> (try simp only [hg,lgc,reduceIte,reduceCtorEq] at hR) <;> (try (exfalso; omega))) | ((try simp only [*,lgc,reduceIte,reduceCtorEq] at hR); obtain ⟨rfl⟩:=hR; refine fin_q (rs:=[.tmp 2]) rfl ?_; (try simp only [go_sem,Nat.reduceLT,Nat.reduceAdd,Nat.reduceMul,reduceIte,Nat.reduceEqDiff,reduceCtorEq,Nat.reducePow,Nat.reduceLeDiff,Int.reduceLE,Int.reduceLT,Int.reduceToNat,Int.reduceEq,Nat.reduceBEq,signedD,hdrD,encS,bI,valsI,votesI,u64D,boolD,intD]); (simp [signedD,hdrD,encS,bI,valsI,votesI,u64D,boolD,intD]; done))))
 ·clear c4
  generalize hW:wrongH s.hdr=Wr at *
  generalize valsW s.vals=V at *
  clear hW hs
  simp only [hv,if_false] at hR
  refine callD_W 50 Tryz.func110 rfl rfl rfl (fun _ _=>rfl) ?_
  (repeat' (first | (simp -implicitDefEqProofs only [go_sem,Nat.reduceLT,Nat.reduceAdd,Nat.reduceMul,reduceIte,Nat.reduceEqDiff,reduceCtorEq,Nat.reducePow,Nat.reduceLeDiff,Int.reduceLE,Int.reduceLT,Int.reduceToNat,Int.reduceEq,Nat.reduceBEq,signedD,hdrD,encS,bI,valsI,votesI,u64D,boolD,intD, *]) | (with_reducible refine ⟨?_,?_⟩; (· first | (obtain ⟨rfl⟩:=‹Hq _ _›; with_reducible refine chk_ok ?_; kernel_rfl) | kernel_rfl)) | (with_reducible intro ops hops) | (simp -implicitDefEqProofs (disch:=omega) only [wr64,wru64,get_lt]) | ((with_reducible refine call_id ?_); (first | ((with_reducible refine Call_fl (c1) ?_ ?_ ?_); (· (simp [signedD,hdrD,encS,bI,valsI,votesI,u64D,boolD,intD]; done)); (· (simp [signedD,hdrD,encS,bI,valsI,votesI,u64D,boolD,intD,and_assoc]; done))) | ((with_reducible refine Call_fl (c2) ?_ ?_ ?_); (· (simp [signedD,hdrD,encS,bI,valsI,votesI,u64D,boolD,intD]; done)); (· (simp [signedD,hdrD,encS,bI,valsI,votesI,u64D,boolD,intD,and_assoc]; done))))) | ((with_reducible refine callF_id ?_); (first | ((with_reducible refine CallF_fl (c1) ?_ ?_ ?_); (· (simp [signedD,hdrD,encS,bI,valsI,votesI,u64D,boolD,intD]; done)); (· (intro G hG; simp [signedD,hdrD,encS,bI,valsI,votesI,u64D,boolD,intD] at hG; simp [signedD,hdrD,encS,bI,valsI,votesI,u64D,boolD,intD,hG,and_assoc]; done))) | ((with_reducible refine CallF_fl (c2) ?_ ?_ ?_); (· (simp [signedD,hdrD,encS,bI,valsI,votesI,u64D,boolD,intD]; done)); (· (intro G hG; simp [signedD,hdrD,encS,bI,valsI,votesI,u64D,boolD,intD] at hG; simp [signedD,hdrD,encS,bI,valsI,votesI,u64D,boolD,intD,hG,and_assoc]; done))))) | ((first | refine Wc_split (fun hg=>?_) (fun hg=>?_) | refine RoG_split (fun hg=>?_) (fun hg=>?_) | refine RdG_split (fun hg=>?_) (fun hg=>?_)) <;> (try simp only [nrm] at hg) <;> (try simp only [hg,lgc,reduceIte,reduceCtorEq] at hR) <;> (try (exfalso; omega))) | ((try simp only [*,lgc,reduceIte,reduceCtorEq] at hR); obtain ⟨rfl⟩:=hR; refine fin_q (rs:=[.tmp 2]) rfl ?_; (try simp only [go_sem,Nat.reduceLT,Nat.reduceAdd,Nat.reduceMul,reduceIte,Nat.reduceEqDiff,reduceCtorEq,Nat.reducePow,Nat.reduceLeDiff,Int.reduceLE,Int.reduceLT,Int.reduceToNat,Int.reduceEq,Nat.reduceBEq,signedD,hdrD,encS,bI,valsI,votesI,u64D,boolD,intD]); (simp [signedD,hdrD,encS,bI,valsI,votesI,u64D,boolD,intD]; done))))
end Go.Proofs.YtadoaljnfeoecaaGreatDoor
set_option linter.all false
namespace Go.Proofs.YtadoaljnfeoecaaGreatDoor
open Go Go.Abs Go.RowKit Go.Proofs.YtadoaljnfeoecaaGreatDoor.Ty
set_option maxHeartbeats 4000000
theorem hit_le {z:List (ValD × VoteD)} {t:ValD} (ht:t.p≤1000000) (hz:z.length≤10) (i:Nat):hitF (z.take i) t≤10000000:=by
 have h1:=sum_le (f:=hitOf t) (k:=1000000) (l:=z.take i) (fun q _=>by unfold hitOf; split <;> omega)
 have h3:(z.take i).length≤10:=by rw [List.length_take]; omega
 unfold hitF
 have:(z.take i).length * 1000000≤10 * 1000000:=Nat.mul_le_mul_right _ h3
 omega
theorem hits_le {z:List (ValD × VoteD)} {tr:List ValD} (ht:ValsOk tr) (hz:z.length≤10) (j:Nat):hitsF z (tr.take j)≤100000000:=by
 have h1:=sum_le (f:=hitF z) (k:=10000000) (l:=tr.take j) (take_mem fun t h=>by
  have:=hit_le (t:=t) (ht.pow t h).2 hz z.length
  rw [List.take_length] at this; exact this)
 have h2:=ht.len
 have h3:(tr.take j).length≤10:=by rw [List.length_take]; omega
 unfold hitsF
 have:(tr.take j).length * 10000000≤10 * 10000000:=Nat.mul_le_mul_right _ h3
 omega
theorem hover_A (tr:List ValD) (s:SignedD) (ht:ValsOk tr) (hv:ValsOk s.vals) (hl:s.votes.length=s.vals.length):PureD Tryz.prog 114 [.i (valsI tr),signedD s] (boolD (overF tr s)):=by
 refine hide_r fun R hR=>?_
 have hlen:=ht.len
 have hlz:(s.vals.zip s.votes).length=s.vals.length:=by rw [List.length_zip]; omega
 have hz10:(s.vals.zip s.votes).length≤10:=by have:=hv.len; omega
 have hsl:=hv.len
 unfold overF at hR
 generalize hz:s.vals.zip s.votes=z at *
 refine callD_W 52 Tryz.func114 rfl rfl rfl (fun _ _=>rfl) ?_
 (repeat' (first | (simp -implicitDefEqProofs only [go_sem,Nat.reduceLT,Nat.reduceAdd,Nat.reduceMul,reduceIte,Nat.reduceEqDiff,reduceCtorEq,Nat.reducePow,Nat.reduceLeDiff,Int.reduceLE,Int.reduceLT,Int.reduceToNat,Int.reduceEq,Nat.reduceBEq,signedD,bI,valsI,votesI,u64D,boolD,intD, *]) | (with_reducible refine ⟨?_,?_⟩; (· first | (obtain ⟨rfl⟩:=‹Hq _ _›; with_reducible refine chk_ok ?_; kernel_rfl) | kernel_rfl)) | (with_reducible intro ops hops) | (simp -implicitDefEqProofs (disch:=omega) only [wr64,wru64,get_lt]) | ((first | refine Wc_split (fun hg=>?_) (fun hg=>?_) | refine RoG_split (fun hg=>?_) (fun hg=>?_) | refine RdG_split (fun hg=>?_) (fun hg=>?_)) <;> (try simp only [nrm] at hg) <;> (try simp only [hg,lgc,reduceIte,reduceCtorEq] at hR) <;> (try (exfalso; omega))) | ((try simp only [*,lgc,reduceIte,reduceCtorEq] at hR); obtain ⟨rfl⟩:=hR; refine fin_q (rs:=[.tmp 4]) rfl ?_; (try simp only [go_sem,Nat.reduceLT,Nat.reduceAdd,Nat.reduceMul,reduceIte,Nat.reduceEqDiff,reduceCtorEq,Nat.reducePow,Nat.reduceLeDiff,Int.reduceLE,Int.reduceLT,Int.reduceToNat,Int.reduceEq,Nat.reduceBEq,signedD,bI,valsI,votesI,u64D,boolD,intD]); (simp [signedD,bI,valsI,votesI,u64D,boolD,intD]; done))))
 refine W_loopI (ι:=Nat) (fun j=>j≤tr.length)
  (fun j=>stOf [(3,.pt 100 0 0 0),(5,u64D (sumP (tr.take j))),(6,u64D (hitsF z (tr.take j))),(11,.i (valsI tr)),(12,intD tr.length),(13,intD j)] [(100,.box ((encS s).map .i))]) (fun j=>tr.length - j) 0 (Nat.zero_le _) ?_ ?_
 ·(refine le_stOf _ _ [] [(100,1000)] ?_ ?_ rfl rfl <;> (simp [Int.natCast_add,Int.natCast_zero,Int.natCast_one,encS,valsI,votesI,u64D,sumP,hitsF]; done))
 ·rintro j hj
  rw [stOf_eq]
  by_cases h:j < tr.length
  ·have e1:=get_lt (f:=encV) h
   have b1:=sumP_le ht j
   have b2:=hits_le ht hz10 j
   have b3:=ht.pow tr[j] (List.getElem_mem h)
   have t1:sumP (tr.take (j+1))=sumP (tr.take j)+tr[j].p:=sum_take h
   have t2:hitsF z (tr.take (j+1))=hitsF z (tr.take j)+hitF z tr[j]:=sum_take h
   generalize tr[j]=t at *
   generalize sumP (tr.take j)=A at *
   generalize hitsF z (tr.take j)=B at *
   have w1:IntKind.u64.wrap ((A:Int)+(t.p:Int))=((A+t.p:Nat):Int):=by rw [IntKind.wrap_u64]; omega
   (repeat' (first | (simp -implicitDefEqProofs only [go_sem,Nat.reduceLT,Nat.reduceAdd,Nat.reduceMul,reduceIte,Nat.reduceEqDiff,reduceCtorEq,Nat.reducePow,Nat.reduceLeDiff,Int.reduceLE,Int.reduceLT,Int.reduceToNat,Int.reduceEq,Nat.reduceBEq,encS,bI,valsI,votesI,u64D,boolD,intD,encV, *]) | (with_reducible refine ⟨?_,?_⟩; (· first | (obtain ⟨rfl⟩:=‹Hq _ _›; with_reducible refine chk_ok ?_; kernel_rfl) | kernel_rfl)) | (with_reducible intro ops hops) | (simp -implicitDefEqProofs (disch:=omega) only [wr64,wru64,get_lt]) | ((first | refine Wc_split (fun hg=>?_) (fun hg=>?_) | refine RoG_split (fun hg=>?_) (fun hg=>?_) | refine RdG_split (fun hg=>?_) (fun hg=>?_)) <;> (try simp only [nrm] at hg) <;> (try simp only [hg,lgc,reduceIte,reduceCtorEq] at hR) <;> (try (exfalso; omega))) | ((try simp only [*,lgc,reduceIte,reduceCtorEq] at hR); obtain ⟨rfl⟩:=hR; refine fin_q (rs:=[.tmp 4]) rfl ?_; (try simp only [go_sem,Nat.reduceLT,Nat.reduceAdd,Nat.reduceMul,reduceIte,Nat.reduceEqDiff,reduceCtorEq,Nat.reducePow,Nat.reduceLeDiff,Int.reduceLE,Int.reduceLT,Int.reduceToNat,Int.reduceEq,Nat.reduceBEq,encS,bI,valsI,votesI,u64D,boolD,intD,encV]); (simp [encS,bI,valsI,votesI,u64D,boolD,intD,encV]; done))))
   refine W_loopI (ι:=Nat) (fun i=>i≤s.vals.length)
    (fun i=>stOf [(3,.pt 100 0 0 0),(8,.pt 101 0 0 0),(5,u64D (A+t.p)),(6,u64D (B+hitF (z.take i) t)),(11,.i (valsI tr)),(12,intD tr.length),(13,intD j),(22,.i (valsI s.vals)),(23,intD s.vals.length),(24,intD i)] [(100,.box ((encS s).map .i)),(101,.box [.i (.s (.int .u64 t.k)),.i (.s (.int .u64 t.p))])]) (fun i=>s.vals.length - i) 0 (Nat.zero_le _) ?_ ?_
   ·(refine le_stOf _ _ [] [(100,100),(101,2026)] ?_ ?_ rfl rfl <;> (simp [Int.natCast_add,Int.natCast_zero,Int.natCast_one,encS,valsI,votesI,u64D,hitF]; done))
   ·rintro i hi
    rw [stOf_eq]
    by_cases h':i < s.vals.length
    ·have h2:i < s.votes.length:=by omega
     have e1:=get_lt (f:=encV) h'
     have e2:=get_lt (f:=encX) h2
     have b4:=hit_le (t:=t) b3.2 hz10 i
     have t3:hitF (z.take (i+1)) t=hitF (z.take i) t+hitOf t (z[i]'(by omega)):=sum_take (by omega)
     have hzi:z[i]'(by omega)=(s.vals[i],s.votes[i]):=by subst hz; exact zip_get h' h2
     rw [hzi] at t3
     clear hzi
     generalize s.vals[i]=v at *
     generalize s.votes[i]=x at *
     generalize hitF (z.take i) t=C at *
     rw [show hitOf t (v,x)=if v.k=t.k∧x.is=true then t.p else 0 from rfl] at t3
     have w2:IntKind.u64.wrap (((B+C:Nat):Int)+(t.p:Int))=((B+C+t.p:Nat):Int):=by rw [IntKind.wrap_u64]; omega
     have k1:((v.k:Int)=(t.k:Int))=(v.k=t.k):=propext (by omega)
     clear hR b1 b2 b3 b4 hlz hlen ht hv t1 t2 w1 hz hz10
     obtain ⟨xi,xr,xs⟩:=x
     by_cases hk:v.k=t.k <;> cases xi <;> simp only [hk,true_and,Bool.false_eq_true,if_false,if_true,and_self,false_and,and_false,Nat.add_zero] at t3
     all_goals
      (repeat' (first | (simp -implicitDefEqProofs only [go_sem,Nat.reduceLT,Nat.reduceAdd,Nat.reduceMul,reduceIte,Nat.reduceEqDiff,reduceCtorEq,Nat.reducePow,Nat.reduceLeDiff,Int.reduceLE,Int.reduceLT,Int.reduceToNat,Int.reduceEq,Nat.reduceBEq,encS,bI,valsI,votesI,u64D,boolD,intD,encV,encX, *]) | (with_reducible refine ⟨?_,?_⟩; (· first | (obtain ⟨rfl⟩:=‹Hq _ _›; with_reducible refine chk_ok ?_; kernel_rfl) | kernel_rfl)) | (with_reducible intro ops hops) | (simp -implicitDefEqProofs (disch:=omega) only [wr64,wru64,get_lt]) | ((first | refine Wc_split (fun hg=>?_) (fun hg=>?_) | refine RoG_split (fun hg=>?_) (fun hg=>?_) | refine RdG_split (fun hg=>?_) (fun hg=>?_)) <;> (try simp only [nrm] at hg) <;> (try simp only [hg,lgc,reduceIte,reduceCtorEq] at hR) <;> (try (exfalso; omega))) | (refine ⟨i+1,h',?_,?_⟩; (· (refine le_stOf _ _ [] [(100,100),(101,101)] ?_ ?_ rfl rfl <;> (simp [Int.natCast_add,Int.natCast_zero,Int.natCast_one,encS,valsI,votesI,u64D,t3,Nat.add_assoc,Int.add_assoc]; done))); (· (simp only; omega))) | ((try simp only [*,lgc,reduceIte,reduceCtorEq] at hR); obtain ⟨rfl⟩:=hR; refine fin_q (rs:=[.tmp 4]) rfl ?_; (try simp only [go_sem,Nat.reduceLT,Nat.reduceAdd,Nat.reduceMul,reduceIte,Nat.reduceEqDiff,reduceCtorEq,Nat.reducePow,Nat.reduceLeDiff,Int.reduceLE,Int.reduceLT,Int.reduceToNat,Int.reduceEq,Nat.reduceBEq,encS,bI,valsI,votesI,u64D,boolD,intD,encV,encX]); (simp [encS,bI,valsI,votesI,u64D,boolD,intD,encV,encX]; done))))
    ·have hti:z.take i=z:=List.take_of_length_le (by omega)
     rw [hti]
     clear hR b1 b2 b3 ht hv hlz hz10 hti w1
     (repeat' (first | (simp -implicitDefEqProofs only [go_sem,Nat.reduceLT,Nat.reduceAdd,Nat.reduceMul,reduceIte,Nat.reduceEqDiff,reduceCtorEq,Nat.reducePow,Nat.reduceLeDiff,Int.reduceLE,Int.reduceLT,Int.reduceToNat,Int.reduceEq,Nat.reduceBEq,encS,bI,valsI,votesI,u64D,boolD,intD, *]) | (with_reducible refine ⟨?_,?_⟩; (· first | (obtain ⟨rfl⟩:=‹Hq _ _›; with_reducible refine chk_ok ?_; kernel_rfl) | kernel_rfl)) | (with_reducible intro ops hops) | (simp -implicitDefEqProofs (disch:=omega) only [wr64,wru64,get_lt]) | ((first | refine Wc_split (fun hg=>?_) (fun hg=>?_) | refine RoG_split (fun hg=>?_) (fun hg=>?_) | refine RdG_split (fun hg=>?_) (fun hg=>?_)) <;> (try simp only [nrm] at hg) <;> (try simp only [hg,lgc,reduceIte,reduceCtorEq] at hR) <;> (try (exfalso; omega))) | (refine ⟨j+1,h,?_,?_⟩; (· (refine le_stOf _ _ [] [(100,100)] ?_ ?_ rfl rfl <;> (simp [Int.natCast_add,Int.natCast_zero,Int.natCast_one,encS,valsI,votesI,u64D,t1,t2]; done))); (· (simp only; omega))) | ((try simp only [*,lgc,reduceIte,reduceCtorEq] at hR); obtain ⟨rfl⟩:=hR; refine fin_q (rs:=[.tmp 4]) rfl ?_; (try simp only [go_sem,Nat.reduceLT,Nat.reduceAdd,Nat.reduceMul,reduceIte,Nat.reduceEqDiff,reduceCtorEq,Nat.reducePow,Nat.reduceLeDiff,Int.reduceLE,Int.reduceLT,Int.reduceToNat,Int.reduceEq,Nat.reduceBEq,encS,bI,valsI,votesI,u64D,boolD,intD]); (simp [encS,bI,valsI,votesI,u64D,boolD,intD]; done))))
  ·have htj:tr.take j=tr:=List.take_of_length_le (by omega)
   have b1:=sumP_le ht j
   have b2:=hits_le ht hz10 j
   rw [htj] at b1 b2 ⊢
   generalize sumP tr=A at *
   generalize hitsF z tr=B at *
   have w1:IntKind.u64.wrap (3 * (B:Int))=((3 * B:Nat):Int):=by rw [IntKind.wrap_u64]; omega
   have k1:decide ((A:Int) < ((3 * B:Nat):Int))=decide (A < 3 * B):=by congr 1; exact propext (by omega)
   clear b1 b2 ht hv hlz hz10 htj
   (repeat' (first | (simp -implicitDefEqProofs only [go_sem,Nat.reduceLT,Nat.reduceAdd,Nat.reduceMul,reduceIte,Nat.reduceEqDiff,reduceCtorEq,Nat.reducePow,Nat.reduceLeDiff,Int.reduceLE,Int.reduceLT,Int.reduceToNat,Int.reduceEq,Nat.reduceBEq,encS,bI,valsI,votesI,u64D,boolD,intD, *]) | (with_reducible refine ⟨?_,?_⟩; (· first | (obtain ⟨rfl⟩:=‹Hq _ _›; with_reducible refine chk_ok ?_; kernel_rfl) | kernel_rfl)) | (with_reducible intro ops hops) | (simp -implicitDefEqProofs (disch:=omega) only [wr64,wru64,get_lt]) | ((first | refine Wc_split (fun hg=>?_) (fun hg=>?_) | refine RoG_split (fun hg=>?_) (fun hg=>?_) | refine RdG_split (fun hg=>?_) (fun hg=>?_)) <;> (try simp only [nrm] at hg) <;> (try simp only [hg,lgc,reduceIte,reduceCtorEq] at hR) <;> (try (exfalso; omega))) | ((try simp only [*,lgc,reduceIte,reduceCtorEq] at hR); obtain ⟨rfl⟩:=hR; refine fin_q (rs:=[.tmp 4]) rfl ?_; (try simp only [go_sem,Nat.reduceLT,Nat.reduceAdd,Nat.reduceMul,reduceIte,Nat.reduceEqDiff,reduceCtorEq,Nat.reducePow,Nat.reduceLeDiff,Int.reduceLE,Int.reduceLT,Int.reduceToNat,Int.reduceEq,Nat.reduceBEq,encS,bI,valsI,votesI,u64D,boolD,intD]); (simp [encS,bI,valsI,votesI,u64D,boolD,intD]; done))))
structure SeedsSm (l:List (List UInt8)):Prop where
 len:l.length≤1048576
 b:∀ s∈l,s.length≤1048576
end Go.Proofs.YtadoaljnfeoecaaGreatDoor
set_option linter.all false
namespace Go.Proofs.YtadoaljnfeoecaaGreatDoor
open Go Go.Abs Go.RowKit Go.Proofs.YtadoaljnfeoecaaGreatDoor.Ty
set_option maxHeartbeats 4000000
set_option maxRecDepth 20000
structure UpSm (u:UpdD):Prop where
 s:SgnSm u.sg
 l:u.tr.length≤1048576
 k:∀ v∈u.tr,v.k < 18446744073709551616∧v.p < 18446744073709551616
 n:u.sg.hdr.next.length≤1048576
theorem cbelieve_A (c:ClientD) (u:UpdD) (now:Int) (hc:ClOk c) (hu:UpSm u) (hn:0≤now∧now≤1000000000000) :
  PureD Tryz.prog 72 [.rp (encC c) 0,.rp (encU u) 0,intD now] (intD (beE c u now)):=by
 refine hide_r fun R hR=>?_
 have c1:=hcheck_A u.sg hu.s
 have c2:=cat_A c u.fr hc.sm
 unfold beE at hR
 by_cases h1:checkS u.sg=0
 ·rw [if_pos h1] at hR
  rw [h1] at c1
  obtain ⟨hv,hl,hw⟩:=check_vals h1
  unfold atR at c2
  cases h2:atC c u.fr with
  | none =>
   rw [h2] at hR c2
   simp only [zeroK] at c2
   clear hu h1 h2
   refine callD_W 127 Tryz.func72 rfl rfl rfl (fun _ _=>rfl) ?_
   exact wkl trivial
  | some k =>
   rw [h2] at hR c2
   simp only at hR c2
   have hk:=hc.k k (at_mem h2).1
   have k1:=hk.h
   have k2:=hk.t
   have w1:IntKind.i64.wrap (now - k.t)=now - k.t:=wrap64 (by omega) (by omega)
   have w2:IntKind.i64.wrap (now+10)=now+10:=wrap64 (by omega) (by omega)
   have w3:IntKind.i64.wrap (k.h+1)=k.h+1:=wrap64 (by omega) (by omega)
   have c3:=equal_A u.sg.hdr.vals k.next
   have c4:=hvals_A u.tr hu.l
   unfold beE1 beE2 at hR
   by_cases h3:valsW u.tr=0
   ·have ho:=valsW_zero.1 h3
    rw [h3] at c4
    rw [if_pos h3] at hR
    have c5:=hdigest_A u.tr (by have:=ho.len; omega) hu.k
    have c6:=equal_A (digestV u.tr) k.next
    have c7:=hover_A u.tr u.sg ho hv hl
    clear hu h1 h2 h3 ho hv hl hw hk
    generalize digestV u.tr=X at *
    generalize overF u.tr u.sg=V at *
    refine callD_W 127 Tryz.func72 rfl rfl rfl (fun _ _=>rfl) ?_
    exact wkl trivial
   ·rw [if_neg h3] at hR
    generalize valsW u.tr=W at *
    clear hu h1 h2 hv hl hw hk
    refine callD_W 127 Tryz.func72 rfl rfl rfl (fun _ _=>rfl) ?_
    exact wkl trivial
 ·rw [if_neg h1] at hR
  generalize checkS u.sg=W at *
  clear hu c2
  refine callD_W 127 Tryz.func72 rfl rfl rfl (fun _ _=>rfl) ?_
  exact wkl trivial
end Go.Proofs.YtadoaljnfeoecaaGreatDoor
set_option linter.all false
namespace Go.Proofs.YtadoaljnfeoecaaGreatDoor
open Go Go.Abs Go.RowKit Go.Proofs.YtadoaljnfeoecaaGreatDoor.Ty
theorem tyInsKn0:(type_of% @Ty.T3)∧(type_of% @Ty.T4)∧(type_of% @Ty.T5)∧(type_of% @Ty.T29)∧(type_of% @Ty.T31)∧(type_of% @Ty.T76):=⟨@Ty.T3,@Ty.T4,@Ty.T5,@Ty.T29,@Ty.T31,@Ty.T76⟩
theorem overlaps_Kn {G:Nat→Ob} {o o2 off off2 len len2 cap:Nat} {es es2:List (List I)} (ho:G o=.arr 4 es) (ho2:G o2=.arr 4 es2) (hne:o≠o2) (h1:0 < len) (h2:0 < len2) :
  DirD Tryz.prog 115 [.os o2 4 off2 len2,.oc o 4 off len cap] G (boolD false) G:=by
 intro K0 T K vs hr hrd
 obtain ⟨hs,hg⟩:=hrd
 have e:vs=#[vs.getD 0 undef,vs.getD 1 undef]:=by
  apply Array.ext
  ·simpa using hs
  ·intro i h1 h2
   simp at hs
   have:i=0∨i=1:=by omega
   rcases this with rfl | rfl <;> simp [Array.getD,hs]
 have hrun:=overlaps_run (P:=Tryz.prog) (t:=76) (tR:=4) (s:=4) Tryz.underlying76 (sz_run (by kernel_rfl)) hr (hg 0 _ rfl) (hg 1 _ rfl) ho ho2 hne h1 h2
 rw [e]
 refine ⟨.bool false,K,?_,Ext.refl K,hr,.i (.s _ rfl)⟩
 rw [run_callFunc_extern Tryz.func115 (by kernel_rfl) (by kernel_rfl) (by kernel_rfl) (e:=Extern.SlicesOverlaps.overlaps #[76,76] #[4]) (by kernel_rfl),hrun]
 rfl
set_option maxHeartbeats 4000000
theorem insert_Kn (es:List (List I)) (p:List I) (i:Nat) (hi:i≤es.length) (hl:es.length≤1048576) (hu:∀ e∈es,e.length=4) (hp:p.length=4) :
  CallD Tryz.prog 75 [.os 0 4 0 es.length,intD i,.os 2 4 0 1] (hF [(0,.arr 4 es),(2,.arr 4 [p])]) (.os 1 4 0 (es.length+1))
   (hOf (hF [(0,.arr 4 es),(2,.arr 4 [p])]) [(1,.arr 4 (es.take i++p :: es.drop i))]):=by
 have hu2:=uN hu
 by_cases hin:i=es.length
 ·subst hin
  have e3:es.length+1≤140737488355328:=by omega
  have e4:(es.length+1) * 64≤140737488355328:=by omega
  refine callD_W 95 Tryz.func75 rfl rfl rfl (fun o ho=>by simp [hF,lk,show o≠0 by omega,show o≠1 by omega,show o≠2 by omega,show o≠3 by omega,show o≠4 by omega,show o≠5 by omega]) ?_
  refine gx (an (an (an (an (an (an (an tyInsKn0 @intD.eq_1) e3) e4) @hp) hu2) @Int.le_refl) @Nat.sub_self) ?_
  refine fin_retD [(1,.arr 4 (es++[p]))] [] [(1,2794)] rfl ?_ ?_ rfl ?_ rfl
  ·simp [cv,cv1,cv0,upd,srcR,hF,lk]
  ·simp [objOk,srcR,lk,cvO,frz,upd,hF]
  ·simp [hF,lk]
 ·have hlt:i < es.length:=by omega
  refine oc_case (by omega) fun c hc=>?_
  have g1:decide ((i:Int)=(es.length:Int))=false:=decide_eq_false (by omega)
  have w1:IntKind.i64.wrap ((es.length:Int)+1)=((es.length+1:Nat):Int):=by rw [wrap64 (by omega) (by omega)]; omega
  have w2:IntKind.i64.wrap ((i:Int)+1)=((i+1:Nat):Int):=by rw [wrap64 (by omega) (by omega)]; omega
  have l1:(i≤es.length)=True:=eq_true (by omega)
  have l2:(es.length≤c)=True:=eq_true (by omega)
  have l3:(i≤es.length+1)=True:=eq_true (by omega)
  have l6:(i≤c)=True:=eq_true (by omega)
  have l4:(i+1≤es.length+1)=True:=eq_true (by omega)
  have m2:i+(es.length - i)=es.length:=by omega
  have m4:min 1 (es.length+1 - i)=1:=by omega
  have l7:(es.length - i≤es.length+1 - i)=True:=eq_true (by omega)
  have l8:(i+1≤es.length)=True:=eq_true (by omega)
  have tk:(es.drop i).take (es.length - i)=es.drop i:=List.take_of_length_le (by simp)
  have hu3:uni 4 (es.drop i)=true:=uN fun e he=>hu e (List.mem_of_mem_drop he)
  by_cases hroom:es.length+1≤c
  ·have g2:decide ((c:Int) < ((es.length+1:Nat):Int))=false:=decide_eq_false (by omega)
   have l5:(es.length+1≤c)=True:=eq_true (by omega)
   have m1:min (es.length+1 - i) (es.length+1 - (i+1))=es.length - i:=by omega
   have l9:(i≤(over es (i+1) (es.drop i)).length)=True:=eq_true (by unfold over; simp; omega)
   have hos:=ins_shift (p:=p) hlt
   refine callD_W 95 Tryz.func75 rfl rfl rfl (fun o ho=>by simp [hF,lk,show o≠0 by omega,show o≠1 by omega,show o≠2 by omega,show o≠3 by omega,show o≠4 by omega,show o≠5 by omega]) ?_
   (repeat (first | (simp -implicitDefEqProofs only [ev,mixed,Nat.reduceLT,Nat.reduceAdd,Nat.reduceMul,reduceIte,Nat.reduceEqDiff,reduceCtorEq,Nat.reducePow,Nat.reduceLeDiff,Int.reduceLE,Int.reduceLT,Int.reduceToNat,Int.reduceEq,Nat.reduceBEq,itsOf,gdA,byteI,opid,lenQ,ixQ,ldH,readAt,readCells,asCell,faQ,exQ,fldQ,partA,buildQ,slQ,stH,bslH,appH,dcells,convI,elemsOf,D.one,nilS,fillD,convN,cvH,tyInsKn0,intD,slX,capX,lenX,g1,g2,w1,w2,l1,l2,l3,l4,l5,true_or,Nat.sub_zero,Nat.zero_le,l6,hp,hu2]) | (with_reducible refine ⟨?_,?_⟩; (· first | (obtain ⟨rfl⟩:=‹Hq _ _›; with_reducible refine chk_ok ?_; kernel_rfl) | kernel_rfl)) | (with_reducible intro ops hops)))
   refine ⟨_,_,.inr (overlaps_Kn (len:=es.length+1 - (i+1)) (len2:=1) (by simp [hF,lk]; rfl) (by simp [hF,lk]; rfl) (by decide) (by omega) (by omega)),?_⟩
   (repeat (first | (simp -implicitDefEqProofs only [ev,mixed,Nat.reduceLT,Nat.reduceAdd,Nat.reduceMul,reduceIte,Nat.reduceEqDiff,reduceCtorEq,Nat.reducePow,Nat.reduceLeDiff,Int.reduceLE,Int.reduceLT,Int.reduceToNat,Int.reduceEq,Nat.reduceBEq,itsOf,gdA,byteI,opid,lenQ,ixQ,ldH,readAt,readCells,asCell,faQ,exQ,fldQ,partA,buildQ,slQ,stH,bslH,appH,dcells,convI,elemsOf,D.one,nilS,fillD,convN,cvH,tyInsKn0,boolD,intD,slX,capX,lenX,cpX,dstX,lenS,srcX,w1,w2,l1,l2,l3,l4,l5,true_or,Nat.sub_zero,Nat.zero_le,l6,hp,hu2,m1,m2,m4,l7,l8,l9,tk,hu3]) | (with_reducible refine ⟨?_,?_⟩; (· first | (obtain ⟨rfl⟩:=‹Hq _ _›; with_reducible refine chk_ok ?_; kernel_rfl) | kernel_rfl)) | (with_reducible intro ops hops)))
   have hos2:(over (over es (i+1) (es.drop i)) i [p]).take (es.length+1)=es.take i++p :: es.drop i:=by rw [hos]; exact List.take_of_length_le (by simp; omega)
   rw [← hos2]
   exact fin_oc (o:=0) (cap:=c) rfl (by simp [upd]) (by simp [upd,hF,lk]) (by simp [upd,hF,lk]) (by simp [hF,lk]) (by simp [hF,lk])
  ·have g2:decide ((c:Int) < ((es.length+1:Nat):Int))=true:=decide_eq_true (by omega)
   have l5:(c < es.length+1)=True:=eq_true (by omega)
   have s1:i+(es.length+1 - i)=es.length+1:=by omega
   have e3:es.length+1≤140737488355328:=by omega
   have e4:(es.length+1) * 64≤140737488355328:=by omega
   have m1:min (es.length - i) (es.length+1 - (i+1))=es.length - i:=by omega
   have L1:((i:Int)≤((es.length+1:Nat):Int))=True:=eq_true (by omega)
   have L2:(((i+1:Nat):Int)≤((es.length+1:Nat):Int))=True:=eq_true (by omega)
   have hti:(es.take i).length=i:=by simp; omega
   have l9:(i+1≤(over (es.take i++List.replicate (es.length+1 - i) [I.s (.int .i64 0),I.s (.int .i64 0),I.sl [],I.sl []]) i [p]).length)=True:=eq_true (by rw [over_len (by simp; omega)]; simp; omega)
   have hos:=ins_grow (es:=es) (R:=List.replicate (es.length+1 - i) [I.s (.int .i64 0),I.s (.int .i64 0),I.sl [],I.sl []]) (p:=p) hlt (by simp)
   have w3:IntKind.i64.wrap (((es.length+1:Nat):Int) - (i:Int))=((es.length+1 - i:Nat):Int):=by rw [wrap64 (by omega) (by omega)]; omega
   refine callD_W 95 Tryz.func75 rfl rfl rfl (fun o ho=>by simp [hF,lk,show o≠0 by omega,show o≠1 by omega,show o≠2 by omega,show o≠3 by omega,show o≠4 by omega,show o≠5 by omega]) ?_
   (repeat (first | (simp -implicitDefEqProofs only [ev,mixed,Nat.reduceLT,Nat.reduceAdd,Nat.reduceMul,reduceIte,Nat.reduceEqDiff,reduceCtorEq,Nat.reducePow,Nat.reduceLeDiff,Int.reduceLE,Int.reduceLT,Int.reduceToNat,Int.reduceEq,Nat.reduceBEq,itsOf,gdA,byteI,opid,lenQ,ixQ,ldH,readAt,readCells,asCell,faQ,exQ,fldQ,partA,buildQ,slQ,stH,bslH,appH,dcells,convI,elemsOf,D.one,nilS,fillD,convN,cvH,tyInsKn0,intD,slX,capX,lenX,apX,cpX,dstX,lenS,srcX,g1,g2,w1,w2,w3,l1,l2,l3,l4,l5,true_or,Nat.sub_zero,Nat.zero_le,l6,hp,hu2,s1,e3,e4,L1,L2,m4,m1,m2,hti,l7,l8,l9,tk,hu3]) | (with_reducible refine ⟨?_,?_⟩; (· first | (obtain ⟨rfl⟩:=‹Hq _ _›; with_reducible refine chk_ok ?_; kernel_rfl) | kernel_rfl)) | (with_reducible intro ops hops)))
   refine fin_retD [(1,.arr 4 (es.take i++p :: es.drop i))] [] [(1,3312)] rfl ?_ ?_ rfl ?_ rfl
   ·simp [cv,cv1,cv0,upd,srcR,hF,lk]
   ·simp [objOk,srcR,lk,cvO,frz,upd,hF,hos]
   ·simp [hF,lk]
end Go.Proofs.YtadoaljnfeoecaaGreatDoor
set_option linter.all false
namespace Go.Proofs.YtadoaljnfeoecaaGreatDoor
open Go Go.Abs Go.RowKit Go.Proofs.YtadoaljnfeoecaaGreatDoor.Ty
set_option maxHeartbeats 4000000
set_option maxRecDepth 20000
theorem cdiff_A (k:KnownD) (h:Int) (hk:KnOk k) (hh:1≤h∧h≤1000000000000):PureD Tryz.prog 74 [knownD k,intD h] (intD (k.h - h)):=by
 refine hide_r fun R hR=>?_
 have k1:=hk.h
 have w1:IntKind.i64.wrap (k.h - h)=k.h - h:=wrap64 (by omega) (by omega)
 refine callD_W 9 Tryz.func74 rfl rfl rfl (fun _ _=>rfl) ?_
 exact wkl trivial
theorem csearch_A (l:List KnownD) (h:Int) (p:Nat) (hl:l.length≤1048576) (hp:p≤l.length) (hk:∀ k∈l,KnOk k) (hh:1≤h∧h≤1000000000000) (hm:∀ a (ha:a < l.length),l[a].h < h↔a < p) :
  PureD Tryz.prog 73 [.i (knownI l),intD h,.fn 74 []]
   (.tup [intD p,boolD (if ha:p < l.length then decide (l[p].h=h) else false)]):=by
 refine hide_r fun R hR=>?_
 refine callD_W 49 Tryz.func73 rfl rfl rfl (fun _ _=>rfl) ?_
 refine wkl ?_
 clear hR; intro hR
 refine W_loopR (ι:=Nat × Nat) (fun q=>q.1≤p∧p≤q.2∧q.2≤l.length)
  (fun q=>stOf [(0,.i (knownI l)),(1,intD h),(2,.fn 74 []),(8,intD l.length),(9,intD q.1),(10,intD q.2)] []) (fun q=>q.2 - q.1) (0,l.length) ⟨Nat.zero_le _,hp,Nat.le_refl _⟩ ?_ ?_
 ·exact le_ok [] []
 ·rintro ⟨i,j⟩ ⟨h1,h2,h3⟩ RL hL
  simp only at h1 h2 h3
  rw [stOf_eq]
  by_cases hij:i < j
  ·have hml:(i+j) / 2 < l.length:=by omega
   have s0:=get_lt (f:=encK) hml
   have hmm:=hm _ hml
   have c1:=cdiff_A _ h (hk _ (List.getElem_mem hml)) hh
   have w1:IntKind.i64.wrap ((i:Int)+(j:Int))=((i+j:Nat):Int):=by rw [wrap64 (by omega) (by omega)]; omega
   have w2:IntKind.u64.wrap ((i+j:Nat):Int)=((i+j:Nat):Int):=by rw [IntKind.wrap_u64]; omega
   have w3:((i+j:Nat):Int).fdiv (2 ^ min 1 64)=(((i+j) / 2:Nat):Int):=by
    rw [show min 1 64=1 from rfl,Int.fdiv_eq_ediv_of_nonneg _ (by decide)]; omega
   have w4:IntKind.i64.wrap (((i+j) / 2:Nat):Int)=(((i+j) / 2:Nat):Int):=by rw [wrap64 (by omega) (by omega)]
   have hmid1:i≤(i+j) / 2:=by omega
   have hmid2:(i+j) / 2 < j:=by omega
   generalize l[(i+j) / 2]=q at *
   by_cases hq:q.h < h
   ·have b1:=fun σ'=>bk [] [] (hL ((i+j) / 2+1,j) σ' ⟨hmm.1 hq,h2,h3⟩)
    clear hL
    simp only at b1
    generalize (i+j) / 2=m at *
    have hq':q.h - h < 0:=by omega
    clear hm hmm hk hR
    exact wkl trivial
   ·have b1:=fun σ'=>bk [] [] (hL (i,(i+j) / 2) σ' ⟨h1,by have:=fun e=>hq (hmm.2 e); omega,by omega⟩)
    clear hL
    simp only at b1
    generalize (i+j) / 2=m at *
    have hq':¬ q.h - h < 0:=by omega
    clear hm hmm hk hR
    exact wkl trivial
  ·have hi:i=p:=by omega
   subst hi
   clear hL hm
   by_cases hlt:i < l.length
   ·have s0:=get_lt (f:=encK) hlt
    have c1:=cdiff_A _ h (hk _ (List.getElem_mem hlt)) hh
    rw [dif_pos hlt] at hR
    clear hk
    generalize l[i]=q at *
    have he:decide (q.h - h=0)=decide (q.h=h):=decide_eq_decide.2 (by omega)
    exact wkl trivial
   ·rw [dif_neg hlt] at hR
    clear hk
    exact wkl trivial
theorem cown_D (c:ClientD) (hc:ClSm c):CallD Tryz.prog 70 [clientD c] noH (.agg [.i (.s (.string c.c)),.i (.s (.int .i64 c.trust)),.i (.s (.bool c.frozen)),.os 1 4 0 c.known.length]) (hOf noH [(1,.arr 4 (c.known.map encK))]):=by
 refine hide_c fun R R' hR hR'=>?_
 have hcl:=hc.l
 have e1:=clone_Kn c.known hcl
 refine callD_W 35 Tryz.func70 rfl rfl rfl (fun _ _=>rfl) ?_
 refine wkl ?_
 clear hR; intro hR
 refine W_loopR (ι:=Nat) (fun i=>i≤c.known.length)
  (fun i=>stOf [(1,.pt 100 0 0 0),(2,.pt 101 0 0 0),(10,.os 102 4 0 c.known.length),(11,intD c.known.length),(12,intD i)] [(100,.box [.i (.s (.string c.c)),.i (.s (.int .i64 c.trust)),.i (.s (.bool c.frozen)),.os 102 4 0 c.known.length]),(101,.box ((encC zeroC).map .i)),(102,.arr 4 (c.known.map encK))])
  (fun i=>c.known.length - i) 0 (Nat.zero_le _) ?_ ?_
 ·exact le_ok [] [(100,1000),(101,1001),(102,901)]
 ·rintro i hi RL hL
  rw [stOf_eq]
  by_cases h:i < c.known.length
  ·have s0:=get_lt (f:=encK) h
   have s1:=set_map (f:=encK) h
   have hk:=hc.k _ (List.getElem_mem h)
   have c1:=clone_A c.known[i].root (by have:=hk.r; omega)
   have c2:=clone_A c.known[i].next (by have:=hk.n; omega)
   have b1:=fun σ'=>bk [] [(100,100),(101,101),(102,102)] (hL (i+1) σ' h)
   clear hL e1 hk
   generalize c.known[i]=k at *
   simp only [encK,bI] at s0 s1
   exact wkl trivial
  ·have d1:SrcIs [] [(1,102)]:=⟨trivial⟩
   obtain ⟨rfl⟩:=hR'
   exact wkl trivial
theorem uK (l:List KnownD):∀ e∈l.map encK,e.length=4:=by simp [encK]
theorem bad_at {l:List KnownD} {p:Nat} {k:KnownD}:(badK l p k=true)=((0 < p∧∃ h:p - 1 < l.length,k.t≤l[p - 1].t)∨∃ h:p < l.length,l[p].t≤k.t):=by
 unfold badK
 by_cases h1:p - 1 < l.length <;> by_cases h2:p < l.length <;> simp [h1,h2]
theorem cfollow_A (c:ClientD) (u:UpdD) (now:Int) (hl:c.known.length≤1048576) (hu:UpSm u) :
  PureD Tryz.prog 38 [clientD c,updD u,intD now] (.tup [clientD (followC c u now).1,intD (followC c u now).2]):=by
 refine hide_r fun R hR=>?_
 have c1:=casked_A c now hl
 unfold followC at hR
 by_cases h1:askedE c now=0
 ·obtain ⟨ok,hn,hfz⟩:=asked_zero.1 h1
  have c2:=cbelieve_A c u now ok hu hn
  rw [if_pos h1] at hR
  rw [h1] at c1
  by_cases h2:beE c u now=0
  ·rw [if_pos h2] at hR
   rw [h2] at c2
   obtain ⟨hk,hv⟩:=be_hdr h2
   have e1:=cown_D c ok.sm
   have k1:=hk.r
   have k2:=hk.n
   have c3:=clone_A u.sg.hdr.root (by simp only [ofH] at k1; omega)
   have c4:=clone_A u.sg.hdr.next (by simp only [ofH] at k2; omega)
   have c5:=csearch_A c.known u.sg.hdr.h (lowK c.known u.sg.hdr.h) hl (low_le _ _) ok.k hk.h (low_iff ok.rise)
   have hlen:=ok.len
   have hle:=low_le c.known u.sg.hdr.h
   unfold putK at hR
   rcases low_case u.sg.hdr.h ok.rise with ⟨hp,hk0,hat⟩ | ⟨hno,hat⟩
   ·rw [dif_pos hp,decide_eq_true hk0] at c5
    simp only [ofH,hat] at hR
    have s0:=get_lt (f:=encK) hp
    clear hu h1 h2 hk hv k1 k2 hk0 hat ok hle
    generalize c.known[lowK c.known u.sg.hdr.h]=o at *
    generalize lowK c.known u.sg.hdr.h=p at *
    have c6:=equal_A o.root u.sg.hdr.root
    have c7:=equal_A o.next u.sg.hdr.next
    unfold samK at hR
    by_cases a1:o.t=u.sg.hdr.t <;> by_cases a2:o.root=u.sg.hdr.root <;> by_cases a3:o.next=u.sg.hdr.next <;> simp [a1,a2,a3] at hR c6 c7
    all_goals
     refine callD_W 131 Tryz.func38 rfl rfl rfl (fun _ _=>rfl) ?_
     exact wkl trivial
   ·have c5':PureD Tryz.prog 73 [.i (knownI c.known),intD u.sg.hdr.h,.fn 74 []] (.tup [intD (lowK c.known u.sg.hdr.h),boolD false]):=by
     have e:(if ha:lowK c.known u.sg.hdr.h < c.known.length then decide (c.known[lowK c.known u.sg.hdr.h].h=u.sg.hdr.h) else false)=false:=by
      split
      ·rename_i ha; exact decide_eq_false (hno ha)
      ·rfl
     rw [e] at c5; exact c5
    clear c5
    have c5:=c5'
    clear c5'
    simp only [ofH,hat] at hR
    have hbad:=@bad_at c.known (lowK c.known u.sg.hdr.h) ⟨u.sg.hdr.h,u.sg.hdr.t,u.sg.hdr.root,u.sg.hdr.next⟩
    simp only [hbad] at hR
    have e2:=insert_Kn (c.known.map encK) (encK ⟨u.sg.hdr.h,u.sg.hdr.t,u.sg.hdr.root,u.sg.hdr.next⟩) (lowK c.known u.sg.hdr.h) (by simpa using hle) (by simpa using hl) (uK c.known) rfl
    rw [← List.map_take,← List.map_drop,← List.map_cons,← List.map_append,List.length_map] at e2
    have hne:∃ a L,c.known.take (lowK c.known u.sg.hdr.h)++(⟨u.sg.hdr.h,u.sg.hdr.t,u.sg.hdr.root,u.sg.hdr.next⟩:KnownD) :: c.known.drop (lowK c.known u.sg.hdr.h)=a :: L∧L.length=c.known.length:=by
     have hll:(c.known.take (lowK c.known u.sg.hdr.h)++(⟨u.sg.hdr.h,u.sg.hdr.t,u.sg.hdr.root,u.sg.hdr.next⟩:KnownD) :: c.known.drop (lowK c.known u.sg.hdr.h)).length=c.known.length+1:=by simp; omega
     revert hll
     cases c.known.take (lowK c.known u.sg.hdr.h)++(⟨u.sg.hdr.h,u.sg.hdr.t,u.sg.hdr.root,u.sg.hdr.next⟩:KnownD) :: c.known.drop (lowK c.known u.sg.hdr.h) with
     | nil=>intro h; simp at h
     | cons a L=>intro h; exact ⟨a,L,rfl,by simpa using h⟩
    obtain ⟨a,L,hL,hLl⟩:=hne
    rw [hL] at e2 hR
    have s0:=fun h=>get_lt (f:=encK) (l:=c.known) (i:=lowK c.known u.sg.hdr.h - 1) h
    have s1:=fun h=>get_lt (f:=encK) (l:=c.known) (i:=lowK c.known u.sg.hdr.h) h
    clear hu h1 h2 hk hv k1 k2 hat ok hno hL hbad
    generalize lowK c.known u.sg.hdr.h=p at *
    have hcut:cutK (a :: L)=if (30:Int) < ((c.known.length+1:Nat):Int) then L else a :: L:=by
     unfold cutK; rw [List.length_cons,hLl]; rfl
    rw [hcut] at hR
    simp only [encK,bI,intD] at e2
    have z1:(a :: L).map encK=encK a :: L.map encK:=rfl
    clear hcut
    have z2:(L.map encK).take c.known.length=L.map encK:=by rw [← hLl]; exact take_len_map
    by_cases q1:0 < p <;> by_cases q2:p < c.known.length
    ·have a0:=s0 (by omega)
     have a1:=s1 q2
     have hc:((0 < p∧∃ h:p - 1 < c.known.length,u.sg.hdr.t≤c.known[p - 1].t)∨∃ h:p < c.known.length,c.known[p].t≤u.sg.hdr.t)=(u.sg.hdr.t≤c.known[p - 1].t∨c.known[p].t≤u.sg.hdr.t):=by simp [q1,q2,show p - 1 < c.known.length by omega]
     simp only [hc] at hR
     have w1:IntKind.i64.wrap ((p:Int) - 1)=((p - 1:Nat):Int):=by rw [wrap64 (by omega) (by omega)]; omega
     clear hc s0 s1
     generalize c.known[p - 1]=x at *
     generalize c.known[p]=y at *
     refine callD_W 131 Tryz.func38 rfl rfl rfl (fun _ _=>rfl) ?_
     exact wkl trivial
    ·have a0:=s0 (by omega)
     have hc:((0 < p∧∃ h:p - 1 < c.known.length,u.sg.hdr.t≤c.known[p - 1].t)∨∃ h:p < c.known.length,c.known[p].t≤u.sg.hdr.t)=(u.sg.hdr.t≤c.known[p - 1].t):=by simp [q1,q2,show p - 1 < c.known.length by omega]
     simp only [hc] at hR
     have w1:IntKind.i64.wrap ((p:Int) - 1)=((p - 1:Nat):Int):=by rw [wrap64 (by omega) (by omega)]; omega
     clear hc s0 s1
     generalize c.known[p - 1]=x at *
     refine callD_W 131 Tryz.func38 rfl rfl rfl (fun _ _=>rfl) ?_
     exact wkl trivial
    ·have a1:=s1 q2
     have hc:((0 < p∧∃ h:p - 1 < c.known.length,u.sg.hdr.t≤c.known[p - 1].t)∨∃ h:p < c.known.length,c.known[p].t≤u.sg.hdr.t)=(c.known[p].t≤u.sg.hdr.t):=by simp [q1,q2]
     simp only [hc] at hR
     clear hc s0 s1
     generalize c.known[p]=y at *
     obtain rfl:p=0:=by omega
     refine callD_W 131 Tryz.func38 rfl rfl rfl (fun _ _=>rfl) ?_
     exact wkl trivial
    ·omega
  ·rw [if_neg h2] at hR
   generalize beE c u now=W at *
   clear hu ok hn hfz h1
   refine callD_W 131 Tryz.func38 rfl rfl rfl (fun _ _=>rfl) ?_
   exact wkl trivial
 ·rw [if_neg h1] at hR
  generalize askedE c now=W at *
  clear hu
  refine callD_W 131 Tryz.func38 rfl rfl rfl (fun _ _=>rfl) ?_
  exact wkl trivial
end Go.Proofs.YtadoaljnfeoecaaGreatDoor
set_option linter.all false
namespace Go.Proofs.YtadoaljnfeoecaaGreatDoor
open Go Go.Abs Go.RowKit Go.Proofs.YtadoaljnfeoecaaGreatDoor.Ty
set_option maxHeartbeats 4000000
set_option maxRecDepth 20000
def catS (V W:Int) (E:ClientD × Int):Nat→ClientD × Int
 | 0=>if V=0 then (if W=0 then E else (zeroC,W)) else (zeroC,V)
 | 1=>if W=0 then E else (zeroC,W)
 | _=>E
theorem ccatch_A (c:ClientD) (a b:UpdD) (now:Int) (hl:c.known.length≤1048576) (ha:UpSm a) (hb:UpSm b) :
  PureD Tryz.prog 39 [clientD c,updD a,updD b,intD now] (.tup [clientD (catchC c a b now).1,intD (catchC c a b now).2]):=by
 refine hide_r fun R hR=>?_
 have c1:=casked_A c now hl
 have r1:=bs_pt2 (P:=Tryz.prog) (t:=151) (e:=146) (by kernel_rfl) (by kernel_rfl) (by kernel_rfl)
 unfold catchC at hR
 by_cases h1:askedE c now=0
 ·obtain ⟨ok,hn,hfz⟩:=asked_zero.1 h1
  have c2:=cbelieve_A c a now ok ha hn
  have c3:=cbelieve_A c b now ok hb hn
  rw [if_pos h1] at hR
  rw [h1] at c1
  have c4:=hbytes_A a.sg.hdr ha.s.h.c ha.s.h.root ha.s.h.vals ha.s.h.next
  have c5:=hbytes_A b.sg.hdr hb.s.h.c hb.s.h.root hb.s.h.vals hb.s.h.next
  have c6:=equal_A (bytesH a.sg.hdr) (bytesH b.sg.hdr)
  have c7:=cown_A c ok.sm
  clear ha hb ok hfz h1 hl
  generalize bytesH a.sg.hdr=X at *
  generalize bytesH b.sg.hdr=Y at *
  generalize beE c a now=V at *
  generalize beE c b now=W at *
  refine callD_W 60 Tryz.func39 rfl rfl rfl (fun _ _=>rfl) ?_
  refine wkl ?_
  clear hR; intro hR
  have hR':Hr (.tup [clientD (catS V W (if a.sg.hdr.h=b.sg.hdr.h∧¬ X=Y then ({ c with frozen:=true },0) else (zeroC,8)) 0).1,intD (catS V W (if a.sg.hdr.h=b.sg.hdr.h∧¬ X=Y then ({ c with frozen:=true },0) else (zeroC,8)) 0).2]) R:=hR
  clear hR
  refine W_loopR (ι:=Nat) (fun i=>i≤2∧Hr (.tup [clientD (catS V W (if a.sg.hdr.h=b.sg.hdr.h∧¬ X=Y then ({ c with frozen:=true },0) else (zeroC,8)) i).1,intD (catS V W (if a.sg.hdr.h=b.sg.hdr.h∧¬ X=Y then ({ c with frozen:=true },0) else (zeroC,8)) i).2]) R)
   (fun i=>stOf [(3,intD now),(4,.pt 100 0 0 0),(5,.pt 101 0 0 0),(6,.pt 102 0 0 0),(8,.pt 103 0 0 0),(23,.bs 104 0 2),(24,intD 2),(25,intD i)]
    [(100,.box ((encC c).map .i)),(101,.box ((encU a).map .i)),(102,.box ((encU b).map .i)),(103,.box ((encC zeroC).map .i)),(104,.box [.pt 101 0 0 0,.pt 102 0 0 0])]) (fun i=>2 - i) 0 ⟨Nat.zero_le _,hR'⟩ ?_ ?_
  ·exact le_ok [] [(100,1000),(101,1001),(102,1002),(103,1003),(104,2024)]
  ·rintro i ⟨hi,hR⟩ RL hL
   clear hR'
   rw [stOf_eq]
   have b1:=fun σ' (h:i+1≤2) hq=>bk [] [(100,100),(101,101),(102,102),(103,103),(104,104)] (hL (i+1) σ' ⟨h,hq⟩)
   clear hL
   match i,hi with
   | 0,_ =>
    have b1:=fun σ' (hq:Hr _ R)=>b1 σ' (by omega) hq
    simp only [catS] at hR b1
    exact wkl trivial
   | 1,_ =>
    have b1:=fun σ' (hq:Hr _ R)=>b1 σ' (by omega) hq
    simp only [catS] at hR b1
    exact wkl trivial
   | 2,_ =>
    clear b1
    simp only [catS] at hR
    by_cases hx:X=Y
    ·rw [decide_eq_true hx] at c6
     simp only [hx,not_true,and_false,if_false] at hR
     exact wkl trivial
    ·rw [decide_eq_false hx] at c6
     simp only [hx,not_false_eq_true,and_true] at hR
     exact wkl trivial
 ·rw [if_neg h1] at hR
  generalize askedE c now=W at *
  clear ha hb
  refine callD_W 60 Tryz.func39 rfl rfl rfl (fun _ _=>rfl) ?_
  exact wkl trivial
end Go.Proofs.YtadoaljnfeoecaaGreatDoor
