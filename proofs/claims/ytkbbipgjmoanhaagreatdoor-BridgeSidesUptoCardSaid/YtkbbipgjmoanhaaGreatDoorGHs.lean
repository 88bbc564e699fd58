/- Merged texts: HdB, HdC, HdD, ClC, InsKn, ClD, ClE. -/
import Derived.Test.YtkbbipgjmoanhaaGreatDoorGMk
set_option linter.all false
set_option maxHeartbeats 4000000
set_option maxRecDepth 20000
namespace Go.Proofs.YtkbbipgjmoanhaaGreatDoor
open Go Go.Abs Go.RowKit Go.Proofs.YtkbbipgjmoanhaaGreatDoor.Ty
theorem zY (l:List bU) (hl:l.length<=1048576) (hb:∀ p∈l,p.b.length<=1048576) (hn:Oq l):PureD Tryz.prog 53 [.i (.sl (l.map encP))] (.i (bI (bZ l).1)):=by
 have hw:=vK l hl hb hn
 refine aj fun R hR=>?_
 generalize bZ l=W at *
 refine aa 11 Tryz.func53 rfl rfl rfl (fun _ _=>rfl) ?_
 (repeat' (first | (simp -implicitDefEqProofs only [go_sem,Nat.reduceLT,Nat.reduceAdd,Nat.reduceMul,reduceIte,Nat.reduceEqDiff,reduceCtorEq,Nat.reducePow,Nat.reduceLeDiff,Int.reduceLE,Int.reduceLT,Int.reduceToNat,Int.reduceEq,Nat.reduceBEq,bI,faultD, *]) | (with_reducible refine ⟨?_,?_⟩; (· first | (obtain ⟨rfl⟩:=‹Hq _ _›; with_reducible refine chk_ok ?_; kernel_rfl) | kernel_rfl)) | (with_reducible intro ops hops) | (simp -implicitDefEqProofs (disch:=omega) only [wr64,wru64,get_lt]) | ((with_reducible refine call_id ?_); (first | ((with_reducible refine Call_fl (hw) ?_ ?_ ?_); (· (simp [bI,faultD]; done)); (· (simp [bI,faultD,and_assoc]; done))) | ((with_reducible refine Call_fz (hw) ?_ ?_); (· (simp [bI,faultD,and_assoc]; done))))) | ((with_reducible refine callF_id ?_); (first | ((with_reducible refine CallF_fl (hw) ?_ ?_ ?_); (· (simp [bI,faultD]; done)); (· (intro G hG; simp [bI,faultD] at hG; simp [bI,faultD,hG,and_assoc]; done))) | ((with_reducible refine CallF_fz (hw) ?_ ?_); (· (intro G hG; simp [bI,faultD] at hG; simp [bI,faultD,hG,and_assoc]; done))))) | ((first | refine Wc_split (fun hg=>?_) (fun hg=>?_) | refine RoG_split (fun hg=>?_) (fun hg=>?_) | refine RdG_split (fun hg=>?_) (fun hg=>?_)) <;> (try simp only [nrm] at hg) <;> (try simp only [hg,lgc,reduceIte,reduceCtorEq] at hR) <;> (try (exfalso; omega))) | ((try simp only [*,lgc,reduceIte,reduceCtorEq] at hR); obtain ⟨rfl⟩:=hR; refine fin_q (rs:=[.tmp 2]) rfl ?_; (try simp only [go_sem,Nat.reduceLT,Nat.reduceAdd,Nat.reduceMul,reduceIte,Nat.reduceEqDiff,reduceCtorEq,Nat.reducePow,Nat.reduceLeDiff,Int.reduceLE,Int.reduceLT,Int.reduceToNat,Int.reduceEq,Nat.reduceBEq,bI,faultD]); (simp [bI,faultD]; done))))
theorem xL (n:Nat):PureD Tryz.prog 51 [u64D n] (.agg [.i (.s (.int .i64 1)),.i (.s (.int .u64 n)),.i (.sl [])]):=by
 refine aj fun R hR=>?_
 refine aa 5 Tryz.func51 rfl rfl rfl (fun _ _=>rfl) ?_
 (repeat' (first | (simp -implicitDefEqProofs only [go_sem,Nat.reduceLT,Nat.reduceAdd,Nat.reduceMul,reduceIte,Nat.reduceEqDiff,reduceCtorEq,Nat.reducePow,Nat.reduceLeDiff,Int.reduceLE,Int.reduceLT,Int.reduceToNat,Int.reduceEq,Nat.reduceBEq,u64D, *]) | (with_reducible refine ⟨?_,?_⟩; (· first | (obtain ⟨rfl⟩:=‹Hq _ _›; with_reducible refine chk_ok ?_; kernel_rfl) | kernel_rfl)) | (with_reducible intro ops hops) | (simp -implicitDefEqProofs (disch:=omega) only [wr64,wru64,get_lt]) | ((first | refine Wc_split (fun hg=>?_) (fun hg=>?_) | refine RoG_split (fun hg=>?_) (fun hg=>?_) | refine RdG_split (fun hg=>?_) (fun hg=>?_)) <;> (try simp only [nrm] at hg) <;> (try simp only [hg,lgc,reduceIte,reduceCtorEq] at hR) <;> (try (exfalso; omega))) | ((try simp only [*,lgc,reduceIte,reduceCtorEq] at hR); obtain ⟨rfl⟩:=hR; refine fin_q (rs:=[.cell 2 147]) rfl ?_; (try simp only [go_sem,Nat.reduceLT,Nat.reduceAdd,Nat.reduceMul,reduceIte,Nat.reduceEqDiff,reduceCtorEq,Nat.reducePow,Nat.reduceLeDiff,Int.reduceLE,Int.reduceLT,Int.reduceToNat,Int.reduceEq,Nat.reduceBEq,u64D]); (simp [u64D]; done))))
theorem EL (b:List UInt8):PureD Tryz.prog 115 [.i (bI b)] (.agg [.i (.s (.int .i64 2)),.i (.s (.int .u64 0)),.i (bI b)]):=by
 refine aj fun R hR=>?_
 refine aa 5 Tryz.func115 rfl rfl rfl (fun _ _=>rfl) ?_
 (repeat' (first | (simp -implicitDefEqProofs only [go_sem,Nat.reduceLT,Nat.reduceAdd,Nat.reduceMul,reduceIte,Nat.reduceEqDiff,reduceCtorEq,Nat.reducePow,Nat.reduceLeDiff,Int.reduceLE,Int.reduceLT,Int.reduceToNat,Int.reduceEq,Nat.reduceBEq,bI, *]) | (with_reducible refine ⟨?_,?_⟩; (· first | (obtain ⟨rfl⟩:=‹Hq _ _›; with_reducible refine chk_ok ?_; kernel_rfl) | kernel_rfl)) | (with_reducible intro ops hops) | (simp -implicitDefEqProofs (disch:=omega) only [wr64,wru64,get_lt]) | ((first | refine Wc_split (fun hg=>?_) (fun hg=>?_) | refine RoG_split (fun hg=>?_) (fun hg=>?_) | refine RdG_split (fun hg=>?_) (fun hg=>?_)) <;> (try simp only [nrm] at hg) <;> (try simp only [hg,lgc,reduceIte,reduceCtorEq] at hR) <;> (try (exfalso; omega))) | ((try simp only [*,lgc,reduceIte,reduceCtorEq] at hR); obtain ⟨rfl⟩:=hR; refine fin_q (rs:=[.cell 2 147]) rfl ?_; (try simp only [go_sem,Nat.reduceLT,Nat.reduceAdd,Nat.reduceMul,reduceIte,Nat.reduceEqDiff,reduceCtorEq,Nat.reducePow,Nat.reduceLeDiff,Int.reduceLE,Int.reduceLT,Int.reduceToNat,Int.reduceEq,Nat.reduceBEq,bI]); (simp [bI]; done))))
theorem IK {l:List dI} {i:Nat} (h:i < l.length):uE (l.take (i+1))=uE (l.take i)++[numP l[i].k,numP l[i].p]:=by
 unfold uE
 rw [List.take_succ_eq_append_getElem h,List.flatMap_append]; simp
theorem Es (l:List dI):(uE l).length=2 * l.length:=by
 unfold uE
 induction l with
 | nil=>rfl
 | cons a t ih=>rw [List.flatMap_cons,List.length_append,ih]; simp; omega
theorem RX {l:List dI} (h:∀ v∈l,v.k < 18446744073709551616/\v.p < 18446744073709551616):Oq (uE l):=by
 intro p hp
 unfold uE at hp
 rw [List.mem_flatMap] at hp
 obtain ⟨v,hv,hp⟩:=hp
 simp only [List.mem_cons,List.not_mem_nil,or_false] at hp
 rcases hp with rfl | rfl
 ·exact (h v hv).1
 ·exact (h v hv).2
theorem Wi (l:List dI):∀ p∈uE l,p.b=[]:=by
 intro p hp
 unfold uE at hp
 rw [List.mem_flatMap] at hp
 obtain ⟨v,hv,hp⟩:=hp
 simp only [List.mem_cons,List.not_mem_nil,or_false] at hp
 rcases hp with rfl | rfl <;> rfl
theorem Yq (l:List bU):uni 3 (l.map encP)=true:=Bg (s:=3) (f:=encP) (fun _=>rfl) l
theorem kU (l:List dI) (hl:l.length<=500000) (hn:∀ v∈l,v.k < 18446744073709551616/\v.p < 18446744073709551616):PureD Tryz.prog 32 [.i (valsI l)] (.i (bI (bX l))):=by
 refine aj fun R hR=>?_
 refine aa 25 Tryz.func32 rfl rfl rfl (fun _ _=>rfl) ?_
 (repeat' (first | (simp -implicitDefEqProofs only [go_sem,Nat.reduceLT,Nat.reduceAdd,Nat.reduceMul,reduceIte,Nat.reduceEqDiff,reduceCtorEq,Nat.reducePow,Nat.reduceLeDiff,Int.reduceLE,Int.reduceLT,Int.reduceToNat,Int.reduceEq,Nat.reduceBEq,valsI, *]) | (with_reducible refine ⟨?_,?_⟩; (· first | (obtain ⟨rfl⟩:=‹Hq _ _›; with_reducible refine chk_ok ?_; kernel_rfl) | kernel_rfl)) | (with_reducible intro ops hops) | (simp -implicitDefEqProofs (disch:=omega) only [wr64,wru64,get_lt]) | ((first | refine Wc_split (fun hg=>?_) (fun hg=>?_) | refine RoG_split (fun hg=>?_) (fun hg=>?_) | refine RdG_split (fun hg=>?_) (fun hg=>?_)) <;> (try simp only [nrm] at hg) <;> (try simp only [hg,lgc,reduceIte,reduceCtorEq] at hR) <;> (try (exfalso; omega))) | ((try simp only [*,lgc,reduceIte,reduceCtorEq] at hR); obtain ⟨rfl⟩:=hR; refine fin_q (rs:=[.tmp 2]) rfl ?_; (try simp only [go_sem,Nat.reduceLT,Nat.reduceAdd,Nat.reduceMul,reduceIte,Nat.reduceEqDiff,reduceCtorEq,Nat.reducePow,Nat.reduceLeDiff,Int.reduceLE,Int.reduceLT,Int.reduceToNat,Int.reduceEq,Nat.reduceBEq,valsI]); (simp [valsI]; done))))
 refine cz (ι:=Nat) (fun i=>i<=l.length)
  (fun i=>dW [(6,.i (valsI l)),(7,intD l.length),(8,intD i),(3,.os 100 3 0 (uE (l.take i)).length)] [(100,.arr 3 ((uE (l.take i)).map encP))]) (fun i=>l.length - i) 0 (Nat.zero_le _) ?_ ?_
 ·(refine le_stOf _ _ [] [] ?_ ?_ rfl rfl <;> (simp [Int.natCast_add,Int.natCast_zero,Int.natCast_one,valsI,uE]; done))
 ·rintro i hi
  rw [au]
  by_cases h:i < l.length
  ·have e1:=get_lt (f:=encV) h
   have hs:=IK h
   have hlen:=Es (l.take i)
   have hlt:(l.take i).length=i:=by rw [List.length_take]; omega
   have c1:=xL l[i].k
   have c2:=xL l[i].p
   have hu:=Yq (uE (l.take i))
   rw [hlt] at hlen
   generalize l[i]=v at *
   generalize hP':uE (l.take (i+1))=P' at *
   generalize uE (l.take i)=P at *
   subst hs
   have b1:P.length<=140737488355326:=by omega
   have b3:(P.length+2) * 40<=140737488355328:=by omega
   clear hR hlen hlt
   (repeat' (first | (simp -implicitDefEqProofs only [go_sem,Nat.reduceLT,Nat.reduceAdd,Nat.reduceMul,reduceIte,Nat.reduceEqDiff,reduceCtorEq,Nat.reducePow,Nat.reduceLeDiff,Int.reduceLE,Int.reduceLT,Int.reduceToNat,Int.reduceEq,Nat.reduceBEq,valsI,encV,u64D,intD, *]) | (with_reducible refine ⟨?_,?_⟩; (· first | (obtain ⟨rfl⟩:=‹Hq _ _›; with_reducible refine chk_ok ?_; kernel_rfl) | kernel_rfl)) | (with_reducible intro ops hops) | (simp -implicitDefEqProofs (disch:=omega) only [wr64,wru64,get_lt]) | ((with_reducible refine call_id ?_); (first | ((with_reducible refine Call_fl (c1) ?_ ?_ ?_); (· (simp [valsI,encV,u64D,intD]; done)); (· (simp [valsI,encV,u64D,intD,and_assoc]; done))) | ((with_reducible refine Call_fz (c1) ?_ ?_); (· (simp [valsI,encV,u64D,intD,and_assoc]; done))) | ((with_reducible refine Call_fl (c2) ?_ ?_ ?_); (· (simp [valsI,encV,u64D,intD]; done)); (· (simp [valsI,encV,u64D,intD,and_assoc]; done))) | ((with_reducible refine Call_fz (c2) ?_ ?_); (· (simp [valsI,encV,u64D,intD,and_assoc]; done))))) | ((with_reducible refine callF_id ?_); (first | ((with_reducible refine CallF_fl (c1) ?_ ?_ ?_); (· (simp [valsI,encV,u64D,intD]; done)); (· (intro G hG; simp [valsI,encV,u64D,intD] at hG; simp [valsI,encV,u64D,intD,hG,and_assoc]; done))) | ((with_reducible refine CallF_fz (c1) ?_ ?_); (· (intro G hG; simp [valsI,encV,u64D,intD] at hG; simp [valsI,encV,u64D,intD,hG,and_assoc]; done))) | ((with_reducible refine CallF_fl (c2) ?_ ?_ ?_); (· (simp [valsI,encV,u64D,intD]; done)); (· (intro G hG; simp [valsI,encV,u64D,intD] at hG; simp [valsI,encV,u64D,intD,hG,and_assoc]; done))) | ((with_reducible refine CallF_fz (c2) ?_ ?_); (· (intro G hG; simp [valsI,encV,u64D,intD] at hG; simp [valsI,encV,u64D,intD,hG,and_assoc]; done))))) | ((first | refine Wc_split (fun hg=>?_) (fun hg=>?_) | refine RoG_split (fun hg=>?_) (fun hg=>?_) | refine RdG_split (fun hg=>?_) (fun hg=>?_)) <;> (try simp only [nrm] at hg) <;> (try simp only [hg,lgc,reduceIte,reduceCtorEq] at hR) <;> (try (exfalso; omega))) | (refine ⟨i+1,h,?_,?_⟩; (· (refine le_stOf _ _ [] [(100,2288)] ?_ ?_ rfl rfl <;> (simp [Int.natCast_add,Int.natCast_zero,Int.natCast_one,hP',valsI,encP,numP,bI]; done))); (· (simp only; omega))) | ((try simp only [*,lgc,reduceIte,reduceCtorEq] at hR); obtain ⟨rfl⟩:=hR; refine fin_q (rs:=[.tmp 2]) rfl ?_; (try simp only [go_sem,Nat.reduceLT,Nat.reduceAdd,Nat.reduceMul,reduceIte,Nat.reduceEqDiff,reduceCtorEq,Nat.reducePow,Nat.reduceLeDiff,Int.reduceLE,Int.reduceLT,Int.reduceToNat,Int.reduceEq,Nat.reduceBEq,valsI,encV,u64D,intD]); (simp [valsI,encV,u64D,intD]; done))))
  ·have ht:l.take i=l:=List.take_of_length_le (by omega)
   have c1:=zY (uE l) (by rw [Es]; omega) (fun p hp=>by rw [Wi l p hp]; simp) (RX hn)
   have c2:=NH (bZ (uE l)).1 (by have:=lD (uE l); omega)
   unfold bX at hR
   rw [ht]
   generalize (bZ (uE l)).1=W at *
   generalize uE l=P at *
   (repeat' (first | (simp -implicitDefEqProofs only [go_sem,Nat.reduceLT,Nat.reduceAdd,Nat.reduceMul,reduceIte,Nat.reduceEqDiff,reduceCtorEq,Nat.reducePow,Nat.reduceLeDiff,Int.reduceLE,Int.reduceLT,Int.reduceToNat,Int.reduceEq,Nat.reduceBEq,valsI,intD,bI, *]) | (with_reducible refine ⟨?_,?_⟩; (· first | (obtain ⟨rfl⟩:=‹Hq _ _›; with_reducible refine chk_ok ?_; kernel_rfl) | kernel_rfl)) | (with_reducible intro ops hops) | (simp -implicitDefEqProofs (disch:=omega) only [wr64,wru64,get_lt]) | ((with_reducible refine call_id ?_); (first | ((with_reducible refine Call_fz (c1) ?_ ?_); (· (simp [valsI,intD,bI,and_assoc]; done))) | ((with_reducible refine Call_fz (c2) ?_ ?_); (· (simp [valsI,intD,bI,and_assoc]; done))))) | ((with_reducible refine callF_id ?_); (first | ((with_reducible refine CallF_fz (c1) ?_ ?_); (· (intro G hG; simp [valsI,intD,bI] at hG; simp [valsI,intD,bI,hG,and_assoc]; done))) | ((with_reducible refine CallF_fz (c2) ?_ ?_); (· (intro G hG; simp [valsI,intD,bI] at hG; simp [valsI,intD,bI,hG,and_assoc]; done))))) | ((first | refine Wc_split (fun hg=>?_) (fun hg=>?_) | refine RoG_split (fun hg=>?_) (fun hg=>?_) | refine RdG_split (fun hg=>?_) (fun hg=>?_)) <;> (try simp only [nrm] at hg) <;> (try simp only [hg,lgc,reduceIte,reduceCtorEq] at hR) <;> (try (exfalso; omega))) | ((try simp only [*,lgc,reduceIte,reduceCtorEq] at hR); obtain ⟨rfl⟩:=hR; refine fin_q (rs:=[.tmp 2]) rfl ?_; (try simp only [go_sem,Nat.reduceLT,Nat.reduceAdd,Nat.reduceMul,reduceIte,Nat.reduceEqDiff,reduceCtorEq,Nat.reducePow,Nat.reduceLeDiff,Int.reduceLE,Int.reduceLT,Int.reduceToNat,Int.reduceEq,Nat.reduceBEq,valsI,intD,bI]); (simp [valsI,intD,bI]; done))))
def RS (l:List dI) (i:Nat):Option dI:=if i=0 then none else l[i - 1]?
theorem Cn (l:List dI) (hl:l.length<=1048576):PureD Tryz.prog 55 [.i (valsI l)] (intD (jf l)):=by
 refine aj fun R hR=>?_
 unfold jf at hR
 refine aa 42 Tryz.func55 rfl rfl rfl (fun _ _=>rfl) ?_
 (repeat' (first | (simp -implicitDefEqProofs only [go_sem,Nat.reduceLT,Nat.reduceAdd,Nat.reduceMul,reduceIte,Nat.reduceEqDiff,reduceCtorEq,Nat.reducePow,Nat.reduceLeDiff,Int.reduceLE,Int.reduceLT,Int.reduceToNat,Int.reduceEq,Nat.reduceBEq,valsI,intD, *]) | (with_reducible refine ⟨?_,?_⟩; (· first | (obtain ⟨rfl⟩:=‹Hq _ _›; with_reducible refine chk_ok ?_; kernel_rfl) | kernel_rfl)) | (with_reducible intro ops hops) | (simp -implicitDefEqProofs (disch:=omega) only [wr64,wru64,get_lt]) | ((first | refine Wc_split (fun hg=>?_) (fun hg=>?_) | refine RoG_split (fun hg=>?_) (fun hg=>?_) | refine RdG_split (fun hg=>?_) (fun hg=>?_)) <;> (try simp only [nrm] at hg) <;> (try simp only [hg,lgc,reduceIte,reduceCtorEq] at hR) <;> (try (exfalso; omega))) | ((try simp only [*,lgc,reduceIte,reduceCtorEq] at hR); obtain ⟨rfl⟩:=hR; refine fin_q (rs:=[.tmp 2]) rfl ?_; (try simp only [go_sem,Nat.reduceLT,Nat.reduceAdd,Nat.reduceMul,reduceIte,Nat.reduceEqDiff,reduceCtorEq,Nat.reducePow,Nat.reduceLeDiff,Int.reduceLE,Int.reduceLT,Int.reduceToNat,Int.reduceEq,Nat.reduceBEq,valsI,intD]); (simp [valsI,intD]; done))))
 have hR':Hr (intD (vM (RS l 0) (l.drop 0))) R:=hR
 clear hR
 refine cz (ι:=Nat) (fun i=>i<=l.length/\Hr (intD (vM (RS l i) (l.drop i))) R)
  (fun i=>dW [(0,.i (valsI l)),(13,.i (valsI l)),(14,intD l.length),(15,intD i)] []) (fun i=>l.length - i) 0 ⟨Nat.zero_le _,hR'⟩ ?_ ?_
 ·(refine le_stOf _ _ [] [] ?_ ?_ rfl rfl <;> (simp [Int.natCast_add,Int.natCast_zero,Int.natCast_one,valsI]; done))
 ·rintro i ⟨hi,hR⟩
  clear hR'
  rw [au]
  by_cases h:i < l.length
  ·have e1:=get_lt (f:=encV) h
   rw [List.drop_eq_getElem_cons h,vM] at hR
   have hnx:RS l (i+1)=some l[i]:=by simp [RS,h]
   rw [<- hnx] at hR
   cases i with
   | zero =>
    have hp:RS l 0=none:=rfl
    rw [hp] at hR
    simp only [Option.any_none,Bool.false_eq_true,if_false] at hR
    have hg0:¬ ((0:Int) < ((0:Nat):Int)):=by omega
    clear hp
    generalize l[0]=v at *
    clear hnx
    (repeat' (first | (simp -implicitDefEqProofs only [go_sem,Nat.reduceLT,Nat.reduceAdd,Nat.reduceMul,reduceIte,Nat.reduceEqDiff,reduceCtorEq,Nat.reducePow,Nat.reduceLeDiff,Int.reduceLE,Int.reduceLT,Int.reduceToNat,Int.reduceEq,Nat.reduceBEq,valsI,intD,encV,Int.natCast_zero, *]) | (with_reducible refine ⟨?_,?_⟩; (· first | (obtain ⟨rfl⟩:=‹Hq _ _›; with_reducible refine chk_ok ?_; kernel_rfl) | kernel_rfl)) | (with_reducible intro ops hops) | (simp -implicitDefEqProofs (disch:=omega) only [wr64,wru64,get_lt]) | ((first | refine Wc_split (fun hg=>?_) (fun hg=>?_) | refine RoG_split (fun hg=>?_) (fun hg=>?_) | refine RdG_split (fun hg=>?_) (fun hg=>?_)) <;> (try simp only [nrm] at hg) <;> (try simp only [hg,lgc,reduceIte,reduceCtorEq] at hR) <;> (try (exfalso; omega))) | (refine ⟨0+1,⟨h,hR⟩,?_,?_⟩; (· (refine le_stOf _ _ [] [] ?_ ?_ rfl rfl <;> (simp [Int.natCast_add,Int.natCast_zero,Int.natCast_one,valsI]; done))); (· (simp only; omega))) | ((try simp only [*,lgc,reduceIte,reduceCtorEq] at hR); obtain ⟨rfl⟩:=hR; refine fin_q (rs:=[.tmp 2]) rfl ?_; (try simp only [go_sem,Nat.reduceLT,Nat.reduceAdd,Nat.reduceMul,reduceIte,Nat.reduceEqDiff,reduceCtorEq,Nat.reducePow,Nat.reduceLeDiff,Int.reduceLE,Int.reduceLT,Int.reduceToNat,Int.reduceEq,Nat.reduceBEq,valsI,intD,encV,Int.natCast_zero]); (simp [valsI,intD,encV,Int.natCast_zero]; done))))
   | succ j =>
    have hj:j < l.length:=by omega
    have hp:RS l (j+1)=some l[j]:=by simp [RS,hj]
    have e2:=get_lt (f:=encV) hj
    rw [hp] at hR
    simp only [Option.any_some,decide_eq_true_eq] at hR
    have hg0:(0:Int) < ((j+1:Nat):Int):=by omega
    have w0:IntKind.i64.wrap (((j+1:Nat):Int) - 1)=(j:Int):=by rw [ay (by omega) (by omega)]; omega
    generalize l[j+1]=v at *
    generalize l[j]=q at *
    clear hnx hp
    (repeat' (first | (simp -implicitDefEqProofs only [go_sem,Nat.reduceLT,Nat.reduceAdd,Nat.reduceMul,reduceIte,Nat.reduceEqDiff,reduceCtorEq,Nat.reducePow,Nat.reduceLeDiff,Int.reduceLE,Int.reduceLT,Int.reduceToNat,Int.reduceEq,Nat.reduceBEq,valsI,intD,encV, *]) | (with_reducible refine ⟨?_,?_⟩; (· first | (obtain ⟨rfl⟩:=‹Hq _ _›; with_reducible refine chk_ok ?_; kernel_rfl) | kernel_rfl)) | (with_reducible intro ops hops) | (simp -implicitDefEqProofs (disch:=omega) only [wr64,wru64,get_lt]) | ((first | refine Wc_split (fun hg=>?_) (fun hg=>?_) | refine RoG_split (fun hg=>?_) (fun hg=>?_) | refine RdG_split (fun hg=>?_) (fun hg=>?_)) <;> (try simp only [nrm] at hg) <;> (try simp only [hg,lgc,reduceIte,reduceCtorEq] at hR) <;> (try (exfalso; omega))) | (refine ⟨j+1+1,⟨h,hR⟩,?_,?_⟩; (· (refine le_stOf _ _ [] [] ?_ ?_ rfl rfl <;> (simp [Int.natCast_add,Int.natCast_zero,Int.natCast_one,valsI]; done))); (· (simp only; omega))) | ((try simp only [*,lgc,reduceIte,reduceCtorEq] at hR); obtain ⟨rfl⟩:=hR; refine fin_q (rs:=[.tmp 2]) rfl ?_; (try simp only [go_sem,Nat.reduceLT,Nat.reduceAdd,Nat.reduceMul,reduceIte,Nat.reduceEqDiff,reduceCtorEq,Nat.reducePow,Nat.reduceLeDiff,Int.reduceLE,Int.reduceLT,Int.reduceToNat,Int.reduceEq,Nat.reduceBEq,valsI,intD,encV]); (simp [valsI,intD,encV]; done))))
  ·rw [List.drop_eq_nil_of_le (by omega),vM] at hR
   (repeat' (first | (simp -implicitDefEqProofs only [go_sem,Nat.reduceLT,Nat.reduceAdd,Nat.reduceMul,reduceIte,Nat.reduceEqDiff,reduceCtorEq,Nat.reducePow,Nat.reduceLeDiff,Int.reduceLE,Int.reduceLT,Int.reduceToNat,Int.reduceEq,Nat.reduceBEq,valsI,intD, *]) | (with_reducible refine ⟨?_,?_⟩; (· first | (obtain ⟨rfl⟩:=‹Hq _ _›; with_reducible refine chk_ok ?_; kernel_rfl) | kernel_rfl)) | (with_reducible intro ops hops) | (simp -implicitDefEqProofs (disch:=omega) only [wr64,wru64,get_lt]) | ((first | refine Wc_split (fun hg=>?_) (fun hg=>?_) | refine RoG_split (fun hg=>?_) (fun hg=>?_) | refine RdG_split (fun hg=>?_) (fun hg=>?_)) <;> (try simp only [nrm] at hg) <;> (try simp only [hg,lgc,reduceIte,reduceCtorEq] at hR) <;> (try (exfalso; omega))) | ((try simp only [*,lgc,reduceIte,reduceCtorEq] at hR); obtain ⟨rfl⟩:=hR; refine fin_q (rs:=[.tmp 2]) rfl ?_; (try simp only [go_sem,Nat.reduceLT,Nat.reduceAdd,Nat.reduceMul,reduceIte,Nat.reduceEqDiff,reduceCtorEq,Nat.reducePow,Nat.reduceLeDiff,Int.reduceLE,Int.reduceLT,Int.reduceToNat,Int.reduceEq,Nat.reduceBEq,valsI,intD]); (simp [valsI,intD]; done))))
theorem EK (h:oq):PureD Tryz.prog 54 [hdrD h] (intD (fo h)):=by
 refine aj fun R hR=>?_
 have c1:=Co h.c
 have c2:=qm h.h
 have c3:=qm h.t
 unfold fo at hR
 refine aa 41 Tryz.func54 rfl rfl rfl (fun _ _=>rfl) ?_
 (repeat' (first | (simp -implicitDefEqProofs only [go_sem,Nat.reduceLT,Nat.reduceAdd,Nat.reduceMul,reduceIte,Nat.reduceEqDiff,reduceCtorEq,Nat.reducePow,Nat.reduceLeDiff,Int.reduceLE,Int.reduceLT,Int.reduceToNat,Int.reduceEq,Nat.reduceBEq,hdrD,intD,boolD,bI,sD, *]) | (with_reducible refine ⟨?_,?_⟩; (· first | (obtain ⟨rfl⟩:=‹Hq _ _›; with_reducible refine chk_ok ?_; kernel_rfl) | kernel_rfl)) | (with_reducible intro ops hops) | (simp -implicitDefEqProofs (disch:=omega) only [wr64,wru64,get_lt]) | ((with_reducible refine call_id ?_); (first | ((with_reducible refine Call_fl (c1) ?_ ?_ ?_); (· (simp [hdrD,intD,boolD,bI,sD]; done)); (· (simp [hdrD,intD,boolD,bI,sD,and_assoc]; done))) | ((with_reducible refine Call_fl (c2) ?_ ?_ ?_); (· (simp [hdrD,intD,boolD,bI,sD]; done)); (· (simp [hdrD,intD,boolD,bI,sD,and_assoc]; done))) | ((with_reducible refine Call_fl (c3) ?_ ?_ ?_); (· (simp [hdrD,intD,boolD,bI,sD]; done)); (· (simp [hdrD,intD,boolD,bI,sD,and_assoc]; done))))) | ((with_reducible refine callF_id ?_); (first | ((with_reducible refine CallF_fl (c1) ?_ ?_ ?_); (· (simp [hdrD,intD,boolD,bI,sD]; done)); (· (intro G hG; simp [hdrD,intD,boolD,bI,sD] at hG; simp [hdrD,intD,boolD,bI,sD,hG,and_assoc]; done))) | ((with_reducible refine CallF_fl (c2) ?_ ?_ ?_); (· (simp [hdrD,intD,boolD,bI,sD]; done)); (· (intro G hG; simp [hdrD,intD,boolD,bI,sD] at hG; simp [hdrD,intD,boolD,bI,sD,hG,and_assoc]; done))) | ((with_reducible refine CallF_fl (c3) ?_ ?_ ?_); (· (simp [hdrD,intD,boolD,bI,sD]; done)); (· (intro G hG; simp [hdrD,intD,boolD,bI,sD] at hG; simp [hdrD,intD,boolD,bI,sD,hG,and_assoc]; done))))) | ((first | refine Wc_split (fun hg=>?_) (fun hg=>?_) | refine RoG_split (fun hg=>?_) (fun hg=>?_) | refine RdG_split (fun hg=>?_) (fun hg=>?_)) <;> (try simp only [nrm] at hg) <;> (try simp only [hg,lgc,reduceIte,reduceCtorEq] at hR) <;> (try (exfalso; omega))) | ((try simp only [*,lgc,reduceIte,reduceCtorEq] at hR); obtain ⟨rfl⟩:=hR; refine fin_q (rs:=[.tmp 2]) rfl ?_; (try simp only [go_sem,Nat.reduceLT,Nat.reduceAdd,Nat.reduceMul,reduceIte,Nat.reduceEqDiff,reduceCtorEq,Nat.reducePow,Nat.reduceLeDiff,Int.reduceLE,Int.reduceLT,Int.reduceToNat,Int.reduceEq,Nat.reduceBEq,hdrD,intD,boolD,bI,sD]); (simp [hdrD,intD,boolD,bI,sD]; done))))
theorem rq (h:oq) (h0:h.c.size<=1048576) (h1:h.root.length<=1048576) (h2:h.vals.length<=1048576) (h3:h.next.length<=1048576):PureD Tryz.prog 59 [hdrD h] (.i (bI (cu h))):=by
 refine aj fun R hR=>?_
 have c1:=EL (unB h.c)
 have c2:=xL (u64 h.h)
 have c3:=xL (u64 h.t)
 have c4:=EL h.root
 have c5:=EL h.vals
 have c6:=EL h.next
 have hsz:h.c.size<=140737488355328:=by omega
 have c7:=zY (RY h) (by simp [RY]) (by intro p hp; simp only [RY,IC,numP,List.mem_cons,List.not_mem_nil,or_false] at hp; rcases hp with rfl | rfl | rfl | rfl | rfl | rfl <;> simp only [unB_len,List.length_nil] <;> omega)
  (by intro p hp; simp only [RY,IC,numP,List.mem_cons,List.not_mem_nil,or_false] at hp; rcases hp with rfl | rfl | rfl | rfl | rfl | rfl <;> first | exact u64_lt _ | (simp only; omega))
 unfold cu at hR
 generalize (bZ (RY h)).1=W at *
 simp only [RY,IC,numP,List.map_cons,List.map_nil,encP] at c7
 clear h0 h1 h2 h3
 refine aa 26 Tryz.func59 rfl rfl rfl (fun _ _=>rfl) ?_
 (repeat' (first | (simp -implicitDefEqProofs only [go_sem,Nat.reduceLT,Nat.reduceAdd,Nat.reduceMul,reduceIte,Nat.reduceEqDiff,reduceCtorEq,Nat.reducePow,Nat.reduceLeDiff,Int.reduceLE,Int.reduceLT,Int.reduceToNat,Int.reduceEq,Nat.reduceBEq,hdrD,u64D,bI,strI_un,wrap_u, *]) | (with_reducible refine ⟨?_,?_⟩; (· first | (obtain ⟨rfl⟩:=‹Hq _ _›; with_reducible refine chk_ok ?_; kernel_rfl) | kernel_rfl)) | (with_reducible intro ops hops) | (simp -implicitDefEqProofs (disch:=omega) only [wr64,wru64,get_lt]) | ((with_reducible refine call_id ?_); (first | ((with_reducible refine Call_fz (c1) ?_ ?_); (· (simp [hdrD,u64D,bI,strI_un,wrap_u,and_assoc]; done))) | ((with_reducible refine Call_fl (c2) ?_ ?_ ?_); (· (simp [hdrD,u64D,bI,strI_un,wrap_u]; done)); (· (simp [hdrD,u64D,bI,strI_un,wrap_u,and_assoc]; done))) | ((with_reducible refine Call_fz (c2) ?_ ?_); (· (simp [hdrD,u64D,bI,strI_un,wrap_u,and_assoc]; done))) | ((with_reducible refine Call_fz (c3) ?_ ?_); (· (simp [hdrD,u64D,bI,strI_un,wrap_u,and_assoc]; done))) | ((with_reducible refine Call_fz (c4) ?_ ?_); (· (simp [hdrD,u64D,bI,strI_un,wrap_u,and_assoc]; done))) | ((with_reducible refine Call_fz (c5) ?_ ?_); (· (simp [hdrD,u64D,bI,strI_un,wrap_u,and_assoc]; done))) | ((with_reducible refine Call_fz (c6) ?_ ?_); (· (simp [hdrD,u64D,bI,strI_un,wrap_u,and_assoc]; done))) | ((with_reducible refine Call_fz (c7) ?_ ?_); (· (simp [hdrD,u64D,bI,strI_un,wrap_u,and_assoc]; done))))) | ((with_reducible refine callF_id ?_); (first | ((with_reducible refine CallF_fz (c1) ?_ ?_); (· (intro G hG; simp [hdrD,u64D,bI,strI_un,wrap_u] at hG; simp [hdrD,u64D,bI,strI_un,wrap_u,hG,and_assoc]; done))) | ((with_reducible refine CallF_fl (c2) ?_ ?_ ?_); (· (simp [hdrD,u64D,bI,strI_un,wrap_u]; done)); (· (intro G hG; simp [hdrD,u64D,bI,strI_un,wrap_u] at hG; simp [hdrD,u64D,bI,strI_un,wrap_u,hG,and_assoc]; done))) | ((with_reducible refine CallF_fz (c2) ?_ ?_); (· (intro G hG; simp [hdrD,u64D,bI,strI_un,wrap_u] at hG; simp [hdrD,u64D,bI,strI_un,wrap_u,hG,and_assoc]; done))) | ((with_reducible refine CallF_fz (c3) ?_ ?_); (· (intro G hG; simp [hdrD,u64D,bI,strI_un,wrap_u] at hG; simp [hdrD,u64D,bI,strI_un,wrap_u,hG,and_assoc]; done))) | ((with_reducible refine CallF_fz (c4) ?_ ?_); (· (intro G hG; simp [hdrD,u64D,bI,strI_un,wrap_u] at hG; simp [hdrD,u64D,bI,strI_un,wrap_u,hG,and_assoc]; done))) | ((with_reducible refine CallF_fz (c5) ?_ ?_); (· (intro G hG; simp [hdrD,u64D,bI,strI_un,wrap_u] at hG; simp [hdrD,u64D,bI,strI_un,wrap_u,hG,and_assoc]; done))) | ((with_reducible refine CallF_fz (c6) ?_ ?_); (· (intro G hG; simp [hdrD,u64D,bI,strI_un,wrap_u] at hG; simp [hdrD,u64D,bI,strI_un,wrap_u,hG,and_assoc]; done))) | ((with_reducible refine CallF_fz (c7) ?_ ?_); (· (intro G hG; simp [hdrD,u64D,bI,strI_un,wrap_u] at hG; simp [hdrD,u64D,bI,strI_un,wrap_u,hG,and_assoc]; done))))) | ((first | refine Wc_split (fun hg=>?_) (fun hg=>?_) | refine RoG_split (fun hg=>?_) (fun hg=>?_) | refine RdG_split (fun hg=>?_) (fun hg=>?_)) <;> (try simp only [nrm] at hg) <;> (try simp only [hg,lgc,reduceIte,reduceCtorEq] at hR) <;> (try (exfalso; omega))) | ((try simp only [*,lgc,reduceIte,reduceCtorEq] at hR); obtain ⟨rfl⟩:=hR; refine fin_q (rs:=[.tmp 2]) rfl ?_; (try simp only [go_sem,Nat.reduceLT,Nat.reduceAdd,Nat.reduceMul,reduceIte,Nat.reduceEqDiff,reduceCtorEq,Nat.reducePow,Nat.reduceLeDiff,Int.reduceLE,Int.reduceLT,Int.reduceToNat,Int.reduceEq,Nat.reduceBEq,hdrD,u64D,bI,strI_un,wrap_u]); (simp [hdrD,u64D,bI,strI_un,wrap_u]; done))))
theorem W_ (h:oq) (h1:h.root.length<=1048576) (h2:h.vals.length<=1048576) (h3:h.next.length<=1048576):PureD Tryz.prog 57 [hdrD h] (hdrD h):=by
 refine aj fun R hR=>?_
 have c1:=dN h.root (by omega)
 have c2:=dN h.vals (by omega)
 have c3:=dN h.next (by omega)
 refine aa 16 Tryz.func57 rfl rfl rfl (fun _ _=>rfl) ?_
 (repeat' (first | (simp -implicitDefEqProofs only [go_sem,Nat.reduceLT,Nat.reduceAdd,Nat.reduceMul,reduceIte,Nat.reduceEqDiff,reduceCtorEq,Nat.reducePow,Nat.reduceLeDiff,Int.reduceLE,Int.reduceLT,Int.reduceToNat,Int.reduceEq,Nat.reduceBEq,hdrD,bI, *]) | (with_reducible refine ⟨?_,?_⟩; (· first | (obtain ⟨rfl⟩:=‹Hq _ _›; with_reducible refine chk_ok ?_; kernel_rfl) | kernel_rfl)) | (with_reducible intro ops hops) | (simp -implicitDefEqProofs (disch:=omega) only [wr64,wru64,get_lt]) | ((with_reducible refine call_id ?_); (first | ((with_reducible refine Call_fz (c1) ?_ ?_); (· (simp [hdrD,bI,and_assoc]; done))) | ((with_reducible refine Call_fz (c2) ?_ ?_); (· (simp [hdrD,bI,and_assoc]; done))) | ((with_reducible refine Call_fz (c3) ?_ ?_); (· (simp [hdrD,bI,and_assoc]; done))))) | ((with_reducible refine callF_id ?_); (first | ((with_reducible refine CallF_fz (c1) ?_ ?_); (· (intro G hG; simp [hdrD,bI] at hG; simp [hdrD,bI,hG,and_assoc]; done))) | ((with_reducible refine CallF_fz (c2) ?_ ?_); (· (intro G hG; simp [hdrD,bI] at hG; simp [hdrD,bI,hG,and_assoc]; done))) | ((with_reducible refine CallF_fz (c3) ?_ ?_); (· (intro G hG; simp [hdrD,bI] at hG; simp [hdrD,bI,hG,and_assoc]; done))))) | ((first | refine Wc_split (fun hg=>?_) (fun hg=>?_) | refine RoG_split (fun hg=>?_) (fun hg=>?_) | refine RdG_split (fun hg=>?_) (fun hg=>?_)) <;> (try simp only [nrm] at hg) <;> (try simp only [hg,lgc,reduceIte,reduceCtorEq] at hR) <;> (try (exfalso; omega))) | ((try simp only [*,lgc,reduceIte,reduceCtorEq] at hR); obtain ⟨rfl⟩:=hR; refine fin_q (rs:=[.cell 2 42]) rfl ?_; (try simp only [go_sem,Nat.reduceLT,Nat.reduceAdd,Nat.reduceMul,reduceIte,Nat.reduceEqDiff,reduceCtorEq,Nat.reducePow,Nat.reduceLeDiff,Int.reduceLE,Int.reduceLT,Int.reduceToNat,Int.reduceEq,Nat.reduceBEq,hdrD,bI]); (simp [hdrD,bI]; done))))
theorem rD {α β:Type} {l:List α} {m:List β} {i:Nat} (h:i < l.length) (h':i < m.length):(l.zip m)[i]'(by rw [List.length_zip]; omega)=(l[i],m[i]):=by simp
theorem Qp {l:List dI} (h:og l) (m:List jk) (i:Nat):MZ ((l.zip m).take i)<=10000000:=by
 have h1:=qc (f:=Nu) (k:=1000000) (l:=(l.zip m).take i) (wz fun q hq=>by
  obtain ⟨v,x⟩:=q
  have:=h.pow v (List.of_mem_zip hq).1
  show (if x.is=true then v.p else 0)<=_
  split <;> omega)
 have h2:=h.len
 have h3:((l.zip m).take i).length<=10:=by rw [List.length_take,List.length_zip]; omega
 unfold MZ
 have:((l.zip m).take i).length * 1000000<=10 * 1000000:=Nat.mul_le_mul_right _ h3
 omega
structure Qi (h:oq):Prop where
 c:h.c.size<=1048576
 root:h.root.length<=1048576
 vals:h.vals.length<=1048576
 next:h.next.length<=1048576
theorem vw (h:oq):(cu h).length<=20000:=lD _
theorem OX (s:gH) (hs:Qi s.hdr) (hv:og s.vals) (hl:s.votes.length=s.vals.length) (hk:∀ v∈s.vals,v.k < 18446744073709551616) (hx:∀ x∈s.votes,x.r < 18446744073709551616/\x.s < 18446744073709551616) :
  PureD Tryz.prog 248 [.rp (encS s) 0] (.tup [u64D (zk s.vals),u64D (MZ (s.vals.zip s.votes)),boolD (Rc (cu s.hdr) (s.vals.zip s.votes))]):=by
 refine aj fun R hR=>?_
 have c1:=rq s.hdr hs.c hs.root hs.vals hs.next
 have hbl:=vw s.hdr
 have hlz:(s.vals.zip s.votes).length=s.vals.length:=by rw [List.length_zip]; omega
 have hle:=hv.len
 refine aa 57 Tryz.func248 rfl rfl rfl (fun _ _=>rfl) ?_
 (repeat' (first | (simp -implicitDefEqProofs only [go_sem,Nat.reduceLT,Nat.reduceAdd,Nat.reduceMul,reduceIte,Nat.reduceEqDiff,reduceCtorEq,Nat.reducePow,Nat.reduceLeDiff,Int.reduceLE,Int.reduceLT,Int.reduceToNat,Int.reduceEq,Nat.reduceBEq,encS,hdrD,bI,valsI,votesI,u64D,boolD, *]) | (with_reducible refine ⟨?_,?_⟩; (· first | (obtain ⟨rfl⟩:=‹Hq _ _›; with_reducible refine chk_ok ?_; kernel_rfl) | kernel_rfl)) | (with_reducible intro ops hops) | (simp -implicitDefEqProofs (disch:=omega) only [wr64,wru64,get_lt]) | ((with_reducible refine call_id ?_); (first | ((with_reducible refine Call_fz (c1) ?_ ?_); (· (simp [encS,hdrD,bI,valsI,votesI,u64D,boolD,and_assoc]; done))))) | ((with_reducible refine callF_id ?_); (first | ((with_reducible refine CallF_fz (c1) ?_ ?_); (· (intro G hG; simp [encS,hdrD,bI,valsI,votesI,u64D,boolD] at hG; simp [encS,hdrD,bI,valsI,votesI,u64D,boolD,hG,and_assoc]; done))))) | ((first | refine Wc_split (fun hg=>?_) (fun hg=>?_) | refine RoG_split (fun hg=>?_) (fun hg=>?_) | refine RdG_split (fun hg=>?_) (fun hg=>?_)) <;> (try simp only [nrm] at hg) <;> (try simp only [hg,lgc,reduceIte,reduceCtorEq] at hR) <;> (try (exfalso; omega))) | ((try simp only [*,lgc,reduceIte,reduceCtorEq] at hR); obtain ⟨rfl⟩:=hR; refine fin_q (rs:=[.tmp 2,.tmp 3,.tmp 4]) rfl ?_; (try simp only [go_sem,Nat.reduceLT,Nat.reduceAdd,Nat.reduceMul,reduceIte,Nat.reduceEqDiff,reduceCtorEq,Nat.reducePow,Nat.reduceLeDiff,Int.reduceLE,Int.reduceLT,Int.reduceToNat,Int.reduceEq,Nat.reduceBEq,encS,hdrD,bI,valsI,votesI,u64D,boolD]); (simp [encS,hdrD,bI,valsI,votesI,u64D,boolD]; done))))
 refine cz (ι:=Nat) (fun i=>i<=s.vals.length)
  (fun i=>dW [(0,.rp (encS s) 0),(5,.i (bI (cu s.hdr))),(2,u64D (zk (s.vals.take i))),(3,u64D (MZ ((s.vals.zip s.votes).take i))),(4,boolD (Rc (cu s.hdr) ((s.vals.zip s.votes).take i))),(16,.i (valsI s.vals)),(17,intD s.vals.length),(18,intD i)] []) (fun i=>s.vals.length - i) 0 (Nat.zero_le _) ?_ ?_
 ·(refine le_stOf _ _ [] [] ?_ ?_ rfl rfl <;> (simp [Int.natCast_add,Int.natCast_zero,Int.natCast_one,encS,valsI,votesI,u64D,zk,MZ,Rc]; done))
 ·rintro i hi
  rw [au]
  by_cases h:i < s.vals.length
  ·have h2:i < s.votes.length:=by omega
   have e1:=get_lt (f:=encV) h
   have e2:=get_lt (f:=encX) h2
   have t1:zk (s.vals.take (i+1))=zk (s.vals.take i)+s.vals[i].p:=nH h
   have t2:MZ ((s.vals.zip s.votes).take (i+1))=MZ ((s.vals.zip s.votes).take i)+Nu (s.vals.zip s.votes)[i]:=nH (by omega)
   have t3:Rc (cu s.hdr) ((s.vals.zip s.votes).take (i+1))=(Rc (cu s.hdr) ((s.vals.zip s.votes).take i) || Ut (cu s.hdr) (s.vals.zip s.votes)[i]):=Qc (by omega)
   have b1:=wC hv i
   have b2:=Qp hv s.votes i
   have b3:=hv.pow s.vals[i] (List.getElem_mem h)
   have c2:=Xa s.vals[i].k (cu s.hdr) s.votes[i].r s.votes[i].s (hk _ (List.getElem_mem h)) (hx _ (List.getElem_mem h2)).1 (hx _ (List.getElem_mem h2)).2 (by omega)
   rw [rD h h2] at t2 t3
   generalize s.vals[i]=v at *
   generalize s.votes[i]=x at *
   generalize zk (s.vals.take i)=A at *
   generalize MZ ((s.vals.zip s.votes).take i)=B at *
   generalize Rc (cu s.hdr) ((s.vals.zip s.votes).take i)=C at *
   unfold Nu at t2
   unfold Ut at t3
   simp only at t2 t3
   have w1:IntKind.u64.wrap ((A:Int)+(v.p:Int))=((A+v.p:Nat):Int):=by rw [IntKind.wrap_u64]; omega
   have w2:IntKind.u64.wrap ((B:Int)+(v.p:Int))=((B+v.p:Nat):Int):=by rw [IntKind.wrap_u64]; omega
   clear hR b1 b2 b3 hlz hbl hv hk hx
   generalize cu s.hdr=M at *
   generalize O_ v.k M x.r x.s=G at *
   obtain ⟨xi,xr,xs⟩:=x
   cases xi <;> cases G <;> simp at t2 t3
   all_goals
    (repeat' (first | (simp -implicitDefEqProofs only [go_sem,Nat.reduceLT,Nat.reduceAdd,Nat.reduceMul,reduceIte,Nat.reduceEqDiff,reduceCtorEq,Nat.reducePow,Nat.reduceLeDiff,Int.reduceLE,Int.reduceLT,Int.reduceToNat,Int.reduceEq,Nat.reduceBEq,encS,hdrD,bI,valsI,votesI,u64D,boolD,intD,encV,encX,sealD, *]) | (with_reducible refine ⟨?_,?_⟩; (· first | (obtain ⟨rfl⟩:=‹Hq _ _›; with_reducible refine chk_ok ?_; kernel_rfl) | kernel_rfl)) | (with_reducible intro ops hops) | (simp -implicitDefEqProofs (disch:=omega) only [wr64,wru64,get_lt]) | ((with_reducible refine call_id ?_); (first | ((with_reducible refine Call_fl (c2) ?_ ?_ ?_); (· (simp [encS,hdrD,bI,valsI,votesI,u64D,boolD,intD,encV,encX,sealD]; done)); (· (simp [encS,hdrD,bI,valsI,votesI,u64D,boolD,intD,encV,encX,sealD,and_assoc]; done))))) | ((with_reducible refine callF_id ?_); (first | ((with_reducible refine CallF_fl (c2) ?_ ?_ ?_); (· (simp [encS,hdrD,bI,valsI,votesI,u64D,boolD,intD,encV,encX,sealD]; done)); (· (intro G hG; simp [encS,hdrD,bI,valsI,votesI,u64D,boolD,intD,encV,encX,sealD] at hG; simp [encS,hdrD,bI,valsI,votesI,u64D,boolD,intD,encV,encX,sealD,hG,and_assoc]; done))))) | ((first | refine Wc_split (fun hg=>?_) (fun hg=>?_) | refine RoG_split (fun hg=>?_) (fun hg=>?_) | refine RdG_split (fun hg=>?_) (fun hg=>?_)) <;> (try simp only [nrm] at hg) <;> (try simp only [hg,lgc,reduceIte,reduceCtorEq] at hR) <;> (try (exfalso; omega))) | (refine ⟨i+1,h,?_,?_⟩; (· (refine le_stOf _ _ [] [] ?_ ?_ rfl rfl <;> (simp [Int.natCast_add,Int.natCast_zero,Int.natCast_one,encS,valsI,votesI,u64D,t1,t2,t3,Bool.or_true,Bool.or_false]; done))); (· (simp only; omega))) | ((try simp only [*,lgc,reduceIte,reduceCtorEq] at hR); obtain ⟨rfl⟩:=hR; refine fin_q (rs:=[.tmp 2,.tmp 3,.tmp 4]) rfl ?_; (try simp only [go_sem,Nat.reduceLT,Nat.reduceAdd,Nat.reduceMul,reduceIte,Nat.reduceEqDiff,reduceCtorEq,Nat.reducePow,Nat.reduceLeDiff,Int.reduceLE,Int.reduceLT,Int.reduceToNat,Int.reduceEq,Nat.reduceBEq,encS,hdrD,bI,valsI,votesI,u64D,boolD,intD,encV,encX,sealD]); (simp [encS,hdrD,bI,valsI,votesI,u64D,boolD,intD,encV,encX,sealD]; done))))
  ·have ht:s.vals.take i=s.vals:=List.take_of_length_le (by omega)
   have ht2:(s.vals.zip s.votes).take i=s.vals.zip s.votes:=List.take_of_length_le (by omega)
   rw [ht,ht2]
   (repeat' (first | (simp -implicitDefEqProofs only [go_sem,Nat.reduceLT,Nat.reduceAdd,Nat.reduceMul,reduceIte,Nat.reduceEqDiff,reduceCtorEq,Nat.reducePow,Nat.reduceLeDiff,Int.reduceLE,Int.reduceLT,Int.reduceToNat,Int.reduceEq,Nat.reduceBEq,encS,hdrD,bI,valsI,votesI,u64D,boolD,intD, *]) | (with_reducible refine ⟨?_,?_⟩; (· first | (obtain ⟨rfl⟩:=‹Hq _ _›; with_reducible refine chk_ok ?_; kernel_rfl) | kernel_rfl)) | (with_reducible intro ops hops) | (simp -implicitDefEqProofs (disch:=omega) only [wr64,wru64,get_lt]) | ((first | refine Wc_split (fun hg=>?_) (fun hg=>?_) | refine RoG_split (fun hg=>?_) (fun hg=>?_) | refine RdG_split (fun hg=>?_) (fun hg=>?_)) <;> (try simp only [nrm] at hg) <;> (try simp only [hg,lgc,reduceIte,reduceCtorEq] at hR) <;> (try (exfalso; omega))) | ((try simp only [*,lgc,reduceIte,reduceCtorEq] at hR); obtain ⟨rfl⟩:=hR; refine fin_q (rs:=[.tmp 2,.tmp 3,.tmp 4]) rfl ?_; (try simp only [go_sem,Nat.reduceLT,Nat.reduceAdd,Nat.reduceMul,reduceIte,Nat.reduceEqDiff,reduceCtorEq,Nat.reducePow,Nat.reduceLeDiff,Int.reduceLE,Int.reduceLT,Int.reduceToNat,Int.reduceEq,Nat.reduceBEq,encS,hdrD,bI,valsI,votesI,u64D,boolD,intD]); (simp [encS,hdrD,bI,valsI,votesI,u64D,boolD,intD]; done))))
structure UD (s:gH):Prop where
 h:Qi s.hdr
 len:s.vals.length<=1048576
 k:∀ v∈s.vals,v.k < 18446744073709551616/\v.p < 18446744073709551616
 x:∀ x∈s.votes,x.r < 18446744073709551616/\x.s < 18446744073709551616
theorem OY (s:gH) (hs:UD s):PureD Tryz.prog 219 [signedD s] (intD (nY s)):=by
 refine aj fun R hR=>?_
 have c1:=EK s.hdr
 have c2:=Cn s.vals (by have:=hs.len; omega)
 have c4:=fZ (bX s.vals) s.hdr.vals
 unfold nY at hR
 by_cases hv:jf s.vals=0
 ·have ok:=jr.1 hv
  have c3:=kU s.vals (by have:=ok.len; omega) hs.k
  by_cases hl:s.votes.length=s.vals.length
  ·have c5:=OX s hs.h ok hl (fun v h=>(hs.k v h).1) hs.x
   have b1:=wC ok s.vals.length
   have b2:=Qp ok s.votes (s.vals.zip s.votes).length
   rw [List.take_length] at b1 b2
   have hl':(s.votes.length:Int)=s.vals.length:=by omega
   rw [hv] at hR c2
   generalize zk s.vals=A at *
   generalize MZ (s.vals.zip s.votes)=B at *
   generalize Rc (cu s.hdr) (s.vals.zip s.votes)=C at *
   have w1:IntKind.u64.wrap (3 * (B:Int))=3 * (B:Int):=by rw [IntKind.wrap_u64]; omega
   have w2:IntKind.u64.wrap (2 * (A:Int))=2 * (A:Int):=by rw [IntKind.wrap_u64]; omega
   generalize bX s.vals=X at *
   generalize hW:fo s.hdr=Wr at *
   clear b1 b2 hv ok hl hW hs
   simp only [hl',if_true] at hR
   cases C
   all_goals
    refine aa 50 Tryz.func219 rfl rfl rfl (fun _ _=>rfl) ?_
    (repeat' (first | (simp -implicitDefEqProofs only [go_sem,Nat.reduceLT,Nat.reduceAdd,Nat.reduceMul,reduceIte,Nat.reduceEqDiff,reduceCtorEq,Nat.reducePow,Nat.reduceLeDiff,Int.reduceLE,Int.reduceLT,Int.reduceToNat,Int.reduceEq,Nat.reduceBEq,signedD,hdrD,encS,bI,valsI,votesI,u64D,boolD,intD, *]) | (with_reducible refine ⟨?_,?_⟩; (· first | (obtain ⟨rfl⟩:=‹Hq _ _›; with_reducible refine chk_ok ?_; kernel_rfl) | kernel_rfl)) | (with_reducible intro ops hops) | (simp -implicitDefEqProofs (disch:=omega) only [wr64,wru64,get_lt]) | ((with_reducible refine call_id ?_); (first | ((with_reducible refine Call_fl (c1) ?_ ?_ ?_); (· (simp [signedD,hdrD,encS,bI,valsI,votesI,u64D,boolD,intD]; done)); (· (simp [signedD,hdrD,encS,bI,valsI,votesI,u64D,boolD,intD,and_assoc]; done))) | ((with_reducible refine Call_fl (c2) ?_ ?_ ?_); (· (simp [signedD,hdrD,encS,bI,valsI,votesI,u64D,boolD,intD]; done)); (· (simp [signedD,hdrD,encS,bI,valsI,votesI,u64D,boolD,intD,and_assoc]; done))) | ((with_reducible refine Call_fz (c3) ?_ ?_); (· (simp [signedD,hdrD,encS,bI,valsI,votesI,u64D,boolD,intD,and_assoc]; done))) | ((with_reducible refine Call_fl (c4) ?_ ?_ ?_); (· (simp [signedD,hdrD,encS,bI,valsI,votesI,u64D,boolD,intD]; done)); (· (simp [signedD,hdrD,encS,bI,valsI,votesI,u64D,boolD,intD,and_assoc]; done))) | ((with_reducible refine Call_fl (c5) ?_ ?_ ?_); (· (simp [signedD,hdrD,encS,bI,valsI,votesI,u64D,boolD,intD]; done)); (· (simp [signedD,hdrD,encS,bI,valsI,votesI,u64D,boolD,intD,and_assoc]; done))))) | ((with_reducible refine callF_id ?_); (first | ((with_reducible refine CallF_fl (c1) ?_ ?_ ?_); (· (simp [signedD,hdrD,encS,bI,valsI,votesI,u64D,boolD,intD]; done)); (· (intro G hG; simp [signedD,hdrD,encS,bI,valsI,votesI,u64D,boolD,intD] at hG; simp [signedD,hdrD,encS,bI,valsI,votesI,u64D,boolD,intD,hG,and_assoc]; done))) | ((with_reducible refine CallF_fl (c2) ?_ ?_ ?_); (· (simp [signedD,hdrD,encS,bI,valsI,votesI,u64D,boolD,intD]; done)); (· (intro G hG; simp [signedD,hdrD,encS,bI,valsI,votesI,u64D,boolD,intD] at hG; simp [signedD,hdrD,encS,bI,valsI,votesI,u64D,boolD,intD,hG,and_assoc]; done))) | ((with_reducible refine CallF_fz (c3) ?_ ?_); (· (intro G hG; simp [signedD,hdrD,encS,bI,valsI,votesI,u64D,boolD,intD] at hG; simp [signedD,hdrD,encS,bI,valsI,votesI,u64D,boolD,intD,hG,and_assoc]; done))) | ((with_reducible refine CallF_fl (c4) ?_ ?_ ?_); (· (simp [signedD,hdrD,encS,bI,valsI,votesI,u64D,boolD,intD]; done)); (· (intro G hG; simp [signedD,hdrD,encS,bI,valsI,votesI,u64D,boolD,intD] at hG; simp [signedD,hdrD,encS,bI,valsI,votesI,u64D,boolD,intD,hG,and_assoc]; done))) | ((with_reducible refine CallF_fl (c5) ?_ ?_ ?_); (· (simp [signedD,hdrD,encS,bI,valsI,votesI,u64D,boolD,intD]; done)); (· (intro G hG; simp [signedD,hdrD,encS,bI,valsI,votesI,u64D,boolD,intD] at hG; simp [signedD,hdrD,encS,bI,valsI,votesI,u64D,boolD,intD,hG,and_assoc]; done))))) | ((first | refine Wc_split (fun hg=>?_) (fun hg=>?_) | refine RoG_split (fun hg=>?_) (fun hg=>?_) | refine RdG_split (fun hg=>?_) (fun hg=>?_)) <;> (try simp only [nrm] at hg) <;> (try simp only [hg,lgc,reduceIte,reduceCtorEq] at hR) <;> (try (exfalso; omega))) | ((try simp only [*,lgc,reduceIte,reduceCtorEq] at hR); obtain ⟨rfl⟩:=hR; refine fin_q (rs:=[.tmp 2]) rfl ?_; (try simp only [go_sem,Nat.reduceLT,Nat.reduceAdd,Nat.reduceMul,reduceIte,Nat.reduceEqDiff,reduceCtorEq,Nat.reducePow,Nat.reduceLeDiff,Int.reduceLE,Int.reduceLT,Int.reduceToNat,Int.reduceEq,Nat.reduceBEq,signedD,hdrD,encS,bI,valsI,votesI,u64D,boolD,intD]); (simp [signedD,hdrD,encS,bI,valsI,votesI,u64D,boolD,intD]; done))))
  ·have hl':¬ (s.votes.length:Int)=s.vals.length:=by omega
   rw [hv] at hR c2
   clear hs hv ok
   simp only [hl',if_false] at hR
   generalize bX s.vals=X at *
   generalize hW:fo s.hdr=Wr at *
   clear hW hl
   refine aa 50 Tryz.func219 rfl rfl rfl (fun _ _=>rfl) ?_
   (repeat' (first | (simp -implicitDefEqProofs only [go_sem,Nat.reduceLT,Nat.reduceAdd,Nat.reduceMul,reduceIte,Nat.reduceEqDiff,reduceCtorEq,Nat.reducePow,Nat.reduceLeDiff,Int.reduceLE,Int.reduceLT,Int.reduceToNat,Int.reduceEq,Nat.reduceBEq,signedD,hdrD,encS,bI,valsI,votesI,u64D,boolD,intD, *]) | (with_reducible refine ⟨?_,?_⟩; (· first | (obtain ⟨rfl⟩:=‹Hq _ _›; with_reducible refine chk_ok ?_; kernel_rfl) | kernel_rfl)) | (with_reducible intro ops hops) | (simp -implicitDefEqProofs (disch:=omega) only [wr64,wru64,get_lt]) | ((with_reducible refine call_id ?_); (first | ((with_reducible refine Call_fl (c1) ?_ ?_ ?_); (· (simp [signedD,hdrD,encS,bI,valsI,votesI,u64D,boolD,intD]; done)); (· (simp [signedD,hdrD,encS,bI,valsI,votesI,u64D,boolD,intD,and_assoc]; done))) | ((with_reducible refine Call_fl (c2) ?_ ?_ ?_); (· (simp [signedD,hdrD,encS,bI,valsI,votesI,u64D,boolD,intD]; done)); (· (simp [signedD,hdrD,encS,bI,valsI,votesI,u64D,boolD,intD,and_assoc]; done))) | ((with_reducible refine Call_fz (c3) ?_ ?_); (· (simp [signedD,hdrD,encS,bI,valsI,votesI,u64D,boolD,intD,and_assoc]; done))) | ((with_reducible refine Call_fl (c4) ?_ ?_ ?_); (· (simp [signedD,hdrD,encS,bI,valsI,votesI,u64D,boolD,intD]; done)); (· (simp [signedD,hdrD,encS,bI,valsI,votesI,u64D,boolD,intD,and_assoc]; done))))) | ((with_reducible refine callF_id ?_); (first | ((with_reducible refine CallF_fl (c1) ?_ ?_ ?_); (· (simp [signedD,hdrD,encS,bI,valsI,votesI,u64D,boolD,intD]; done)); (· (intro G hG; simp [signedD,hdrD,encS,bI,valsI,votesI,u64D,boolD,intD] at hG; simp [signedD,hdrD,encS,bI,valsI,votesI,u64D,boolD,intD,hG,and_assoc]; done))) | ((with_reducible refine CallF_fl (c2) ?_ ?_ ?_); (· (simp [signedD,hdrD,encS,bI,valsI,votesI,u64D,boolD,intD]; done)); (· (intro G hG; simp [signedD,hdrD,encS,bI,valsI,votesI,u64D,boolD,intD] at hG; simp [signedD,hdrD,encS,bI,valsI,votesI,u64D,boolD,intD,hG,and_assoc]; done))) | ((with_reducible refine CallF_fz (c3) ?_ ?_); (· (intro G hG; simp [signedD,hdrD,encS,bI,valsI,votesI,u64D,boolD,intD] at hG; simp [signedD,hdrD,encS,bI,valsI,votesI,u64D,boolD,intD,hG,and_assoc]; done))) | ((with_reducible refine CallF_fl (c4) ?_ ?_ ?_); (· (simp [signedD,hdrD,encS,bI,valsI,votesI,u64D,boolD,intD]; done)); (· (intro G hG; simp [signedD,hdrD,encS,bI,valsI,votesI,u64D,boolD,intD] at hG; simp [signedD,hdrD,encS,bI,valsI,votesI,u64D,boolD,intD,hG,and_assoc]; done))))) | ((first | refine Wc_split (fun hg=>?_) (fun hg=>?_) | refine RoG_split (fun hg=>?_) (fun hg=>?_) | refine RdG_split (fun hg=>?_) (fun hg=>?_)) <;> (try simp only [nrm] at hg) <;> (try simp only [hg,lgc,reduceIte,reduceCtorEq] at hR) <;> (try (exfalso; omega))) | ((try simp only [*,lgc,reduceIte,reduceCtorEq] at hR); obtain ⟨rfl⟩:=hR; refine fin_q (rs:=[.tmp 2]) rfl ?_; (try simp only [go_sem,Nat.reduceLT,Nat.reduceAdd,Nat.reduceMul,reduceIte,Nat.reduceEqDiff,reduceCtorEq,Nat.reducePow,Nat.reduceLeDiff,Int.reduceLE,Int.reduceLT,Int.reduceToNat,Int.reduceEq,Nat.reduceBEq,signedD,hdrD,encS,bI,valsI,votesI,u64D,boolD,intD]); (simp [signedD,hdrD,encS,bI,valsI,votesI,u64D,boolD,intD]; done))))
 ·clear c4
  generalize hW:fo s.hdr=Wr at *
  generalize jf s.vals=V at *
  clear hW hs
  simp only [hv,if_false] at hR
  refine aa 50 Tryz.func219 rfl rfl rfl (fun _ _=>rfl) ?_
  (repeat' (first | (simp -implicitDefEqProofs only [go_sem,Nat.reduceLT,Nat.reduceAdd,Nat.reduceMul,reduceIte,Nat.reduceEqDiff,reduceCtorEq,Nat.reducePow,Nat.reduceLeDiff,Int.reduceLE,Int.reduceLT,Int.reduceToNat,Int.reduceEq,Nat.reduceBEq,signedD,hdrD,encS,bI,valsI,votesI,u64D,boolD,intD, *]) | (with_reducible refine ⟨?_,?_⟩; (· first | (obtain ⟨rfl⟩:=‹Hq _ _›; with_reducible refine chk_ok ?_; kernel_rfl) | kernel_rfl)) | (with_reducible intro ops hops) | (simp -implicitDefEqProofs (disch:=omega) only [wr64,wru64,get_lt]) | ((with_reducible refine call_id ?_); (first | ((with_reducible refine Call_fl (c1) ?_ ?_ ?_); (· (simp [signedD,hdrD,encS,bI,valsI,votesI,u64D,boolD,intD]; done)); (· (simp [signedD,hdrD,encS,bI,valsI,votesI,u64D,boolD,intD,and_assoc]; done))) | ((with_reducible refine Call_fl (c2) ?_ ?_ ?_); (· (simp [signedD,hdrD,encS,bI,valsI,votesI,u64D,boolD,intD]; done)); (· (simp [signedD,hdrD,encS,bI,valsI,votesI,u64D,boolD,intD,and_assoc]; done))))) | ((with_reducible refine callF_id ?_); (first | ((with_reducible refine CallF_fl (c1) ?_ ?_ ?_); (· (simp [signedD,hdrD,encS,bI,valsI,votesI,u64D,boolD,intD]; done)); (· (intro G hG; simp [signedD,hdrD,encS,bI,valsI,votesI,u64D,boolD,intD] at hG; simp [signedD,hdrD,encS,bI,valsI,votesI,u64D,boolD,intD,hG,and_assoc]; done))) | ((with_reducible refine CallF_fl (c2) ?_ ?_ ?_); (· (simp [signedD,hdrD,encS,bI,valsI,votesI,u64D,boolD,intD]; done)); (· (intro G hG; simp [signedD,hdrD,encS,bI,valsI,votesI,u64D,boolD,intD] at hG; simp [signedD,hdrD,encS,bI,valsI,votesI,u64D,boolD,intD,hG,and_assoc]; done))))) | ((first | refine Wc_split (fun hg=>?_) (fun hg=>?_) | refine RoG_split (fun hg=>?_) (fun hg=>?_) | refine RdG_split (fun hg=>?_) (fun hg=>?_)) <;> (try simp only [nrm] at hg) <;> (try simp only [hg,lgc,reduceIte,reduceCtorEq] at hR) <;> (try (exfalso; omega))) | ((try simp only [*,lgc,reduceIte,reduceCtorEq] at hR); obtain ⟨rfl⟩:=hR; refine fin_q (rs:=[.tmp 2]) rfl ?_; (try simp only [go_sem,Nat.reduceLT,Nat.reduceAdd,Nat.reduceMul,reduceIte,Nat.reduceEqDiff,reduceCtorEq,Nat.reducePow,Nat.reduceLeDiff,Int.reduceLE,Int.reduceLT,Int.reduceToNat,Int.reduceEq,Nat.reduceBEq,signedD,hdrD,encS,bI,valsI,votesI,u64D,boolD,intD]); (simp [signedD,hdrD,encS,bI,valsI,votesI,u64D,boolD,intD]; done))))
theorem QP {z:List (dI × jk)} {t:dI} (ht:t.p<=1000000) (hz:z.length<=10) (i:Nat):Nh (z.take i) t<=10000000:=by
 have h1:=qc (f:=J_ t) (k:=1000000) (l:=z.take i) (fun q _=>by unfold J_; split <;> omega)
 have h3:(z.take i).length<=10:=by rw [List.length_take]; omega
 unfold Nh
 have:(z.take i).length * 1000000<=10 * 1000000:=Nat.mul_le_mul_right _ h3
 omega
theorem JZ {z:List (dI × jk)} {tr:List dI} (ht:og tr) (hz:z.length<=10) (j:Nat):xM z (tr.take j)<=100000000:=by
 have h1:=qc (f:=Nh z) (k:=10000000) (l:=tr.take j) (wz fun t h=>by
  have:=QP (t:=t) (ht.pow t h).2 hz z.length
  rw [List.take_length] at this; exact this)
 have h2:=ht.len
 have h3:(tr.take j).length<=10:=by rw [List.length_take]; omega
 unfold xM
 have:(tr.take j).length * 10000000<=10 * 10000000:=Nat.mul_le_mul_right _ h3
 omega
theorem TH (tr:List dI) (s:gH) (ht:og tr) (hv:og s.vals) (hl:s.votes.length=s.vals.length):PureD Tryz.prog 221 [.i (valsI tr),signedD s] (boolD (Og tr s)):=by
 refine aj fun R hR=>?_
 have hlen:=ht.len
 have hlz:(s.vals.zip s.votes).length=s.vals.length:=by rw [List.length_zip]; omega
 have hz10:(s.vals.zip s.votes).length<=10:=by have:=hv.len; omega
 have hsl:=hv.len
 unfold Og at hR
 generalize hz:s.vals.zip s.votes=z at *
 refine aa 52 Tryz.func221 rfl rfl rfl (fun _ _=>rfl) ?_
 (repeat' (first | (simp -implicitDefEqProofs only [go_sem,Nat.reduceLT,Nat.reduceAdd,Nat.reduceMul,reduceIte,Nat.reduceEqDiff,reduceCtorEq,Nat.reducePow,Nat.reduceLeDiff,Int.reduceLE,Int.reduceLT,Int.reduceToNat,Int.reduceEq,Nat.reduceBEq,signedD,bI,valsI,votesI,u64D,boolD,intD, *]) | (with_reducible refine ⟨?_,?_⟩; (· first | (obtain ⟨rfl⟩:=‹Hq _ _›; with_reducible refine chk_ok ?_; kernel_rfl) | kernel_rfl)) | (with_reducible intro ops hops) | (simp -implicitDefEqProofs (disch:=omega) only [wr64,wru64,get_lt]) | ((first | refine Wc_split (fun hg=>?_) (fun hg=>?_) | refine RoG_split (fun hg=>?_) (fun hg=>?_) | refine RdG_split (fun hg=>?_) (fun hg=>?_)) <;> (try simp only [nrm] at hg) <;> (try simp only [hg,lgc,reduceIte,reduceCtorEq] at hR) <;> (try (exfalso; omega))) | ((try simp only [*,lgc,reduceIte,reduceCtorEq] at hR); obtain ⟨rfl⟩:=hR; refine fin_q (rs:=[.tmp 4]) rfl ?_; (try simp only [go_sem,Nat.reduceLT,Nat.reduceAdd,Nat.reduceMul,reduceIte,Nat.reduceEqDiff,reduceCtorEq,Nat.reducePow,Nat.reduceLeDiff,Int.reduceLE,Int.reduceLT,Int.reduceToNat,Int.reduceEq,Nat.reduceBEq,signedD,bI,valsI,votesI,u64D,boolD,intD]); (simp [signedD,bI,valsI,votesI,u64D,boolD,intD]; done))))
 refine cz (ι:=Nat) (fun j=>j<=tr.length)
  (fun j=>dW [(3,.pt 100 0 0 0),(5,u64D (zk (tr.take j))),(6,u64D (xM z (tr.take j))),(11,.i (valsI tr)),(12,intD tr.length),(13,intD j)] [(100,.box ((encS s).map .i))]) (fun j=>tr.length - j) 0 (Nat.zero_le _) ?_ ?_
 ·(refine le_stOf _ _ [] [(100,1000)] ?_ ?_ rfl rfl <;> (simp [Int.natCast_add,Int.natCast_zero,Int.natCast_one,encS,valsI,votesI,u64D,zk,xM]; done))
 ·rintro j hj
  rw [au]
  by_cases h:j < tr.length
  ·have e1:=get_lt (f:=encV) h
   have b1:=wC ht j
   have b2:=JZ ht hz10 j
   have b3:=ht.pow tr[j] (List.getElem_mem h)
   have t1:zk (tr.take (j+1))=zk (tr.take j)+tr[j].p:=nH h
   have t2:xM z (tr.take (j+1))=xM z (tr.take j)+Nh z tr[j]:=nH h
   generalize tr[j]=t at *
   generalize zk (tr.take j)=A at *
   generalize xM z (tr.take j)=B at *
   have w1:IntKind.u64.wrap ((A:Int)+(t.p:Int))=((A+t.p:Nat):Int):=by rw [IntKind.wrap_u64]; omega
   (repeat' (first | (simp -implicitDefEqProofs only [go_sem,Nat.reduceLT,Nat.reduceAdd,Nat.reduceMul,reduceIte,Nat.reduceEqDiff,reduceCtorEq,Nat.reducePow,Nat.reduceLeDiff,Int.reduceLE,Int.reduceLT,Int.reduceToNat,Int.reduceEq,Nat.reduceBEq,encS,bI,valsI,votesI,u64D,boolD,intD,encV, *]) | (with_reducible refine ⟨?_,?_⟩; (· first | (obtain ⟨rfl⟩:=‹Hq _ _›; with_reducible refine chk_ok ?_; kernel_rfl) | kernel_rfl)) | (with_reducible intro ops hops) | (simp -implicitDefEqProofs (disch:=omega) only [wr64,wru64,get_lt]) | ((first | refine Wc_split (fun hg=>?_) (fun hg=>?_) | refine RoG_split (fun hg=>?_) (fun hg=>?_) | refine RdG_split (fun hg=>?_) (fun hg=>?_)) <;> (try simp only [nrm] at hg) <;> (try simp only [hg,lgc,reduceIte,reduceCtorEq] at hR) <;> (try (exfalso; omega))) | ((try simp only [*,lgc,reduceIte,reduceCtorEq] at hR); obtain ⟨rfl⟩:=hR; refine fin_q (rs:=[.tmp 4]) rfl ?_; (try simp only [go_sem,Nat.reduceLT,Nat.reduceAdd,Nat.reduceMul,reduceIte,Nat.reduceEqDiff,reduceCtorEq,Nat.reducePow,Nat.reduceLeDiff,Int.reduceLE,Int.reduceLT,Int.reduceToNat,Int.reduceEq,Nat.reduceBEq,encS,bI,valsI,votesI,u64D,boolD,intD,encV]); (simp [encS,bI,valsI,votesI,u64D,boolD,intD,encV]; done))))
   refine cz (ι:=Nat) (fun i=>i<=s.vals.length)
    (fun i=>dW [(3,.pt 100 0 0 0),(8,.pt 101 0 0 0),(5,u64D (A+t.p)),(6,u64D (B+Nh (z.take i) t)),(11,.i (valsI tr)),(12,intD tr.length),(13,intD j),(22,.i (valsI s.vals)),(23,intD s.vals.length),(24,intD i)] [(100,.box ((encS s).map .i)),(101,.box [.i (.s (.int .u64 t.k)),.i (.s (.int .u64 t.p))])]) (fun i=>s.vals.length - i) 0 (Nat.zero_le _) ?_ ?_
   ·(refine le_stOf _ _ [] [(100,100),(101,2026)] ?_ ?_ rfl rfl <;> (simp [Int.natCast_add,Int.natCast_zero,Int.natCast_one,encS,valsI,votesI,u64D,Nh]; done))
   ·rintro i hi
    rw [au]
    by_cases h':i < s.vals.length
    ·have h2:i < s.votes.length:=by omega
     have e1:=get_lt (f:=encV) h'
     have e2:=get_lt (f:=encX) h2
     have b4:=QP (t:=t) b3.2 hz10 i
     have t3:Nh (z.take (i+1)) t=Nh (z.take i) t+J_ t (z[i]'(by omega)):=nH (by omega)
     have hzi:z[i]'(by omega)=(s.vals[i],s.votes[i]):=by subst hz; exact rD h' h2
     rw [hzi] at t3
     clear hzi
     generalize s.vals[i]=v at *
     generalize s.votes[i]=x at *
     generalize Nh (z.take i) t=C at *
     rw [show J_ t (v,x)=if v.k=t.k/\x.is=true then t.p else 0 from rfl] at t3
     have w2:IntKind.u64.wrap (((B+C:Nat):Int)+(t.p:Int))=((B+C+t.p:Nat):Int):=by rw [IntKind.wrap_u64]; omega
     have k1:((v.k:Int)=(t.k:Int))=(v.k=t.k):=propext (by omega)
     clear hR b1 b2 b3 b4 hlz hlen ht hv t1 t2 w1 hz hz10
     obtain ⟨xi,xr,xs⟩:=x
     by_cases hk:v.k=t.k <;> cases xi <;> simp only [hk,true_and,Bool.false_eq_true,if_false,if_true,and_self,false_and,and_false,Nat.add_zero] at t3
     all_goals
      (repeat' (first | (simp -implicitDefEqProofs only [go_sem,Nat.reduceLT,Nat.reduceAdd,Nat.reduceMul,reduceIte,Nat.reduceEqDiff,reduceCtorEq,Nat.reducePow,Nat.reduceLeDiff,Int.reduceLE,Int.reduceLT,Int.reduceToNat,Int.reduceEq,Nat.reduceBEq,encS,bI,valsI,votesI,u64D,boolD,intD,encV,encX, *]) | (with_reducible refine ⟨?_,?_⟩; (· first | (obtain ⟨rfl⟩:=‹Hq _ _›; with_reducible refine chk_ok ?_; kernel_rfl) | kernel_rfl)) | (with_reducible intro ops hops) | (simp -implicitDefEqProofs (disch:=omega) only [wr64,wru64,get_lt]) | ((first | refine Wc_split (fun hg=>?_) (fun hg=>?_) | refine RoG_split (fun hg=>?_) (fun hg=>?_) | refine RdG_split (fun hg=>?_) (fun hg=>?_)) <;> (try simp only [nrm] at hg) <;> (try simp only [hg,lgc,reduceIte,reduceCtorEq] at hR) <;> (try (exfalso; omega))) | (refine ⟨i+1,h',?_,?_⟩; (· (refine le_stOf _ _ [] [(100,100),(101,101)] ?_ ?_ rfl rfl <;> (simp [Int.natCast_add,Int.natCast_zero,Int.natCast_one,encS,valsI,votesI,u64D,t3,Nat.add_assoc,Int.add_assoc]; done))); (· (simp only; omega))) | ((try simp only [*,lgc,reduceIte,reduceCtorEq] at hR); obtain ⟨rfl⟩:=hR; refine fin_q (rs:=[.tmp 4]) rfl ?_; (try simp only [go_sem,Nat.reduceLT,Nat.reduceAdd,Nat.reduceMul,reduceIte,Nat.reduceEqDiff,reduceCtorEq,Nat.reducePow,Nat.reduceLeDiff,Int.reduceLE,Int.reduceLT,Int.reduceToNat,Int.reduceEq,Nat.reduceBEq,encS,bI,valsI,votesI,u64D,boolD,intD,encV,encX]); (simp [encS,bI,valsI,votesI,u64D,boolD,intD,encV,encX]; done))))
    ·have hti:z.take i=z:=List.take_of_length_le (by omega)
     rw [hti]
     clear hR b1 b2 b3 ht hv hlz hz10 hti w1
     (repeat' (first | (simp -implicitDefEqProofs only [go_sem,Nat.reduceLT,Nat.reduceAdd,Nat.reduceMul,reduceIte,Nat.reduceEqDiff,reduceCtorEq,Nat.reducePow,Nat.reduceLeDiff,Int.reduceLE,Int.reduceLT,Int.reduceToNat,Int.reduceEq,Nat.reduceBEq,encS,bI,valsI,votesI,u64D,boolD,intD, *]) | (with_reducible refine ⟨?_,?_⟩; (· first | (obtain ⟨rfl⟩:=‹Hq _ _›; with_reducible refine chk_ok ?_; kernel_rfl) | kernel_rfl)) | (with_reducible intro ops hops) | (simp -implicitDefEqProofs (disch:=omega) only [wr64,wru64,get_lt]) | ((first | refine Wc_split (fun hg=>?_) (fun hg=>?_) | refine RoG_split (fun hg=>?_) (fun hg=>?_) | refine RdG_split (fun hg=>?_) (fun hg=>?_)) <;> (try simp only [nrm] at hg) <;> (try simp only [hg,lgc,reduceIte,reduceCtorEq] at hR) <;> (try (exfalso; omega))) | (refine ⟨j+1,h,?_,?_⟩; (· (refine le_stOf _ _ [] [(100,100)] ?_ ?_ rfl rfl <;> (simp [Int.natCast_add,Int.natCast_zero,Int.natCast_one,encS,valsI,votesI,u64D,t1,t2]; done))); (· (simp only; omega))) | ((try simp only [*,lgc,reduceIte,reduceCtorEq] at hR); obtain ⟨rfl⟩:=hR; refine fin_q (rs:=[.tmp 4]) rfl ?_; (try simp only [go_sem,Nat.reduceLT,Nat.reduceAdd,Nat.reduceMul,reduceIte,Nat.reduceEqDiff,reduceCtorEq,Nat.reducePow,Nat.reduceLeDiff,Int.reduceLE,Int.reduceLT,Int.reduceToNat,Int.reduceEq,Nat.reduceBEq,encS,bI,valsI,votesI,u64D,boolD,intD]); (simp [encS,bI,valsI,votesI,u64D,boolD,intD]; done))))
  ·have htj:tr.take j=tr:=List.take_of_length_le (by omega)
   have b1:=wC ht j
   have b2:=JZ ht hz10 j
   rw [htj] at b1 b2 ⊢
   generalize zk tr=A at *
   generalize xM z tr=B at *
   have w1:IntKind.u64.wrap (3 * (B:Int))=((3 * B:Nat):Int):=by rw [IntKind.wrap_u64]; omega
   have k1:decide ((A:Int) < ((3 * B:Nat):Int))=decide (A < 3 * B):=by congr 1; exact propext (by omega)
   clear b1 b2 ht hv hlz hz10 htj
   (repeat' (first | (simp -implicitDefEqProofs only [go_sem,Nat.reduceLT,Nat.reduceAdd,Nat.reduceMul,reduceIte,Nat.reduceEqDiff,reduceCtorEq,Nat.reducePow,Nat.reduceLeDiff,Int.reduceLE,Int.reduceLT,Int.reduceToNat,Int.reduceEq,Nat.reduceBEq,encS,bI,valsI,votesI,u64D,boolD,intD, *]) | (with_reducible refine ⟨?_,?_⟩; (· first | (obtain ⟨rfl⟩:=‹Hq _ _›; with_reducible refine chk_ok ?_; kernel_rfl) | kernel_rfl)) | (with_reducible intro ops hops) | (simp -implicitDefEqProofs (disch:=omega) only [wr64,wru64,get_lt]) | ((first | refine Wc_split (fun hg=>?_) (fun hg=>?_) | refine RoG_split (fun hg=>?_) (fun hg=>?_) | refine RdG_split (fun hg=>?_) (fun hg=>?_)) <;> (try simp only [nrm] at hg) <;> (try simp only [hg,lgc,reduceIte,reduceCtorEq] at hR) <;> (try (exfalso; omega))) | ((try simp only [*,lgc,reduceIte,reduceCtorEq] at hR); obtain ⟨rfl⟩:=hR; refine fin_q (rs:=[.tmp 4]) rfl ?_; (try simp only [go_sem,Nat.reduceLT,Nat.reduceAdd,Nat.reduceMul,reduceIte,Nat.reduceEqDiff,reduceCtorEq,Nat.reducePow,Nat.reduceLeDiff,Int.reduceLE,Int.reduceLT,Int.reduceToNat,Int.reduceEq,Nat.reduceBEq,encS,bI,valsI,votesI,u64D,boolD,intD]); (simp [encS,bI,valsI,votesI,u64D,boolD,intD]; done))))
def dQ (h:oq) (seeds:List (List UInt8)) (vals:List dI) (j i:Nat):List jk:=(vals.take i).map (kE h (seeds.take (j+1)))++(vals.drop i).map (kE h (seeds.take j))
theorem FQ {h:oq} {seeds:List (List UInt8)} {v:dI} {j:Nat} (hj:j < seeds.length):kE h (seeds.take (j+1)) v=if v.k=keyF seeds[j] then ⟨true,AB seeds[j] (cu h),sigS seeds[j] (cu h)⟩ else kE h (seeds.take j) v:=by
 unfold kE
 rw [List.take_succ_eq_append_getElem hj,List.foldl_append]; rfl
theorem Ba (h:oq) (seeds:List (List UInt8)) (vals:List dI) (j:Nat):dQ h seeds vals j vals.length=dQ h seeds vals (j+1) 0:=by
 simp [dQ]
theorem AZ {h:oq} {seeds:List (List UInt8)} {vals:List dI} {j i:Nat} (hi:i < vals.length):dQ h seeds vals j (i+1)=(dQ h seeds vals j i).set i (kE h (seeds.take (j+1)) vals[i]):=by
 unfold dQ
 have hl:((vals.take i).map (kE h (seeds.take (j+1)))).length=i:=by simp; omega
 rw [List.set_append_right _ _ (by omega),hl,Nat.sub_self,List.take_succ_eq_append_getElem hi,List.map_append,List.drop_eq_getElem_cons hi,List.map_cons,List.map_cons,List.map_nil,List.set_cons_zero,List.append_assoc]
 rfl
theorem A_ {h:oq} {seeds:List (List UInt8)} {vals:List dI} {j i:Nat} (hi:i < vals.length):(dQ h seeds vals j i)[i]?=some (kE h (seeds.take j) vals[i]):=by
 unfold dQ
 have hl:((vals.take i).map (kE h (seeds.take (j+1)))).length=i:=by simp; omega
 rw [List.getElem?_append_right (by omega),hl,Nat.sub_self,List.drop_eq_getElem_cons hi]
 rfl
theorem zb (h:oq) (seeds:List (List UInt8)) (vals:List dI):dQ h seeds vals 0 0=List.replicate vals.length ⟨false,0,0⟩:=by
 unfold dQ kE
 simp only [List.take_zero,List.map_nil,List.drop_zero,List.nil_append,List.foldl_nil]
 induction vals with
 | nil=>rfl
 | cons a t ih=>rw [List.map_cons,ih,List.length_cons,List.replicate_succ]
theorem Bb (h:oq) (seeds:List (List UInt8)) (vals:List dI):dQ h seeds vals seeds.length 0=vals.map (kE h seeds):=by
 unfold dQ
 simp
theorem NP {α:Type} {l:List α} {i:Nat} {x:α} (h:l[i]?=some x):l.set i x=l:=by
 apply List.ext_getElem?
 intro k
 rw [List.getElem?_set]
 split
 ·rename_i e; subst e; rw [h]; simp
  have:=(List.getElem?_eq_some_iff.1 h).1
  exact this
 ·rfl
structure UE (l:List (List UInt8)):Prop where
 len:l.length<=1048576
 b:∀ s∈l,s.length<=1048576
theorem TG (h:oq) (vals:List dI) (seeds:List (List UInt8)) (hs:Qi h) (hl:vals.length<=1048576) (hk:∀ v∈vals,v.k < 18446744073709551616/\v.p < 18446744073709551616) (hd:UE seeds) :
  PureD Tryz.prog 33 [hdrD h,.i (valsI vals),.i (bbI seeds)] (.tup [signedD (ko h vals seeds).1,intD (ko h vals seeds).2]):=by
 refine aj fun R hR=>?_
 have c1:=EK h
 have c2:=Cn vals (by omega)
 have c4:=fZ (bX vals) h.vals
 have c5:=W_ h hs.root hs.vals hs.next
 unfold ko at hR
 by_cases hok:jf vals=0/\bX vals=h.vals/\fo h=0
 rotate_left
 ·clear c5
  by_cases h1:fo h=0
  ·by_cases h2:jf vals=0
   ·have c3:=kU vals (by have:=(jr.1 h2).len; omega) hk
    generalize fo h=Wr at *
    generalize jf vals=V at *
    generalize bX vals=X at *
    clear hs hl hk hd
    have h3:¬ X=h.vals:=fun e=>hok ⟨h2,e,h1⟩
    clear hok
    refine aa 74 Tryz.func33 rfl rfl rfl (fun _ _=>rfl) ?_
    (repeat' (first | (simp -implicitDefEqProofs only [go_sem,Nat.reduceLT,Nat.reduceAdd,Nat.reduceMul,reduceIte,Nat.reduceEqDiff,reduceCtorEq,Nat.reducePow,Nat.reduceLeDiff,Int.reduceLE,Int.reduceLT,Int.reduceToNat,Int.reduceEq,Nat.reduceBEq,hdrD,bI,valsI,intD,signedD,zeroS,zeroH,votesI, *]) | (with_reducible refine ⟨?_,?_⟩; (· first | (obtain ⟨rfl⟩:=‹Hq _ _›; with_reducible refine chk_ok ?_; kernel_rfl) | kernel_rfl)) | (with_reducible intro ops hops) | (simp -implicitDefEqProofs (disch:=omega) only [wr64,wru64,get_lt]) | ((with_reducible refine call_id ?_); (first | ((with_reducible refine Call_fl (c1) ?_ ?_ ?_); (· (simp [hdrD,bI,valsI,intD,signedD,zeroS,zeroH,votesI]; done)); (· (simp [hdrD,bI,valsI,intD,signedD,zeroS,zeroH,votesI,and_assoc]; done))) | ((with_reducible refine Call_fl (c2) ?_ ?_ ?_); (· (simp [hdrD,bI,valsI,intD,signedD,zeroS,zeroH,votesI]; done)); (· (simp [hdrD,bI,valsI,intD,signedD,zeroS,zeroH,votesI,and_assoc]; done))) | ((with_reducible refine Call_fz (c3) ?_ ?_); (· (simp [hdrD,bI,valsI,intD,signedD,zeroS,zeroH,votesI,and_assoc]; done))) | ((with_reducible refine Call_fl (c4) ?_ ?_ ?_); (· (simp [hdrD,bI,valsI,intD,signedD,zeroS,zeroH,votesI]; done)); (· (simp [hdrD,bI,valsI,intD,signedD,zeroS,zeroH,votesI,and_assoc]; done))))) | ((with_reducible refine callF_id ?_); (first | ((with_reducible refine CallF_fl (c1) ?_ ?_ ?_); (· (simp [hdrD,bI,valsI,intD,signedD,zeroS,zeroH,votesI]; done)); (· (intro G hG; simp [hdrD,bI,valsI,intD,signedD,zeroS,zeroH,votesI] at hG; simp [hdrD,bI,valsI,intD,signedD,zeroS,zeroH,votesI,hG,and_assoc]; done))) | ((with_reducible refine CallF_fl (c2) ?_ ?_ ?_); (· (simp [hdrD,bI,valsI,intD,signedD,zeroS,zeroH,votesI]; done)); (· (intro G hG; simp [hdrD,bI,valsI,intD,signedD,zeroS,zeroH,votesI] at hG; simp [hdrD,bI,valsI,intD,signedD,zeroS,zeroH,votesI,hG,and_assoc]; done))) | ((with_reducible refine CallF_fz (c3) ?_ ?_); (· (intro G hG; simp [hdrD,bI,valsI,intD,signedD,zeroS,zeroH,votesI] at hG; simp [hdrD,bI,valsI,intD,signedD,zeroS,zeroH,votesI,hG,and_assoc]; done))) | ((with_reducible refine CallF_fl (c4) ?_ ?_ ?_); (· (simp [hdrD,bI,valsI,intD,signedD,zeroS,zeroH,votesI]; done)); (· (intro G hG; simp [hdrD,bI,valsI,intD,signedD,zeroS,zeroH,votesI] at hG; simp [hdrD,bI,valsI,intD,signedD,zeroS,zeroH,votesI,hG,and_assoc]; done))))) | ((first | refine Wc_split (fun hg=>?_) (fun hg=>?_) | refine RoG_split (fun hg=>?_) (fun hg=>?_) | refine RdG_split (fun hg=>?_) (fun hg=>?_)) <;> (try simp only [nrm] at hg) <;> (try simp only [hg,lgc,reduceIte,reduceCtorEq] at hR) <;> (try (exfalso; omega))) | ((try simp only [*,lgc,reduceIte,reduceCtorEq] at hR); obtain ⟨rfl⟩:=hR; refine fin_q (rs:=[.cell 6 46,.tmp 7]) rfl ?_; (try simp only [go_sem,Nat.reduceLT,Nat.reduceAdd,Nat.reduceMul,reduceIte,Nat.reduceEqDiff,reduceCtorEq,Nat.reducePow,Nat.reduceLeDiff,Int.reduceLE,Int.reduceLT,Int.reduceToNat,Int.reduceEq,Nat.reduceBEq,hdrD,bI,valsI,intD,signedD,zeroS,zeroH,votesI]); (simp [hdrD,bI,valsI,intD,signedD,zeroS,zeroH,votesI]; done))))
   ·clear hok hs hl hk hd c4
    generalize fo h=Wr at *
    generalize jf vals=V at *
    refine aa 74 Tryz.func33 rfl rfl rfl (fun _ _=>rfl) ?_
    (repeat' (first | (simp -implicitDefEqProofs only [go_sem,Nat.reduceLT,Nat.reduceAdd,Nat.reduceMul,reduceIte,Nat.reduceEqDiff,reduceCtorEq,Nat.reducePow,Nat.reduceLeDiff,Int.reduceLE,Int.reduceLT,Int.reduceToNat,Int.reduceEq,Nat.reduceBEq,hdrD,bI,valsI,intD,signedD,zeroS,zeroH,votesI, *]) | (with_reducible refine ⟨?_,?_⟩; (· first | (obtain ⟨rfl⟩:=‹Hq _ _›; with_reducible refine chk_ok ?_; kernel_rfl) | kernel_rfl)) | (with_reducible intro ops hops) | (simp -implicitDefEqProofs (disch:=omega) only [wr64,wru64,get_lt]) | ((with_reducible refine call_id ?_); (first | ((with_reducible refine Call_fl (c1) ?_ ?_ ?_); (· (simp [hdrD,bI,valsI,intD,signedD,zeroS,zeroH,votesI]; done)); (· (simp [hdrD,bI,valsI,intD,signedD,zeroS,zeroH,votesI,and_assoc]; done))) | ((with_reducible refine Call_fl (c2) ?_ ?_ ?_); (· (simp [hdrD,bI,valsI,intD,signedD,zeroS,zeroH,votesI]; done)); (· (simp [hdrD,bI,valsI,intD,signedD,zeroS,zeroH,votesI,and_assoc]; done))))) | ((with_reducible refine callF_id ?_); (first | ((with_reducible refine CallF_fl (c1) ?_ ?_ ?_); (· (simp [hdrD,bI,valsI,intD,signedD,zeroS,zeroH,votesI]; done)); (· (intro G hG; simp [hdrD,bI,valsI,intD,signedD,zeroS,zeroH,votesI] at hG; simp [hdrD,bI,valsI,intD,signedD,zeroS,zeroH,votesI,hG,and_assoc]; done))) | ((with_reducible refine CallF_fl (c2) ?_ ?_ ?_); (· (simp [hdrD,bI,valsI,intD,signedD,zeroS,zeroH,votesI]; done)); (· (intro G hG; simp [hdrD,bI,valsI,intD,signedD,zeroS,zeroH,votesI] at hG; simp [hdrD,bI,valsI,intD,signedD,zeroS,zeroH,votesI,hG,and_assoc]; done))))) | ((first | refine Wc_split (fun hg=>?_) (fun hg=>?_) | refine RoG_split (fun hg=>?_) (fun hg=>?_) | refine RdG_split (fun hg=>?_) (fun hg=>?_)) <;> (try simp only [nrm] at hg) <;> (try simp only [hg,lgc,reduceIte,reduceCtorEq] at hR) <;> (try (exfalso; omega))) | ((try simp only [*,lgc,reduceIte,reduceCtorEq] at hR); obtain ⟨rfl⟩:=hR; refine fin_q (rs:=[.cell 6 46,.tmp 7]) rfl ?_; (try simp only [go_sem,Nat.reduceLT,Nat.reduceAdd,Nat.reduceMul,reduceIte,Nat.reduceEqDiff,reduceCtorEq,Nat.reducePow,Nat.reduceLeDiff,Int.reduceLE,Int.reduceLT,Int.reduceToNat,Int.reduceEq,Nat.reduceBEq,hdrD,bI,valsI,intD,signedD,zeroS,zeroH,votesI]); (simp [hdrD,bI,valsI,intD,signedD,zeroS,zeroH,votesI]; done))))
  ·clear hok hs hl hk hd c4 c2
   generalize fo h=Wr at *
   refine aa 74 Tryz.func33 rfl rfl rfl (fun _ _=>rfl) ?_
   (repeat' (first | (simp -implicitDefEqProofs only [go_sem,Nat.reduceLT,Nat.reduceAdd,Nat.reduceMul,reduceIte,Nat.reduceEqDiff,reduceCtorEq,Nat.reducePow,Nat.reduceLeDiff,Int.reduceLE,Int.reduceLT,Int.reduceToNat,Int.reduceEq,Nat.reduceBEq,hdrD,bI,valsI,intD,signedD,zeroS,zeroH,votesI, *]) | (with_reducible refine ⟨?_,?_⟩; (· first | (obtain ⟨rfl⟩:=‹Hq _ _›; with_reducible refine chk_ok ?_; kernel_rfl) | kernel_rfl)) | (with_reducible intro ops hops) | (simp -implicitDefEqProofs (disch:=omega) only [wr64,wru64,get_lt]) | ((with_reducible refine call_id ?_); (first | ((with_reducible refine Call_fl (c1) ?_ ?_ ?_); (· (simp [hdrD,bI,valsI,intD,signedD,zeroS,zeroH,votesI]; done)); (· (simp [hdrD,bI,valsI,intD,signedD,zeroS,zeroH,votesI,and_assoc]; done))))) | ((with_reducible refine callF_id ?_); (first | ((with_reducible refine CallF_fl (c1) ?_ ?_ ?_); (· (simp [hdrD,bI,valsI,intD,signedD,zeroS,zeroH,votesI]; done)); (· (intro G hG; simp [hdrD,bI,valsI,intD,signedD,zeroS,zeroH,votesI] at hG; simp [hdrD,bI,valsI,intD,signedD,zeroS,zeroH,votesI,hG,and_assoc]; done))))) | ((first | refine Wc_split (fun hg=>?_) (fun hg=>?_) | refine RoG_split (fun hg=>?_) (fun hg=>?_) | refine RdG_split (fun hg=>?_) (fun hg=>?_)) <;> (try simp only [nrm] at hg) <;> (try simp only [hg,lgc,reduceIte,reduceCtorEq] at hR) <;> (try (exfalso; omega))) | ((try simp only [*,lgc,reduceIte,reduceCtorEq] at hR); obtain ⟨rfl⟩:=hR; refine fin_q (rs:=[.cell 6 46,.tmp 7]) rfl ?_; (try simp only [go_sem,Nat.reduceLT,Nat.reduceAdd,Nat.reduceMul,reduceIte,Nat.reduceEqDiff,reduceCtorEq,Nat.reducePow,Nat.reduceLeDiff,Int.reduceLE,Int.reduceLT,Int.reduceToNat,Int.reduceEq,Nat.reduceBEq,hdrD,bI,valsI,intD,signedD,zeroS,zeroH,votesI]); (simp [hdrD,bI,valsI,intD,signedD,zeroS,zeroH,votesI]; done))))
 obtain ⟨h1,h2,h3⟩:=hok
 have ok:=jr.1 h1
 have hvl:=ok.len
 have c3:=kU vals (by omega) hk
 rw [if_pos h3,if_pos h1,if_pos h2] at hR
 rw [h3] at c1
 rw [h1] at c2
 simp only at hR
 have b1:vals.length<=140737488355328:=by omega
 have b2:vals.length * 16<=140737488355328:=by omega
 have b3:vals.length * 24<=140737488355328:=by omega
 have b4:(vals.length:Int) < 140737488355328:=by omega
 have b5:(vals.length:Int) * 24<=140737488355328:=by omega
 have hu:uni 2 (vals.map encV)=true:=Bg (s:=2) (f:=encV) (fun _=>rfl) vals
 have hsl:=hd.len
 rw [h2] at c3 c4
 rw [decide_eq_true (rfl:h.vals=h.vals)] at c4
 clear h1 h2 h3
 have hmk:=fun {H:Nat->Ob} {id:Nat}=>WG (H:=H) (id:=id) (s:=2) (by_:=24) (z:=[.i (.s (.bool false)),.i (.s (.int .u64 0)),.i (.s (.int .u64 0))]) (xs:=[.s (.bool false),.s (.int .u64 0),.s (.int .u64 0)]) (l:=vals.length) (by omega) (by omega) rfl rfl
 refine aa 74 Tryz.func33 rfl rfl rfl (fun _ _=>rfl) ?_
 (repeat' (first | (simp -implicitDefEqProofs only [go_sem,Nat.reduceLT,Nat.reduceAdd,Nat.reduceMul,reduceIte,Nat.reduceEqDiff,reduceCtorEq,Nat.reducePow,Nat.reduceLeDiff,Int.reduceLE,Int.reduceLT,Int.reduceToNat,Int.reduceEq,Nat.reduceBEq,hdrD,bI,valsI,intD,boolD,votesI,bbI,oH_mk,mk_fresh,hmk,Int.reduceMul,Int.le_refl, *]) | (with_reducible refine ⟨?_,?_⟩; (· first | (obtain ⟨rfl⟩:=‹Hq _ _›; with_reducible refine chk_ok ?_; kernel_rfl) | kernel_rfl)) | (with_reducible intro ops hops) | (simp -implicitDefEqProofs (disch:=omega) only [wr64,wru64,get_lt]) | ((with_reducible refine call_id ?_); (first | ((with_reducible refine Call_fl (c1) ?_ ?_ ?_); (· (simp [hdrD,bI,valsI,intD,boolD,votesI,bbI,oH_mk,mk_fresh,hmk,Int.reduceMul,Int.le_refl]; done)); (· (simp [hdrD,bI,valsI,intD,boolD,votesI,bbI,oH_mk,mk_fresh,hmk,Int.reduceMul,Int.le_refl,and_assoc]; done))) | ((with_reducible refine Call_fl (c2) ?_ ?_ ?_); (· (simp [hdrD,bI,valsI,intD,boolD,votesI,bbI,oH_mk,mk_fresh,hmk,Int.reduceMul,Int.le_refl]; done)); (· (simp [hdrD,bI,valsI,intD,boolD,votesI,bbI,oH_mk,mk_fresh,hmk,Int.reduceMul,Int.le_refl,and_assoc]; done))) | ((with_reducible refine Call_fz (c3) ?_ ?_); (· (simp [hdrD,bI,valsI,intD,boolD,votesI,bbI,oH_mk,mk_fresh,hmk,Int.reduceMul,Int.le_refl,and_assoc]; done))) | ((with_reducible refine Call_fl (c4) ?_ ?_ ?_); (· (simp [hdrD,bI,valsI,intD,boolD,votesI,bbI,oH_mk,mk_fresh,hmk,Int.reduceMul,Int.le_refl]; done)); (· (simp [hdrD,bI,valsI,intD,boolD,votesI,bbI,oH_mk,mk_fresh,hmk,Int.reduceMul,Int.le_refl,and_assoc]; done))) | ((with_reducible refine Call_fz (c5) ?_ ?_); (· (simp [hdrD,bI,valsI,intD,boolD,votesI,bbI,oH_mk,mk_fresh,hmk,Int.reduceMul,Int.le_refl,and_assoc]; done))))) | ((with_reducible refine callF_id ?_); (first | ((with_reducible refine CallF_fl (c1) ?_ ?_ ?_); (· (simp [hdrD,bI,valsI,intD,boolD,votesI,bbI,oH_mk,mk_fresh,hmk,Int.reduceMul,Int.le_refl]; done)); (· (intro G hG; simp [hdrD,bI,valsI,intD,boolD,votesI,bbI,oH_mk,mk_fresh,hmk,Int.reduceMul,Int.le_refl] at hG; simp [hdrD,bI,valsI,intD,boolD,votesI,bbI,oH_mk,mk_fresh,hmk,Int.reduceMul,Int.le_refl,hG,and_assoc]; done))) | ((with_reducible refine CallF_fl (c2) ?_ ?_ ?_); (· (simp [hdrD,bI,valsI,intD,boolD,votesI,bbI,oH_mk,mk_fresh,hmk,Int.reduceMul,Int.le_refl]; done)); (· (intro G hG; simp [hdrD,bI,valsI,intD,boolD,votesI,bbI,oH_mk,mk_fresh,hmk,Int.reduceMul,Int.le_refl] at hG; simp [hdrD,bI,valsI,intD,boolD,votesI,bbI,oH_mk,mk_fresh,hmk,Int.reduceMul,Int.le_refl,hG,and_assoc]; done))) | ((with_reducible refine CallF_fz (c3) ?_ ?_); (· (intro G hG; simp [hdrD,bI,valsI,intD,boolD,votesI,bbI,oH_mk,mk_fresh,hmk,Int.reduceMul,Int.le_refl] at hG; simp [hdrD,bI,valsI,intD,boolD,votesI,bbI,oH_mk,mk_fresh,hmk,Int.reduceMul,Int.le_refl,hG,and_assoc]; done))) | ((with_reducible refine CallF_fl (c4) ?_ ?_ ?_); (· (simp [hdrD,bI,valsI,intD,boolD,votesI,bbI,oH_mk,mk_fresh,hmk,Int.reduceMul,Int.le_refl]; done)); (· (intro G hG; simp [hdrD,bI,valsI,intD,boolD,votesI,bbI,oH_mk,mk_fresh,hmk,Int.reduceMul,Int.le_refl] at hG; simp [hdrD,bI,valsI,intD,boolD,votesI,bbI,oH_mk,mk_fresh,hmk,Int.reduceMul,Int.le_refl,hG,and_assoc]; done))) | ((with_reducible refine CallF_fz (c5) ?_ ?_); (· (intro G hG; simp [hdrD,bI,valsI,intD,boolD,votesI,bbI,oH_mk,mk_fresh,hmk,Int.reduceMul,Int.le_refl] at hG; simp [hdrD,bI,valsI,intD,boolD,votesI,bbI,oH_mk,mk_fresh,hmk,Int.reduceMul,Int.le_refl,hG,and_assoc]; done))))) | ((first | refine Wc_split (fun hg=>?_) (fun hg=>?_) | refine RoG_split (fun hg=>?_) (fun hg=>?_) | refine RdG_split (fun hg=>?_) (fun hg=>?_)) <;> (try simp only [nrm] at hg) <;> (try simp only [hg,lgc,reduceIte,reduceCtorEq] at hR) <;> (try (exfalso; omega))) | ((try simp only [*,lgc,reduceIte,reduceCtorEq] at hR); obtain ⟨rfl⟩:=hR; refine fin_q (rs:=[.cell 6 46,.tmp 7]) rfl ?_; (try simp only [go_sem,Nat.reduceLT,Nat.reduceAdd,Nat.reduceMul,reduceIte,Nat.reduceEqDiff,reduceCtorEq,Nat.reducePow,Nat.reduceLeDiff,Int.reduceLE,Int.reduceLT,Int.reduceToNat,Int.reduceEq,Nat.reduceBEq,hdrD,bI,valsI,intD,boolD,votesI,bbI,oH_mk,mk_fresh,hmk,Int.reduceMul,Int.le_refl]); (simp [hdrD,bI,valsI,intD,boolD,votesI,bbI,oH_mk,mk_fresh,hmk,Int.reduceMul,Int.le_refl]; done))))
 clear hmk c1 c2 c3 c4 c5 b1 b2 b3 b4 b5 hu
 have hz0:List.replicate vals.length [I.s (.bool false),I.s (.int .u64 0),I.s (.int .u64 0)]=(dQ h seeds vals 0 0).map encX:=by
  rw [zb,List.map_replicate]; rfl
 refine cz (ι:=Nat) (fun j=>j<=seeds.length)
  (fun j=>dW [(1,.i (valsI vals)),(3,.pt 100 0 0 0),(6,.pt 101 0 0 0),(10,.pt 104 0 0 0),(43,.i (bbI seeds)),(44,intD seeds.length),(45,intD j)]
   [(100,.box ((encH h).map .i)),(101,.box [.i (.s (.string ⟨#[]⟩)),.i (.s (.int .i64 0)),.i (.s (.int .i64 0)),.i (.s (.slice none 0 0)),.i (.s (.slice none 0 0)),.i (.s (.slice none 0 0)),.i (.s (.slice none 0 0)),.i (.s (.slice none 0 0))]),(102,.arr 2 (vals.map encV)),(103,.arr 3 ((dQ h seeds vals j 0).map encX)),
    (104,.box ((encH h).map .i++[.os 102 2 0 vals.length,.os 103 3 0 vals.length]))]) (fun j=>seeds.length - j) 0 (Nat.zero_le _) ?_ ?_
 ·(refine le_stOf _ _ [] [(100,1000),(101,1001),(102,3307),(103,3310),(104,3312)] ?_ ?_ rfl rfl <;> (simp [Int.natCast_add,Int.natCast_zero,Int.natCast_one,encH,valsI,bbI,hz0]; done))
 ·rintro j hj
  rw [au]
  by_cases h1:j < seeds.length
  ·have e1:(seeds.map fun b=>[bI b])[j]?=some [bI seeds[j]]:=get_lt (f:=fun b=>[bI b]) h1
   have hsm:=hd.b _ (List.getElem_mem h1)
   have c1:=OL seeds[j] (by omega)
   have c2:=rq h hs.c hs.root hs.vals hs.next
   have c3:=VE seeds[j] (cu h) (by omega) (by have:=vw h; omega)
   have hvs:=fun (v:dI)=>FQ (h:=h) (v:=v) h1
   generalize hsd:seeds[j]=sd at *
   (repeat' (first | (simp -implicitDefEqProofs only [go_sem,Nat.reduceLT,Nat.reduceAdd,Nat.reduceMul,reduceIte,Nat.reduceEqDiff,reduceCtorEq,Nat.reducePow,Nat.reduceLeDiff,Int.reduceLE,Int.reduceLT,Int.reduceToNat,Int.reduceEq,Nat.reduceBEq,encH,bI,valsI,intD,boolD,bbI,u64D, *]) | (with_reducible refine ⟨?_,?_⟩; (· first | (obtain ⟨rfl⟩:=‹Hq _ _›; with_reducible refine chk_ok ?_; kernel_rfl) | kernel_rfl)) | (with_reducible intro ops hops) | (simp -implicitDefEqProofs (disch:=omega) only [wr64,wru64,get_lt]) | ((with_reducible refine call_id ?_); (first | ((with_reducible refine Call_fl (c1) ?_ ?_ ?_); (· (simp [encH,bI,valsI,intD,boolD,bbI,u64D]; done)); (· (simp [encH,bI,valsI,intD,boolD,bbI,u64D,and_assoc]; done))))) | ((with_reducible refine callF_id ?_); (first | ((with_reducible refine CallF_fl (c1) ?_ ?_ ?_); (· (simp [encH,bI,valsI,intD,boolD,bbI,u64D]; done)); (· (intro G hG; simp [encH,bI,valsI,intD,boolD,bbI,u64D] at hG; simp [encH,bI,valsI,intD,boolD,bbI,u64D,hG,and_assoc]; done))))) | ((first | refine Wc_split (fun hg=>?_) (fun hg=>?_) | refine RoG_split (fun hg=>?_) (fun hg=>?_) | refine RdG_split (fun hg=>?_) (fun hg=>?_)) <;> (try simp only [nrm] at hg) <;> (try simp only [hg,lgc,reduceIte,reduceCtorEq] at hR) <;> (try (exfalso; omega))) | ((try simp only [*,lgc,reduceIte,reduceCtorEq] at hR); obtain ⟨rfl⟩:=hR; refine fin_q (rs:=[.cell 6 46,.tmp 7]) rfl ?_; (try simp only [go_sem,Nat.reduceLT,Nat.reduceAdd,Nat.reduceMul,reduceIte,Nat.reduceEqDiff,reduceCtorEq,Nat.reducePow,Nat.reduceLeDiff,Int.reduceLE,Int.reduceLT,Int.reduceToNat,Int.reduceEq,Nat.reduceBEq,encH,bI,valsI,intD,boolD,bbI,u64D]); (simp [encH,bI,valsI,intD,boolD,bbI,u64D]; done))))
   refine cz (ι:=Nat) (fun i=>i<=vals.length)
    (fun i=>dW [(1,.i (valsI vals)),(3,.pt 100 0 0 0),(6,.pt 101 0 0 0),(10,.pt 104 0 0 0),(43,.i (bbI seeds)),(44,intD seeds.length),(45,intD j),(12,.i (bI sd)),(13,u64D (keyF sd)),(51,.i (valsI vals)),(52,intD vals.length),(53,intD i)]
     [(100,.box ((encH h).map .i)),(101,.box [.i (.s (.string ⟨#[]⟩)),.i (.s (.int .i64 0)),.i (.s (.int .i64 0)),.i (.s (.slice none 0 0)),.i (.s (.slice none 0 0)),.i (.s (.slice none 0 0)),.i (.s (.slice none 0 0)),.i (.s (.slice none 0 0))]),(102,.arr 2 (vals.map encV)),(103,.arr 3 ((dQ h seeds vals j i).map encX)),
      (104,.box ((encH h).map .i++[.os 102 2 0 vals.length,.os 103 3 0 vals.length]))]) (fun i=>vals.length - i) 0 (Nat.zero_le _) ?_ ?_
   ·(refine le_stOf _ _ [] [(100,100),(101,101),(102,102),(103,103),(104,104)] ?_ ?_ rfl rfl <;> (simp [Int.natCast_add,Int.natCast_zero,Int.natCast_one,encH,valsI,bbI,u64D]; done))
   ·rintro i hi
    rw [au]
    by_cases h2:i < vals.length
    ·have e2:=get_lt (f:=encV) h2
     have hst:=AZ (h:=h) (seeds:=seeds) (j:=j) h2
     have hge:=A_ (h:=h) (seeds:=seeds) (j:=j) h2
     rw [hvs] at hst
     have e3:((dQ h seeds vals j i).map encX)[i]?=some (encX (kE h (seeds.take j) vals[i])):=by rw [List.getElem?_map,hge]; rfl
     have k1:((vals[i].k:Int)=(keyF sd:Int))=(vals[i].k=keyF sd):=propext (by omega)
     generalize vals[i]=v at *
     generalize kE h (seeds.take j) v=x0 at *
     by_cases hk1:v.k=keyF sd
     ·rw [if_pos hk1] at hst
      have hst':((dQ h seeds vals j i).map encX).set i [.s (.bool true),.s (.int .u64 (AB sd (cu h))),.s (.int .u64 (sigS sd (cu h)))]=(dQ h seeds vals j (i+1)).map encX:=by rw [hst,List.map_set]; rfl
      generalize dQ h seeds vals j i=V at *
      clear hst hge hR hs hl hk hd ok hvs c1
      (repeat' (first | (simp -implicitDefEqProofs only [go_sem,Nat.reduceLT,Nat.reduceAdd,Nat.reduceMul,reduceIte,Nat.reduceEqDiff,reduceCtorEq,Nat.reducePow,Nat.reduceLeDiff,Int.reduceLE,Int.reduceLT,Int.reduceToNat,Int.reduceEq,Nat.reduceBEq,encH,bI,valsI,intD,boolD,bbI,u64D,encV,encX,hdrD,sealD, *]) | (with_reducible refine ⟨?_,?_⟩; (· first | (obtain ⟨rfl⟩:=‹Hq _ _›; with_reducible refine chk_ok ?_; kernel_rfl) | kernel_rfl)) | (with_reducible intro ops hops) | (simp -implicitDefEqProofs (disch:=omega) only [wr64,wru64,get_lt]) | ((with_reducible refine call_id ?_); (first | ((with_reducible refine Call_fz (c2) ?_ ?_); (· (simp [encH,bI,valsI,intD,boolD,bbI,u64D,encV,encX,hdrD,sealD,and_assoc]; done))) | ((with_reducible refine Call_fl (c3) ?_ ?_ ?_); (· (simp [encH,bI,valsI,intD,boolD,bbI,u64D,encV,encX,hdrD,sealD]; done)); (· (simp [encH,bI,valsI,intD,boolD,bbI,u64D,encV,encX,hdrD,sealD,and_assoc]; done))))) | ((with_reducible refine callF_id ?_); (first | ((with_reducible refine CallF_fz (c2) ?_ ?_); (· (intro G hG; simp [encH,bI,valsI,intD,boolD,bbI,u64D,encV,encX,hdrD,sealD] at hG; simp [encH,bI,valsI,intD,boolD,bbI,u64D,encV,encX,hdrD,sealD,hG,and_assoc]; done))) | ((with_reducible refine CallF_fl (c3) ?_ ?_ ?_); (· (simp [encH,bI,valsI,intD,boolD,bbI,u64D,encV,encX,hdrD,sealD]; done)); (· (intro G hG; simp [encH,bI,valsI,intD,boolD,bbI,u64D,encV,encX,hdrD,sealD] at hG; simp [encH,bI,valsI,intD,boolD,bbI,u64D,encV,encX,hdrD,sealD,hG,and_assoc]; done))))) | ((first | refine Wc_split (fun hg=>?_) (fun hg=>?_) | refine RoG_split (fun hg=>?_) (fun hg=>?_) | refine RdG_split (fun hg=>?_) (fun hg=>?_)) <;> (try simp only [nrm] at hg) <;> (try simp only [hg,lgc,reduceIte,reduceCtorEq] at hR) <;> (try (exfalso; omega))) | (refine ⟨i+1,h2,?_,?_⟩; (· (refine le_stOf _ _ [] [(100,100),(101,101),(102,102),(103,103),(104,104)] ?_ ?_ rfl rfl <;> (simp [Int.natCast_add,Int.natCast_zero,Int.natCast_one,encH,valsI,bbI,u64D,hst']; done))); (· (simp only; omega))) | ((try simp only [*,lgc,reduceIte,reduceCtorEq] at hR); obtain ⟨rfl⟩:=hR; refine fin_q (rs:=[.cell 6 46,.tmp 7]) rfl ?_; (try simp only [go_sem,Nat.reduceLT,Nat.reduceAdd,Nat.reduceMul,reduceIte,Nat.reduceEqDiff,reduceCtorEq,Nat.reducePow,Nat.reduceLeDiff,Int.reduceLE,Int.reduceLT,Int.reduceToNat,Int.reduceEq,Nat.reduceBEq,encH,bI,valsI,intD,boolD,bbI,u64D,encV,encX,hdrD,sealD]); (simp [encH,bI,valsI,intD,boolD,bbI,u64D,encV,encX,hdrD,sealD]; done))))
     ·rw [if_neg hk1,NP hge] at hst
      clear hge hR hs hl hk hd ok hvs c1 e3 c2 c3
      (repeat' (first | (simp -implicitDefEqProofs only [go_sem,Nat.reduceLT,Nat.reduceAdd,Nat.reduceMul,reduceIte,Nat.reduceEqDiff,reduceCtorEq,Nat.reducePow,Nat.reduceLeDiff,Int.reduceLE,Int.reduceLT,Int.reduceToNat,Int.reduceEq,Nat.reduceBEq,encH,bI,valsI,intD,boolD,bbI,u64D,encV, *]) | (with_reducible refine ⟨?_,?_⟩; (· first | (obtain ⟨rfl⟩:=‹Hq _ _›; with_reducible refine chk_ok ?_; kernel_rfl) | kernel_rfl)) | (with_reducible intro ops hops) | (simp -implicitDefEqProofs (disch:=omega) only [wr64,wru64,get_lt]) | ((first | refine Wc_split (fun hg=>?_) (fun hg=>?_) | refine RoG_split (fun hg=>?_) (fun hg=>?_) | refine RdG_split (fun hg=>?_) (fun hg=>?_)) <;> (try simp only [nrm] at hg) <;> (try simp only [hg,lgc,reduceIte,reduceCtorEq] at hR) <;> (try (exfalso; omega))) | (refine ⟨i+1,h2,?_,?_⟩; (· (refine le_stOf _ _ [] [(100,100),(101,101),(102,102),(103,103),(104,104)] ?_ ?_ rfl rfl <;> (simp [Int.natCast_add,Int.natCast_zero,Int.natCast_one,encH,valsI,bbI,u64D,hst]; done))); (· (simp only; omega))) | ((try simp only [*,lgc,reduceIte,reduceCtorEq] at hR); obtain ⟨rfl⟩:=hR; refine fin_q (rs:=[.cell 6 46,.tmp 7]) rfl ?_; (try simp only [go_sem,Nat.reduceLT,Nat.reduceAdd,Nat.reduceMul,reduceIte,Nat.reduceEqDiff,reduceCtorEq,Nat.reducePow,Nat.reduceLeDiff,Int.reduceLE,Int.reduceLT,Int.reduceToNat,Int.reduceEq,Nat.reduceBEq,encH,bI,valsI,intD,boolD,bbI,u64D,encV]); (simp [encH,bI,valsI,intD,boolD,bbI,u64D,encV]; done))))
    ·obtain rfl:i=vals.length:=by omega
     rw [Ba]
     clear hR hs hl hk hd ok hvs c1 c2 c3
     (repeat' (first | (simp -implicitDefEqProofs only [go_sem,Nat.reduceLT,Nat.reduceAdd,Nat.reduceMul,reduceIte,Nat.reduceEqDiff,reduceCtorEq,Nat.reducePow,Nat.reduceLeDiff,Int.reduceLE,Int.reduceLT,Int.reduceToNat,Int.reduceEq,Nat.reduceBEq,encH,bI,valsI,intD,boolD,bbI,u64D, *]) | (with_reducible refine ⟨?_,?_⟩; (· first | (obtain ⟨rfl⟩:=‹Hq _ _›; with_reducible refine chk_ok ?_; kernel_rfl) | kernel_rfl)) | (with_reducible intro ops hops) | (simp -implicitDefEqProofs (disch:=omega) only [wr64,wru64,get_lt]) | ((first | refine Wc_split (fun hg=>?_) (fun hg=>?_) | refine RoG_split (fun hg=>?_) (fun hg=>?_) | refine RdG_split (fun hg=>?_) (fun hg=>?_)) <;> (try simp only [nrm] at hg) <;> (try simp only [hg,lgc,reduceIte,reduceCtorEq] at hR) <;> (try (exfalso; omega))) | (refine ⟨j+1,h1,?_,?_⟩; (· (refine le_stOf _ _ [] [(100,100),(101,101),(102,102),(103,103),(104,104)] ?_ ?_ rfl rfl <;> (simp [Int.natCast_add,Int.natCast_zero,Int.natCast_one,encH,valsI,bbI,u64D]; done))); (· (simp only; omega))) | ((try simp only [*,lgc,reduceIte,reduceCtorEq] at hR); obtain ⟨rfl⟩:=hR; refine fin_q (rs:=[.cell 6 46,.tmp 7]) rfl ?_; (try simp only [go_sem,Nat.reduceLT,Nat.reduceAdd,Nat.reduceMul,reduceIte,Nat.reduceEqDiff,reduceCtorEq,Nat.reducePow,Nat.reduceLeDiff,Int.reduceLE,Int.reduceLT,Int.reduceToNat,Int.reduceEq,Nat.reduceBEq,encH,bI,valsI,intD,boolD,bbI,u64D]); (simp [encH,bI,valsI,intD,boolD,bbI,u64D]; done))))
  ·obtain rfl:j=seeds.length:=by omega
   rw [Bb]
   clear hs hl hk hd ok
   (repeat' (first | (simp -implicitDefEqProofs only [go_sem,Nat.reduceLT,Nat.reduceAdd,Nat.reduceMul,reduceIte,Nat.reduceEqDiff,reduceCtorEq,Nat.reducePow,Nat.reduceLeDiff,Int.reduceLE,Int.reduceLT,Int.reduceToNat,Int.reduceEq,Nat.reduceBEq,encH,bI,valsI,intD,boolD,bbI,signedD,votesI, *]) | (with_reducible refine ⟨?_,?_⟩; (· first | (obtain ⟨rfl⟩:=‹Hq _ _›; with_reducible refine chk_ok ?_; kernel_rfl) | kernel_rfl)) | (with_reducible intro ops hops) | (simp -implicitDefEqProofs (disch:=omega) only [wr64,wru64,get_lt]) | ((first | refine Wc_split (fun hg=>?_) (fun hg=>?_) | refine RoG_split (fun hg=>?_) (fun hg=>?_) | refine RdG_split (fun hg=>?_) (fun hg=>?_)) <;> (try simp only [nrm] at hg) <;> (try simp only [hg,lgc,reduceIte,reduceCtorEq] at hR) <;> (try (exfalso; omega))) | ((try simp only [*,lgc,reduceIte,reduceCtorEq] at hR); obtain ⟨rfl⟩:=hR; refine fin_q (rs:=[.cell 6 46,.tmp 7]) rfl ?_; (try simp only [go_sem,Nat.reduceLT,Nat.reduceAdd,Nat.reduceMul,reduceIte,Nat.reduceEqDiff,reduceCtorEq,Nat.reducePow,Nat.reduceLeDiff,Int.reduceLE,Int.reduceLT,Int.reduceToNat,Int.reduceEq,Nat.reduceBEq,encH,bI,valsI,intD,boolD,bbI,signedD,votesI]); (simp [encH,bI,valsI,intD,boolD,bbI,signedD,votesI]; done))))
structure UB (u:yV):Prop where
 s:UD u.sg
 l:u.tr.length<=1048576
 k:∀ v∈u.tr,v.k < 18446744073709551616/\v.p < 18446744073709551616
 n:u.sg.hdr.next.length<=1048576
theorem pJ (c:aD) (u:yV) (now:Int) (hc:AP c) (hu:UB u) (hn:0<=now/\now<=1000000000000) :
  PureD Tryz.prog 172 [.rp (fM c) 0,.rp (Yc u) 0,intD now] (intD (beE c u now)):=by
 refine aj fun R hR=>?_
 have c1:=OY u.sg hu.s
 have c2:=Uh c u.fr hc.sm
 unfold beE at hR
 by_cases h1:nY u.sg=0
 ·rw [if_pos h1] at hR
  rw [h1] at c1
  obtain ⟨hv,hl,hw⟩:=check_vals h1
  unfold atR at c2
  cases h2:atC c u.fr with
  | none =>
   rw [h2] at hR c2
   simp only [AQ] at c2
   clear hu h1 h2
   refine aa 127 Tryz.func172 rfl rfl rfl (fun _ _=>rfl) ?_
   exact wkl trivial
  | some k =>
   rw [h2] at hR c2
   simp only at hR c2
   have hk:=hc.k k (at_mem h2).1
   have k1:=hk.h
   have k2:=hk.t
   have w1:IntKind.i64.wrap (now - k.t)=now - k.t:=ay (by omega) (by omega)
   have w2:IntKind.i64.wrap (now+10)=now+10:=ay (by omega) (by omega)
   have w3:IntKind.i64.wrap (k.h+1)=k.h+1:=ay (by omega) (by omega)
   have c3:=fZ u.sg.hdr.vals k.next
   have c4:=Cn u.tr hu.l
   unfold Zc ZG at hR
   by_cases h3:jf u.tr=0
   ·have ho:=jr.1 h3
    rw [h3] at c4
    rw [if_pos h3] at hR
    have c5:=kU u.tr (by have:=ho.len; omega) hu.k
    have c6:=fZ (bX u.tr) k.next
    have c7:=TH u.tr u.sg ho hv hl
    clear hu h1 h2 h3 ho hv hl hw hk
    generalize bX u.tr=X at *
    generalize Og u.tr u.sg=V at *
    refine aa 127 Tryz.func172 rfl rfl rfl (fun _ _=>rfl) ?_
    exact wkl trivial
   ·rw [if_neg h3] at hR
    generalize jf u.tr=W at *
    clear hu h1 h2 hv hl hw hk
    refine aa 127 Tryz.func172 rfl rfl rfl (fun _ _=>rfl) ?_
    exact wkl trivial
 ·rw [if_neg h1] at hR
  generalize nY u.sg=W at *
  clear hu c2
  refine aa 127 Tryz.func172 rfl rfl rfl (fun _ _=>rfl) ?_
  exact wkl trivial
theorem qG:(type_of% @Ty.T3)/\(type_of% @Ty.T4)/\(type_of% @Ty.T5)/\(type_of% @Ty.T38)/\(type_of% @Ty.T40)/\(type_of% @Ty.T95):=⟨@Ty.T3,@Ty.T4,@Ty.T5,@Ty.T38,@Ty.T40,@Ty.T95⟩
theorem Bz {G:Nat->Ob} {o o2 off off2 len len2 cap:Nat} {es es2:List (List I)} (ho:G o=.arr 4 es) (ho2:G o2=.arr 4 es2) (hne:o≠o2) (h1:0 < len) (h2:0 < len2) :
  Qj Tryz.prog 222 [.os o2 4 off2 len2,.oc o 4 off len cap] G (boolD false) G:=by
 intro K0 T K vs hr hrd
 obtain ⟨hs,hg⟩:=hrd
 have e:vs=#[vs.getD 0 undef,vs.getD 1 undef]:=by
  apply Array.ext
  ·simpa using hs
  ·intro i h1 h2
   simp at hs
   have:i=0\/i=1:=by omega
   rcases this with rfl | rfl <;> simp [Array.getD,hs]
 have hrun:=kN (P:=Tryz.prog) (t:=95) (tR:=4) (s:=4) Tryz.underlying95 (dV (by kernel_rfl)) hr (hg 0 _ rfl) (hg 1 _ rfl) ho ho2 hne h1 h2
 rw [e]
 refine ⟨.bool false,K,?_,Ext.refl K,hr,.i (.s _ rfl)⟩
 rw [run_callFunc_extern Tryz.func222 (by kernel_rfl) (by kernel_rfl) (by kernel_rfl) (e:=Extern.SlicesOverlaps.overlaps #[95,95] #[4]) (by kernel_rfl),hrun]
 rfl
theorem JS (es:List (List I)) (p:List I) (i:Nat) (hi:i<=es.length) (hl:es.length<=1048576) (hu:∀ e∈es,e.length=4) (hp:p.length=4) :
  aN Tryz.prog 175 [.os 0 4 0 es.length,intD i,.os 2 4 0 1] (hF [(0,.arr 4 es),(2,.arr 4 [p])]) (.os 1 4 0 (es.length+1))
   (hOf (hF [(0,.arr 4 es),(2,.arr 4 [p])]) [(1,.arr 4 (es.take i++p :: es.drop i))]):=by
 have hu2:=uN hu
 by_cases hin:i=es.length
 ·subst hin
  have e3:es.length+1<=140737488355328:=by omega
  have e4:(es.length+1) * 64<=140737488355328:=by omega
  refine aa 95 Tryz.func175 rfl rfl rfl (fun o ho=>by simp [hF,lk,show o≠0 by omega,show o≠1 by omega,show o≠2 by omega,show o≠3 by omega,show o≠4 by omega,show o≠5 by omega]) ?_
  refine gx (an (an (an (an (an (an (an qG @intD.eq_1) e3) e4) @hp) hu2) @Int.le_refl) @Nat.sub_self) ?_
  refine cK [(1,.arr 4 (es++[p]))] [] [(1,2794)] rfl ?_ ?_ rfl ?_ rfl
  ·simp [cv,cv1,cv0,upd,ib,hF,lk]
  ·simp [cO,ib,lk,cvO,frz,upd,hF]
  ·simp [hF,lk]
 ·have hlt:i < es.length:=by omega
  refine sH (by omega) fun c hc=>?_
  have g1:decide ((i:Int)=(es.length:Int))=false:=decide_eq_false (by omega)
  have w1:IntKind.i64.wrap ((es.length:Int)+1)=((es.length+1:Nat):Int):=by rw [ay (by omega) (by omega)]; omega
  have w2:IntKind.i64.wrap ((i:Int)+1)=((i+1:Nat):Int):=by rw [ay (by omega) (by omega)]; omega
  have l1:(i<=es.length)=True:=eq_true (by omega)
  have l2:(es.length<=c)=True:=eq_true (by omega)
  have l3:(i<=es.length+1)=True:=eq_true (by omega)
  have l6:(i<=c)=True:=eq_true (by omega)
  have l4:(i+1<=es.length+1)=True:=eq_true (by omega)
  have m2:i+(es.length - i)=es.length:=by omega
  have m4:min 1 (es.length+1 - i)=1:=by omega
  have l7:(es.length - i<=es.length+1 - i)=True:=eq_true (by omega)
  have l8:(i+1<=es.length)=True:=eq_true (by omega)
  have tk:(es.drop i).take (es.length - i)=es.drop i:=List.take_of_length_le (by simp)
  have hu3:uni 4 (es.drop i)=true:=uN fun e he=>hu e (List.mem_of_mem_drop he)
  by_cases hroom:es.length+1<=c
  ·have g2:decide ((c:Int) < ((es.length+1:Nat):Int))=false:=decide_eq_false (by omega)
   have l5:(es.length+1<=c)=True:=eq_true (by omega)
   have m1:min (es.length+1 - i) (es.length+1 - (i+1))=es.length - i:=by omega
   have l9:(i<=(over es (i+1) (es.drop i)).length)=True:=eq_true (by unfold over; simp; omega)
   have hos:=tu (p:=p) hlt
   refine aa 95 Tryz.func175 rfl rfl rfl (fun o ho=>by simp [hF,lk,show o≠0 by omega,show o≠1 by omega,show o≠2 by omega,show o≠3 by omega,show o≠4 by omega,show o≠5 by omega]) ?_
   (repeat (first | (simp -implicitDefEqProofs only [ev,mixed,Nat.reduceLT,Nat.reduceAdd,Nat.reduceMul,reduceIte,Nat.reduceEqDiff,reduceCtorEq,Nat.reducePow,Nat.reduceLeDiff,Int.reduceLE,Int.reduceLT,Int.reduceToNat,Int.reduceEq,Nat.reduceBEq,ek,gdA,af,ic,kQ,ixQ,ldH,aC,ak,bG,faQ,exQ,lQ,dR,bS,slQ,stH,lW,lY,aO,bi,ae,D.one,jY,dM,eB,cvH,qG,intD,slX,Fh,zR,g1,g2,w1,w2,l1,l2,l3,l4,l5,true_or,Nat.sub_zero,Nat.zero_le,l6,hp,hu2]) | (with_reducible refine ⟨?_,?_⟩; (· first | (obtain ⟨rfl⟩:=‹Hq _ _›; with_reducible refine chk_ok ?_; kernel_rfl) | kernel_rfl)) | (with_reducible intro ops hops)))
   refine ⟨_,_,.inr (Bz (len:=es.length+1 - (i+1)) (len2:=1) (by simp [hF,lk]; rfl) (by simp [hF,lk]; rfl) (by decide) (by omega) (by omega)),?_⟩
   (repeat (first | (simp -implicitDefEqProofs only [ev,mixed,Nat.reduceLT,Nat.reduceAdd,Nat.reduceMul,reduceIte,Nat.reduceEqDiff,reduceCtorEq,Nat.reducePow,Nat.reduceLeDiff,Int.reduceLE,Int.reduceLT,Int.reduceToNat,Int.reduceEq,Nat.reduceBEq,ek,gdA,af,ic,kQ,ixQ,ldH,aC,ak,bG,faQ,exQ,lQ,dR,bS,slQ,stH,lW,lY,aO,bi,ae,D.one,jY,dM,eB,cvH,qG,boolD,intD,slX,Fh,zR,cpX,AO,AL,qL,w1,w2,l1,l2,l3,l4,l5,true_or,Nat.sub_zero,Nat.zero_le,l6,hp,hu2,m1,m2,m4,l7,l8,l9,tk,hu3]) | (with_reducible refine ⟨?_,?_⟩; (· first | (obtain ⟨rfl⟩:=‹Hq _ _›; with_reducible refine chk_ok ?_; kernel_rfl) | kernel_rfl)) | (with_reducible intro ops hops)))
   have hos2:(over (over es (i+1) (es.drop i)) i [p]).take (es.length+1)=es.take i++p :: es.drop i:=by rw [hos]; exact List.take_of_length_le (by simp; omega)
   rw [<- hos2]
   exact Ac (o:=0) (cap:=c) rfl (by simp [upd]) (by simp [upd,hF,lk]) (by simp [upd,hF,lk]) (by simp [hF,lk]) (by simp [hF,lk])
  ·have g2:decide ((c:Int) < ((es.length+1:Nat):Int))=true:=decide_eq_true (by omega)
   have l5:(c < es.length+1)=True:=eq_true (by omega)
   have s1:i+(es.length+1 - i)=es.length+1:=by omega
   have e3:es.length+1<=140737488355328:=by omega
   have e4:(es.length+1) * 64<=140737488355328:=by omega
   have m1:min (es.length - i) (es.length+1 - (i+1))=es.length - i:=by omega
   have L1:((i:Int)<=((es.length+1:Nat):Int))=True:=eq_true (by omega)
   have L2:(((i+1:Nat):Int)<=((es.length+1:Nat):Int))=True:=eq_true (by omega)
   have hti:(es.take i).length=i:=by simp; omega
   have l9:(i+1<=(over (es.take i++List.replicate (es.length+1 - i) [I.s (.int .i64 0),I.s (.int .i64 0),I.sl [],I.sl []]) i [p]).length)=True:=eq_true (by rw [wR (by simp; omega)]; simp; omega)
   have hos:=xJ (es:=es) (R:=List.replicate (es.length+1 - i) [I.s (.int .i64 0),I.s (.int .i64 0),I.sl [],I.sl []]) (p:=p) hlt (by simp)
   have w3:IntKind.i64.wrap (((es.length+1:Nat):Int) - (i:Int))=((es.length+1 - i:Nat):Int):=by rw [ay (by omega) (by omega)]; omega
   refine aa 95 Tryz.func175 rfl rfl rfl (fun o ho=>by simp [hF,lk,show o≠0 by omega,show o≠1 by omega,show o≠2 by omega,show o≠3 by omega,show o≠4 by omega,show o≠5 by omega]) ?_
   (repeat (first | (simp -implicitDefEqProofs only [ev,mixed,Nat.reduceLT,Nat.reduceAdd,Nat.reduceMul,reduceIte,Nat.reduceEqDiff,reduceCtorEq,Nat.reducePow,Nat.reduceLeDiff,Int.reduceLE,Int.reduceLT,Int.reduceToNat,Int.reduceEq,Nat.reduceBEq,ek,gdA,af,ic,kQ,ixQ,ldH,aC,ak,bG,faQ,exQ,lQ,dR,bS,slQ,stH,lW,lY,aO,bi,ae,D.one,jY,dM,eB,cvH,qG,intD,slX,Fh,zR,apX,cpX,AO,AL,qL,g1,g2,w1,w2,w3,l1,l2,l3,l4,l5,true_or,Nat.sub_zero,Nat.zero_le,l6,hp,hu2,s1,e3,e4,L1,L2,m4,m1,m2,hti,l7,l8,l9,tk,hu3]) | (with_reducible refine ⟨?_,?_⟩; (· first | (obtain ⟨rfl⟩:=‹Hq _ _›; with_reducible refine chk_ok ?_; kernel_rfl) | kernel_rfl)) | (with_reducible intro ops hops)))
   refine cK [(1,.arr 4 (es.take i++p :: es.drop i))] [] [(1,3312)] rfl ?_ ?_ rfl ?_ rfl
   ·simp [cv,cv1,cv0,upd,ib,hF,lk]
   ·simp [cO,ib,lk,cvO,frz,upd,hF,hos]
   ·simp [hF,lk]
theorem Lr (k:aP) (h:Int) (hk:Rh k) (hh:1<=h/\h<=1000000000000):PureD Tryz.prog 174 [zS k,intD h] (intD (k.h - h)):=by
 refine aj fun R hR=>?_
 have k1:=hk.h
 have w1:IntKind.i64.wrap (k.h - h)=k.h - h:=ay (by omega) (by omega)
 refine aa 9 Tryz.func174 rfl rfl rfl (fun _ _=>rfl) ?_
 exact wkl trivial
theorem KR (l:List aP) (h:Int) (p:Nat) (hl:l.length<=1048576) (hp:p<=l.length) (hk:∀ k∈l,Rh k) (hh:1<=h/\h<=1000000000000) (hm:∀ a (ha:a < l.length),l[a].h < h↔a < p) :
  PureD Tryz.prog 173 [.i (jF l),intD h,.fn 174 []]
   (.tup [intD p,boolD (if ha:p < l.length then decide (l[p].h=h) else false)]):=by
 refine aj fun R hR=>?_
 refine aa 49 Tryz.func173 rfl rfl rfl (fun _ _=>rfl) ?_
 refine wkl ?_
 clear hR; intro hR
 refine aT (ι:=Nat × Nat) (fun q=>q.1<=p/\p<=q.2/\q.2<=l.length)
  (fun q=>dW [(0,.i (jF l)),(1,intD h),(2,.fn 174 []),(8,intD l.length),(9,intD q.1),(10,intD q.2)] []) (fun q=>q.2 - q.1) (0,l.length) ⟨Nat.zero_le _,hp,Nat.le_refl _⟩ ?_ ?_
 ·exact dF [] []
 ·rintro ⟨i,j⟩ ⟨h1,h2,h3⟩ RL hL
  simp only at h1 h2 h3
  rw [au]
  by_cases hij:i < j
  ·have hml:(i+j) / 2 < l.length:=by omega
   have s0:=get_lt (f:=iQ) hml
   have hmm:=hm _ hml
   have c1:=Lr _ h (hk _ (List.getElem_mem hml)) hh
   have w1:IntKind.i64.wrap ((i:Int)+(j:Int))=((i+j:Nat):Int):=by rw [ay (by omega) (by omega)]; omega
   have w2:IntKind.u64.wrap ((i+j:Nat):Int)=((i+j:Nat):Int):=by rw [IntKind.wrap_u64]; omega
   have w3:((i+j:Nat):Int).fdiv (2 ^ min 1 64)=(((i+j) / 2:Nat):Int):=by
    rw [show min 1 64=1 from rfl,Int.fdiv_eq_ediv_of_nonneg _ (by decide)]; omega
   have w4:IntKind.i64.wrap (((i+j) / 2:Nat):Int)=(((i+j) / 2:Nat):Int):=by rw [ay (by omega) (by omega)]
   have hmid1:i<=(i+j) / 2:=by omega
   have hmid2:(i+j) / 2 < j:=by omega
   generalize l[(i+j) / 2]=q at *
   by_cases hq:q.h < h
   ·have b1:=fun σ'=>bk [] [] (hL ((i+j) / 2+1,j) σ' ⟨hmm.1 hq,h2,h3⟩)
    clear hL
    simp only at b1
    generalize (i+j) / 2=m at *
    have hq':q.h - h < 0:=by omega
    clear hm hmm hk hR
    exact wkl trivial
   ·have b1:=fun σ'=>bk [] [] (hL (i,(i+j) / 2) σ' ⟨h1,by have:=fun e=>hq (hmm.2 e); omega,by omega⟩)
    clear hL
    simp only at b1
    generalize (i+j) / 2=m at *
    have hq':¬ q.h - h < 0:=by omega
    clear hm hmm hk hR
    exact wkl trivial
  ·have hi:i=p:=by omega
   subst hi
   clear hL hm
   by_cases hlt:i < l.length
   ·have s0:=get_lt (f:=iQ) hlt
    have c1:=Lr _ h (hk _ (List.getElem_mem hlt)) hh
    rw [dif_pos hlt] at hR
    clear hk
    generalize l[i]=q at *
    have he:decide (q.h - h=0)=decide (q.h=h):=decide_eq_decide.2 (by omega)
    exact wkl trivial
   ·rw [dif_neg hlt] at hR
    clear hk
    exact wkl trivial
theorem Xz (c:aD) (hc:Vk c):aN Tryz.prog 170 [dS c] noH (.agg [.i (.s (.string c.c)),.i (.s (.int .i64 c.trust)),.i (.s (.bool c.frozen)),.os 1 4 0 c.known.length]) (hOf noH [(1,.arr 4 (c.known.map iQ))]):=by
 refine iN fun R R' hR hR'=>?_
 have hcl:=hc.l
 have e1:=yH c.known hcl
 refine aa 35 Tryz.func170 rfl rfl rfl (fun _ _=>rfl) ?_
 refine wkl ?_
 clear hR; intro hR
 refine aT (ι:=Nat) (fun i=>i<=c.known.length)
  (fun i=>dW [(1,.pt 100 0 0 0),(2,.pt 101 0 0 0),(10,.os 102 4 0 c.known.length),(11,intD c.known.length),(12,intD i)] [(100,.box [.i (.s (.string c.c)),.i (.s (.int .i64 c.trust)),.i (.s (.bool c.frozen)),.os 102 4 0 c.known.length]),(101,.box ((fM jo).map .i)),(102,.arr 4 (c.known.map iQ))])
  (fun i=>c.known.length - i) 0 (Nat.zero_le _) ?_ ?_
 ·exact dF [] [(100,1000),(101,1001),(102,901)]
 ·rintro i hi RL hL
  rw [au]
  by_cases h:i < c.known.length
  ·have s0:=get_lt (f:=iQ) h
   have s1:=oI (f:=iQ) h
   have hk:=hc.k _ (List.getElem_mem h)
   have c1:=dN c.known[i].root (by have:=hk.r; omega)
   have c2:=dN c.known[i].next (by have:=hk.n; omega)
   have b1:=fun σ'=>bk [] [(100,100),(101,101),(102,102)] (hL (i+1) σ' h)
   clear hL e1 hk
   generalize c.known[i]=k at *
   simp only [iQ,bI] at s0 s1
   exact wkl trivial
  ·have d1:iV [] [(1,102)]:=⟨trivial⟩
   obtain ⟨rfl⟩:=hR'
   exact wkl trivial
theorem uK (l:List aP):∀ e∈l.map iQ,e.length=4:=by simp [iQ]
theorem XN {l:List aP} {p:Nat} {k:aP}:(Ye l p k=true)=((0 < p/\∃ h:p - 1 < l.length,k.t<=l[p - 1].t)\/∃ h:p < l.length,l[p].t<=k.t):=by
 unfold Ye
 by_cases h1:p - 1 < l.length <;> by_cases h2:p < l.length <;> simp [h1,h2]
theorem Ll (c:aD) (u:yV) (now:Int) (hl:c.known.length<=1048576) (hu:UB u) :
  PureD Tryz.prog 117 [dS c,XY u,intD now] (.tup [dS (g_ c u now).1,intD (g_ c u now).2]):=by
 refine aj fun R hR=>?_
 have c1:=ry c now hl
 unfold g_ at hR
 by_cases h1:fD c now=0
 ·obtain ⟨ok,hn,hfz⟩:=asked_zero.1 h1
  have c2:=pJ c u now ok hu hn
  rw [if_pos h1] at hR
  rw [h1] at c1
  by_cases h2:beE c u now=0
  ·rw [if_pos h2] at hR
   rw [h2] at c2
   obtain ⟨hk,hv⟩:=be_hdr h2
   have e1:=Xz c ok.sm
   have k1:=hk.r
   have k2:=hk.n
   have c3:=dN u.sg.hdr.root (by simp only [ofH] at k1; omega)
   have c4:=dN u.sg.hdr.next (by simp only [ofH] at k2; omega)
   have c5:=KR c.known u.sg.hdr.h (jm c.known u.sg.hdr.h) hl (QJ _ _) ok.k hk.h (oV ok.rise)
   have hlen:=ok.len
   have hle:=QJ c.known u.sg.hdr.h
   unfold AJ at hR
   rcases low_case u.sg.hdr.h ok.rise with ⟨hp,hk0,hat⟩ | ⟨hno,hat⟩
   ·rw [dif_pos hp,decide_eq_true hk0] at c5
    simp only [ofH,hat] at hR
    have s0:=get_lt (f:=iQ) hp
    clear hu h1 h2 hk hv k1 k2 hk0 hat ok hle
    generalize c.known[jm c.known u.sg.hdr.h]=o at *
    generalize jm c.known u.sg.hdr.h=p at *
    have c6:=fZ o.root u.sg.hdr.root
    have c7:=fZ o.next u.sg.hdr.next
    unfold XZ at hR
    by_cases a1:o.t=u.sg.hdr.t <;> by_cases a2:o.root=u.sg.hdr.root <;> by_cases a3:o.next=u.sg.hdr.next <;> simp [a1,a2,a3] at hR c6 c7
    all_goals
     refine aa 131 Tryz.func117 rfl rfl rfl (fun _ _=>rfl) ?_
     exact wkl trivial
   ·have c5':PureD Tryz.prog 173 [.i (jF c.known),intD u.sg.hdr.h,.fn 174 []] (.tup [intD (jm c.known u.sg.hdr.h),boolD false]):=by
     have e:(if ha:jm c.known u.sg.hdr.h < c.known.length then decide (c.known[jm c.known u.sg.hdr.h].h=u.sg.hdr.h) else false)=false:=by
      split
      ·rename_i ha; exact decide_eq_false (hno ha)
      ·rfl
     rw [e] at c5; exact c5
    clear c5
    have c5:=c5'
    clear c5'
    simp only [ofH,hat] at hR
    have hbad:=@XN c.known (jm c.known u.sg.hdr.h) ⟨u.sg.hdr.h,u.sg.hdr.t,u.sg.hdr.root,u.sg.hdr.next⟩
    simp only [hbad] at hR
    have e2:=JS (c.known.map iQ) (iQ ⟨u.sg.hdr.h,u.sg.hdr.t,u.sg.hdr.root,u.sg.hdr.next⟩) (jm c.known u.sg.hdr.h) (by simpa using hle) (by simpa using hl) (uK c.known) rfl
    rw [<- List.map_take,<- List.map_drop,<- List.map_cons,<- List.map_append,List.length_map] at e2
    have hne:∃ a L,c.known.take (jm c.known u.sg.hdr.h)++(⟨u.sg.hdr.h,u.sg.hdr.t,u.sg.hdr.root,u.sg.hdr.next⟩:aP) :: c.known.drop (jm c.known u.sg.hdr.h)=a :: L/\L.length=c.known.length:=by
     have hll:(c.known.take (jm c.known u.sg.hdr.h)++(⟨u.sg.hdr.h,u.sg.hdr.t,u.sg.hdr.root,u.sg.hdr.next⟩:aP) :: c.known.drop (jm c.known u.sg.hdr.h)).length=c.known.length+1:=by simp; omega
     revert hll
     cases c.known.take (jm c.known u.sg.hdr.h)++(⟨u.sg.hdr.h,u.sg.hdr.t,u.sg.hdr.root,u.sg.hdr.next⟩:aP) :: c.known.drop (jm c.known u.sg.hdr.h) with
     | nil=>intro h; simp at h
     | cons a L=>intro h; exact ⟨a,L,rfl,by simpa using h⟩
    obtain ⟨a,L,hL,hLl⟩:=hne
    rw [hL] at e2 hR
    have s0:=fun h=>get_lt (f:=iQ) (l:=c.known) (i:=jm c.known u.sg.hdr.h - 1) h
    have s1:=fun h=>get_lt (f:=iQ) (l:=c.known) (i:=jm c.known u.sg.hdr.h) h
    clear hu h1 h2 hk hv k1 k2 hat ok hno hL hbad
    generalize jm c.known u.sg.hdr.h=p at *
    have hcut:Nj (a :: L)=if (30:Int) < ((c.known.length+1:Nat):Int) then L else a :: L:=by
     unfold Nj; rw [List.length_cons,hLl]; rfl
    rw [hcut] at hR
    simp only [iQ,bI,intD] at e2
    have z1:(a :: L).map iQ=iQ a :: L.map iQ:=rfl
    clear hcut
    have z2:(L.map iQ).take c.known.length=L.map iQ:=by rw [<- hLl]; exact eO
    by_cases q1:0 < p <;> by_cases q2:p < c.known.length
    ·have a0:=s0 (by omega)
     have a1:=s1 q2
     have hc:((0 < p/\∃ h:p - 1 < c.known.length,u.sg.hdr.t<=c.known[p - 1].t)\/∃ h:p < c.known.length,c.known[p].t<=u.sg.hdr.t)=(u.sg.hdr.t<=c.known[p - 1].t\/c.known[p].t<=u.sg.hdr.t):=by simp [q1,q2,show p - 1 < c.known.length by omega]
     simp only [hc] at hR
     have w1:IntKind.i64.wrap ((p:Int) - 1)=((p - 1:Nat):Int):=by rw [ay (by omega) (by omega)]; omega
     clear hc s0 s1
     generalize c.known[p - 1]=x at *
     generalize c.known[p]=y at *
     refine aa 131 Tryz.func117 rfl rfl rfl (fun _ _=>rfl) ?_
     exact wkl trivial
    ·have a0:=s0 (by omega)
     have hc:((0 < p/\∃ h:p - 1 < c.known.length,u.sg.hdr.t<=c.known[p - 1].t)\/∃ h:p < c.known.length,c.known[p].t<=u.sg.hdr.t)=(u.sg.hdr.t<=c.known[p - 1].t):=by simp [q1,q2,show p - 1 < c.known.length by omega]
     simp only [hc] at hR
     have w1:IntKind.i64.wrap ((p:Int) - 1)=((p - 1:Nat):Int):=by rw [ay (by omega) (by omega)]; omega
     clear hc s0 s1
     generalize c.known[p - 1]=x at *
     refine aa 131 Tryz.func117 rfl rfl rfl (fun _ _=>rfl) ?_
     exact wkl trivial
    ·have a1:=s1 q2
     have hc:((0 < p/\∃ h:p - 1 < c.known.length,u.sg.hdr.t<=c.known[p - 1].t)\/∃ h:p < c.known.length,c.known[p].t<=u.sg.hdr.t)=(c.known[p].t<=u.sg.hdr.t):=by simp [q1,q2]
     simp only [hc] at hR
     clear hc s0 s1
     generalize c.known[p]=y at *
     obtain rfl:p=0:=by omega
     refine aa 131 Tryz.func117 rfl rfl rfl (fun _ _=>rfl) ?_
     exact wkl trivial
    ·omega
  ·rw [if_neg h2] at hR
   generalize beE c u now=W at *
   clear hu ok hn hfz h1
   refine aa 131 Tryz.func117 rfl rfl rfl (fun _ _=>rfl) ?_
   exact wkl trivial
 ·rw [if_neg h1] at hR
  generalize fD c now=W at *
  clear hu
  refine aa 131 Tryz.func117 rfl rfl rfl (fun _ _=>rfl) ?_
  exact wkl trivial
def Ui (V W:Int) (E:aD × Int):Nat->aD × Int
 | 0=>if V=0 then (if W=0 then E else (jo,W)) else (jo,V)
 | 1=>if W=0 then E else (jo,W)
 | _=>E
theorem PP (c:aD) (a b:yV) (now:Int) (hl:c.known.length<=1048576) (ha:UB a) (hb:UB b) :
  PureD Tryz.prog 118 [dS c,XY a,XY b,intD now] (.tup [dS (mF c a b now).1,intD (mF c a b now).2]):=by
 refine aj fun R hR=>?_
 have c1:=ry c now hl
 have r1:=XK (P:=Tryz.prog) (t:=278) (e:=274) (by kernel_rfl) (by kernel_rfl) (by kernel_rfl)
 unfold mF at hR
 by_cases h1:fD c now=0
 ·obtain ⟨ok,hn,hfz⟩:=asked_zero.1 h1
  have c2:=pJ c a now ok ha hn
  have c3:=pJ c b now ok hb hn
  rw [if_pos h1] at hR
  rw [h1] at c1
  have c4:=rq a.sg.hdr ha.s.h.c ha.s.h.root ha.s.h.vals ha.s.h.next
  have c5:=rq b.sg.hdr hb.s.h.c hb.s.h.root hb.s.h.vals hb.s.h.next
  have c6:=fZ (cu a.sg.hdr) (cu b.sg.hdr)
  have c7:=KU c ok.sm
  clear ha hb ok hfz h1 hl
  generalize cu a.sg.hdr=X at *
  generalize cu b.sg.hdr=Y at *
  generalize beE c a now=V at *
  generalize beE c b now=W at *
  refine aa 60 Tryz.func118 rfl rfl rfl (fun _ _=>rfl) ?_
  refine wkl ?_
  clear hR; intro hR
  have hR':Hr (.tup [dS (Ui V W (if a.sg.hdr.h=b.sg.hdr.h/\¬ X=Y then ({ c with frozen:=true },0) else (jo,8)) 0).1,intD (Ui V W (if a.sg.hdr.h=b.sg.hdr.h/\¬ X=Y then ({ c with frozen:=true },0) else (jo,8)) 0).2]) R:=hR
  clear hR
  refine aT (ι:=Nat) (fun i=>i<=2/\Hr (.tup [dS (Ui V W (if a.sg.hdr.h=b.sg.hdr.h/\¬ X=Y then ({ c with frozen:=true },0) else (jo,8)) i).1,intD (Ui V W (if a.sg.hdr.h=b.sg.hdr.h/\¬ X=Y then ({ c with frozen:=true },0) else (jo,8)) i).2]) R)
   (fun i=>dW [(3,intD now),(4,.pt 100 0 0 0),(5,.pt 101 0 0 0),(6,.pt 102 0 0 0),(8,.pt 103 0 0 0),(23,.bs 104 0 2),(24,intD 2),(25,intD i)]
    [(100,.box ((fM c).map .i)),(101,.box ((Yc a).map .i)),(102,.box ((Yc b).map .i)),(103,.box ((fM jo).map .i)),(104,.box [.pt 101 0 0 0,.pt 102 0 0 0])]) (fun i=>2 - i) 0 ⟨Nat.zero_le _,hR'⟩ ?_ ?_
  ·exact dF [] [(100,1000),(101,1001),(102,1002),(103,1003),(104,2024)]
  ·rintro i ⟨hi,hR⟩ RL hL
   clear hR'
   rw [au]
   have b1:=fun σ' (h:i+1<=2) hq=>bk [] [(100,100),(101,101),(102,102),(103,103),(104,104)] (hL (i+1) σ' ⟨h,hq⟩)
   clear hL
   match i,hi with
   | 0,_ =>
    have b1:=fun σ' (hq:Hr _ R)=>b1 σ' (by omega) hq
    simp only [Ui] at hR b1
    exact wkl trivial
   | 1,_ =>
    have b1:=fun σ' (hq:Hr _ R)=>b1 σ' (by omega) hq
    simp only [Ui] at hR b1
    exact wkl trivial
   | 2,_ =>
    clear b1
    simp only [Ui] at hR
    by_cases hx:X=Y
    ·rw [decide_eq_true hx] at c6
     simp only [hx,not_true,and_false,if_false] at hR
     exact wkl trivial
    ·rw [decide_eq_false hx] at c6
     simp only [hx,not_false_eq_true,and_true] at hR
     exact wkl trivial
 ·rw [if_neg h1] at hR
  generalize fD c now=W at *
  clear ha hb
  refine aa 60 Tryz.func118 rfl rfl rfl (fun _ _=>rfl) ?_
  exact wkl trivial
end Go.Proofs.YtkbbipgjmoanhaaGreatDoor
