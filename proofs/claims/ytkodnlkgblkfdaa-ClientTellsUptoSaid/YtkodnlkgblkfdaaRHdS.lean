/- landref6.SameHeader: by value. (hdrD) -/
import Derived.Test.YtkodnlkgblkfdaaHdC
import Derived.Test.YtkodnlkgblkfdaaGProof
set_option linter.all false
namespace Go.Proofs.Ytkodnlkgblkfdaa
open Go Go.Abs Go.RowKit Go.Proofs.Ytkodnlkgblkfdaa.Ty
def sameH (a b:HdrD):Bool:=decide (a.c=b.c∧a.h=b.h∧a.t=b.t∧a.root=b.root∧a.vals=b.vals∧a.next=b.next)
theorem sameH_iff {a b:HdrD}:sameH a b=true↔a=b:=by
 unfold sameH
 rw [decide_eq_true_eq]
 constructor
 ·rintro ⟨h1,h2,h3,h4,h5,h6⟩
  cases a; cases b; simp_all
 ·rintro rfl; simp
set_option maxHeartbeats 4000000
theorem rsameH_A (a b:HdrD) (ha:HdrSm a):PureD Try.prog 35 [hdrD a,hdrD b] (boolD (sameH a b)):=by
 refine hide_r fun R hR=>?_
 have c1:=same_A a.root b.root (by have:=ha.root; omega)
 have c2:=same_A a.vals b.vals (by have:=ha.vals; omega)
 have c3:=same_A a.next b.next (by have:=ha.next; omega)
 unfold sameH at hR
 have k:=beqS' a.c b.c
 by_cases hc:a.c=b.c
 ·have k1:(a.c == b.c)=true:=k.mpr hc
  simp only [hc,true_and] at hR
  clear hc k
  refine callD_W 45 Try.func35 rfl rfl rfl (fun _ _=>rfl) ?_
  (repeat' (first | (simp -implicitDefEqProofs only [go_sem,Nat.reduceLT,Nat.reduceAdd,Nat.reduceMul,reduceIte,Nat.reduceEqDiff,reduceCtorEq,Nat.reducePow,Nat.reduceLeDiff,Int.reduceLE,Int.reduceLT,Int.reduceToNat,Int.reduceEq,Nat.reduceBEq,hdrD, *]) | (with_reducible refine ⟨?_,?_⟩; (· first | (obtain ⟨rfl⟩:=‹Hq _ _›; with_reducible refine chk_ok ?_; kernel_rfl) | kernel_rfl)) | (with_reducible intro ops hops) | (simp -implicitDefEqProofs (disch:=omega) only [wr64,wru64,get_lt]) | ((with_reducible refine call_id ?_); (first | ((with_reducible refine Call_fl (c1) ?_ ?_ ?_); (· (simp [hdrD]; done)); (· (simp [hdrD,and_assoc]; done))) | ((with_reducible refine Call_fl (c2) ?_ ?_ ?_); (· (simp [hdrD]; done)); (· (simp [hdrD,and_assoc]; done))) | ((with_reducible refine Call_fl (c3) ?_ ?_ ?_); (· (simp [hdrD]; done)); (· (simp [hdrD,and_assoc]; done))))) | ((with_reducible refine callF_id ?_); (first | ((with_reducible refine CallF_fl (c1) ?_ ?_ ?_); (· (simp [hdrD]; done)); (· (intro G hG; simp [hdrD] at hG; simp [hdrD,hG,and_assoc]; done))) | ((with_reducible refine CallF_fl (c2) ?_ ?_ ?_); (· (simp [hdrD]; done)); (· (intro G hG; simp [hdrD] at hG; simp [hdrD,hG,and_assoc]; done))) | ((with_reducible refine CallF_fl (c3) ?_ ?_ ?_); (· (simp [hdrD]; done)); (· (intro G hG; simp [hdrD] at hG; simp [hdrD,hG,and_assoc]; done))))) | ((first | refine Wc_split (fun hg=>?_) (fun hg=>?_) | refine RoG_split (fun hg=>?_) (fun hg=>?_) | refine RdG_split (fun hg=>?_) (fun hg=>?_)) <;> (try simp only [nrm] at hg) <;> (try simp only [hg,lgc,reduceIte,reduceCtorEq] at hR) <;> (try (exfalso; omega))) | ((try simp only [*,lgc,reduceIte,reduceCtorEq] at hR); obtain ⟨rfl⟩:=hR; refine fin_q (rs:=[.tmp 4]) rfl ?_; (try simp only [go_sem,Nat.reduceLT,Nat.reduceAdd,Nat.reduceMul,reduceIte,Nat.reduceEqDiff,reduceCtorEq,Nat.reducePow,Nat.reduceLeDiff,Int.reduceLE,Int.reduceLT,Int.reduceToNat,Int.reduceEq,Nat.reduceBEq,hdrD]); (simp [hdrD]; done))))
 ·have k1:(a.c == b.c)=false:=by rw [beqS'']; exact hc
  simp only [hc,false_and,decide_false] at hR
  clear hc k
  refine callD_W 45 Try.func35 rfl rfl rfl (fun _ _=>rfl) ?_
  (repeat' (first | (simp -implicitDefEqProofs only [go_sem,Nat.reduceLT,Nat.reduceAdd,Nat.reduceMul,reduceIte,Nat.reduceEqDiff,reduceCtorEq,Nat.reducePow,Nat.reduceLeDiff,Int.reduceLE,Int.reduceLT,Int.reduceToNat,Int.reduceEq,Nat.reduceBEq,hdrD, *]) | (with_reducible refine ⟨?_,?_⟩; (· first | (obtain ⟨rfl⟩:=‹Hq _ _›; with_reducible refine chk_ok ?_; kernel_rfl) | kernel_rfl)) | (with_reducible intro ops hops) | (simp -implicitDefEqProofs (disch:=omega) only [wr64,wru64,get_lt]) | ((with_reducible refine call_id ?_); (first | ((with_reducible refine Call_fl (c1) ?_ ?_ ?_); (· (simp [hdrD]; done)); (· (simp [hdrD,and_assoc]; done))) | ((with_reducible refine Call_fl (c2) ?_ ?_ ?_); (· (simp [hdrD]; done)); (· (simp [hdrD,and_assoc]; done))) | ((with_reducible refine Call_fl (c3) ?_ ?_ ?_); (· (simp [hdrD]; done)); (· (simp [hdrD,and_assoc]; done))))) | ((with_reducible refine callF_id ?_); (first | ((with_reducible refine CallF_fl (c1) ?_ ?_ ?_); (· (simp [hdrD]; done)); (· (intro G hG; simp [hdrD] at hG; simp [hdrD,hG,and_assoc]; done))) | ((with_reducible refine CallF_fl (c2) ?_ ?_ ?_); (· (simp [hdrD]; done)); (· (intro G hG; simp [hdrD] at hG; simp [hdrD,hG,and_assoc]; done))) | ((with_reducible refine CallF_fl (c3) ?_ ?_ ?_); (· (simp [hdrD]; done)); (· (intro G hG; simp [hdrD] at hG; simp [hdrD,hG,and_assoc]; done))))) | ((first | refine Wc_split (fun hg=>?_) (fun hg=>?_) | refine RoG_split (fun hg=>?_) (fun hg=>?_) | refine RdG_split (fun hg=>?_) (fun hg=>?_)) <;> (try simp only [nrm] at hg) <;> (try simp only [hg,lgc,reduceIte,reduceCtorEq] at hR) <;> (try (exfalso; omega))) | ((try simp only [*,lgc,reduceIte,reduceCtorEq] at hR); obtain ⟨rfl⟩:=hR; refine fin_q (rs:=[.tmp 4]) rfl ?_; (try simp only [go_sem,Nat.reduceLT,Nat.reduceAdd,Nat.reduceMul,reduceIte,Nat.reduceEqDiff,reduceCtorEq,Nat.reducePow,Nat.reduceLeDiff,Int.reduceLE,Int.reduceLT,Int.reduceToNat,Int.reduceEq,Nat.reduceBEq,hdrD]); (simp [hdrD]; done))))
end Go.Proofs.Ytkodnlkgblkfdaa
