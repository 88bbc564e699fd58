/- landref1: above, Root, Primes, turn: by value. -/
import Derived.Test.YtkodnlkgblkfdaaGDiv
import Derived.Test.YtkodnlkgblkfdaaGSha
set_option linter.all false
namespace Go.Proofs.Ytkodnlkgblkfdaa
open Go Go.Abs Go.RowKit Go.Proofs.Ytkodnlkgblkfdaa.Ty
theorem tyR1A0:(type_of% @Ty.T80):=@Ty.T80
theorem tyR1A1:(type_of% @Ty.T3)∧(type_of% @Ty.T4)∧(type_of% @Ty.T80)∧(type_of% @Ty.T112):=⟨@Ty.T3,@Ty.T4,@Ty.T80,@Ty.T112⟩
theorem tyR1A2:(type_of% @Ty.T1)∧(type_of% @Ty.T3)∧(type_of% @Ty.T80)∧(type_of% @Ty.T109):=⟨@Ty.T1,@Ty.T3,@Ty.T80,@Ty.T109⟩
def aboveF (x p:Nat) (two:Bool):Bool :=
 if two then decide ((p:Int) < (x * x / 18446744073709551616:Nat)) || (decide (((x * x / 18446744073709551616:Nat):Int)=(p:Int)) && decide ((0:Int) < (x * x % 18446744073709551616:Nat)))
 else
  let h:=x * x / 18446744073709551616
  let l:=x * x % 18446744073709551616
  let a:=l * x / 18446744073709551616
  let b:=l * x % 18446744073709551616
  let c:=h * x / 18446744073709551616
  let d:=h * x % 18446744073709551616
  let mid:=(a+d+0) % 18446744073709551616
  let top:=(c+(a+d+0) / 18446744073709551616) % 18446744073709551616
  let wt:=p / 4294967296
  let wm:=p * 4294967296 % 18446744073709551616
  decide ((wt:Int) < (top:Int)) || (decide ((top:Int)=(wt:Int)) && (decide ((wm:Int) < (mid:Int)) || (decide ((mid:Int)=(wm:Int)) && decide ((0:Int) < (b:Int)))))
theorem shl32 (a:Nat):IntKind.u64.wrap ((a:Int) * 2 ^ min 32 (IntKind.bits .u64))=((a * 4294967296 % 18446744073709551616:Nat):Int):=by
 rw [show min 32 (IntKind.bits .u64)=32 from rfl,IntKind.wrap_u64]; omega
set_option maxHeartbeats 2000000
theorem above_A (x p:Nat) (two:Bool) (hx:x < 18446744073709551616) (hp:p < 18446744073709551616) :
  PureD Try.prog 87 [.i (.s (.int .u64 (x:Int))),.i (.s (.int .u64 (p:Int))),.i (.s (.bool two))] (.i (.s (.bool (aboveF x p two)))):=by
 generalize hq:aboveF x p two=q
 refine callD_W 84 Try.func87 rfl rfl rfl (fun _ _=>rfl) ?_
 (repeat (first | (simp -implicitDefEqProofs only [ev,mixed,Nat.reduceLT,Nat.reduceAdd,Nat.reduceMul,reduceIte,Nat.reduceEqDiff,reduceCtorEq,Nat.reducePow,Nat.reduceLeDiff,Int.reduceLE,Int.reduceLT,Int.reduceToNat,Int.reduceEq,Nat.reduceBEq,itsOf,gdA,byteI,opid,lenQ,ixQ,ldH,readAt,readCells,asCell,faQ,exQ,fldQ,partA,buildQ,slQ,stH,bslH,appH,dcells,convI,elemsOf,D.one,nilS,fillD,convN,cvH,tyR1A0]) | (with_reducible refine ⟨?_,?_⟩; (· first | (obtain ⟨rfl⟩:=‹Hq _ _›; with_reducible refine chk_ok ?_; kernel_rfl) | kernel_rfl)) | (with_reducible intro ops hops)))
 (first | refine Call_flat [] [] (mul64_A x x hx hx) (by simp [cvAs,cvA,cvRL,cvR,cvBox,cv1,cvL,cv0,bI,byteI,elemsOf,upd]) rfl ?_ | refine CallF_flat [] [] [] (mul64_A x x hx hx) (fun G _=>by simp [cvAs,cvA,cvRL,cvR,cvBox,cv1,cvL,cv0,bI,byteI,elemsOf,upd]) rfl ?_)
 cases two with
 | true =>
  unfold aboveF at hq
  rw [if_pos rfl] at hq
  generalize x * x / 18446744073709551616=h at hq
  generalize x * x % 18446744073709551616=l at hq
  cases g1:decide ((p:Int) < (h:Int))
  ·cases g2:decide ((h:Int)=(p:Int))
   ·(repeat (first | (simp -implicitDefEqProofs only [ev,mixed,Nat.reduceLT,Nat.reduceAdd,Nat.reduceMul,reduceIte,Nat.reduceEqDiff,reduceCtorEq,Nat.reducePow,Nat.reduceLeDiff,Int.reduceLE,Int.reduceLT,Int.reduceToNat,Int.reduceEq,Nat.reduceBEq,itsOf,gdA,byteI,opid,lenQ,ixQ,ldH,readAt,readCells,asCell,faQ,exQ,fldQ,partA,buildQ,slQ,stH,bslH,appH,dcells,convI,elemsOf,D.one,nilS,fillD,convN,cvH,tyR1A0,g1,g2]) | (with_reducible refine ⟨?_,?_⟩; (· first | (obtain ⟨rfl⟩:=‹Hq _ _›; with_reducible refine chk_ok ?_; kernel_rfl) | kernel_rfl)) | (with_reducible intro ops hops)))
    refine fin_ret [] rfl ?_
    rw [g1,g2] at hq
    simp [cv,cv1,cv0,upd,← hq]
   ·cases g3:decide ((0:Int) < (l:Int)) <;>
    ·(repeat (first | (simp -implicitDefEqProofs only [ev,mixed,Nat.reduceLT,Nat.reduceAdd,Nat.reduceMul,reduceIte,Nat.reduceEqDiff,reduceCtorEq,Nat.reducePow,Nat.reduceLeDiff,Int.reduceLE,Int.reduceLT,Int.reduceToNat,Int.reduceEq,Nat.reduceBEq,itsOf,gdA,byteI,opid,lenQ,ixQ,ldH,readAt,readCells,asCell,faQ,exQ,fldQ,partA,buildQ,slQ,stH,bslH,appH,dcells,convI,elemsOf,D.one,nilS,fillD,convN,cvH,tyR1A0,g1,g2,g3]) | (with_reducible refine ⟨?_,?_⟩; (· first | (obtain ⟨rfl⟩:=‹Hq _ _›; with_reducible refine chk_ok ?_; kernel_rfl) | kernel_rfl)) | (with_reducible intro ops hops)))
     refine fin_ret [] rfl ?_
     rw [g1,g2,g3] at hq
     simp [cv,cv1,cv0,upd,← hq]
  ·(repeat (first | (simp -implicitDefEqProofs only [ev,mixed,Nat.reduceLT,Nat.reduceAdd,Nat.reduceMul,reduceIte,Nat.reduceEqDiff,reduceCtorEq,Nat.reducePow,Nat.reduceLeDiff,Int.reduceLE,Int.reduceLT,Int.reduceToNat,Int.reduceEq,Nat.reduceBEq,itsOf,gdA,byteI,opid,lenQ,ixQ,ldH,readAt,readCells,asCell,faQ,exQ,fldQ,partA,buildQ,slQ,stH,bslH,appH,dcells,convI,elemsOf,D.one,nilS,fillD,convN,cvH,tyR1A0,g1]) | (with_reducible refine ⟨?_,?_⟩; (· first | (obtain ⟨rfl⟩:=‹Hq _ _›; with_reducible refine chk_ok ?_; kernel_rfl) | kernel_rfl)) | (with_reducible intro ops hops)))
   refine fin_ret [] rfl ?_
   rw [g1] at hq
   simp [cv,cv1,cv0,upd,← hq]
 | false =>
  unfold aboveF at hq
  simp only [Bool.false_eq_true,if_false] at hq
  have hh:x * x / 18446744073709551616 < 18446744073709551616:=Nat.div_lt_of_lt_mul (Nat.mul_lt_mul'' hx hx)
  have hl:x * x % 18446744073709551616 < 18446744073709551616:=Nat.mod_lt _ (by decide)
  generalize x * x / 18446744073709551616=h at hq hh
  generalize x * x % 18446744073709551616=l at hq hl
  (repeat (first | (simp -implicitDefEqProofs only [ev,mixed,Nat.reduceLT,Nat.reduceAdd,Nat.reduceMul,reduceIte,Nat.reduceEqDiff,reduceCtorEq,Nat.reducePow,Nat.reduceLeDiff,Int.reduceLE,Int.reduceLT,Int.reduceToNat,Int.reduceEq,Nat.reduceBEq,itsOf,gdA,byteI,opid,lenQ,ixQ,ldH,readAt,readCells,asCell,faQ,exQ,fldQ,partA,buildQ,slQ,stH,bslH,appH,dcells,convI,elemsOf,D.one,nilS,fillD,convN,cvH,tyR1A0]) | (with_reducible refine ⟨?_,?_⟩; (· first | (obtain ⟨rfl⟩:=‹Hq _ _›; with_reducible refine chk_ok ?_; kernel_rfl) | kernel_rfl)) | (with_reducible intro ops hops)))
  (first | refine Call_flat [] [] (mul64_A l x hl hx) (by simp [cvAs,cvA,cvRL,cvR,cvBox,cv1,cvL,cv0,bI,byteI,elemsOf,upd]) rfl ?_ | refine CallF_flat [] [] [] (mul64_A l x hl hx) (fun G _=>by simp [cvAs,cvA,cvRL,cvR,cvBox,cv1,cvL,cv0,bI,byteI,elemsOf,upd]) rfl ?_)
  have ha:l * x / 18446744073709551616 < 18446744073709551616:=Nat.div_lt_of_lt_mul (Nat.mul_lt_mul'' hl hx)
  generalize l * x / 18446744073709551616=a at hq ha
  generalize l * x % 18446744073709551616=b at hq
  (repeat (first | (simp -implicitDefEqProofs only [ev,mixed,Nat.reduceLT,Nat.reduceAdd,Nat.reduceMul,reduceIte,Nat.reduceEqDiff,reduceCtorEq,Nat.reducePow,Nat.reduceLeDiff,Int.reduceLE,Int.reduceLT,Int.reduceToNat,Int.reduceEq,Nat.reduceBEq,itsOf,gdA,byteI,opid,lenQ,ixQ,ldH,readAt,readCells,asCell,faQ,exQ,fldQ,partA,buildQ,slQ,stH,bslH,appH,dcells,convI,elemsOf,D.one,nilS,fillD,convN,cvH,tyR1A0]) | (with_reducible refine ⟨?_,?_⟩; (· first | (obtain ⟨rfl⟩:=‹Hq _ _›; with_reducible refine chk_ok ?_; kernel_rfl) | kernel_rfl)) | (with_reducible intro ops hops)))
  (first | refine Call_flat [] [] (mul64_A h x hh hx) (by simp [cvAs,cvA,cvRL,cvR,cvBox,cv1,cvL,cv0,bI,byteI,elemsOf,upd]) rfl ?_ | refine CallF_flat [] [] [] (mul64_A h x hh hx) (fun G _=>by simp [cvAs,cvA,cvRL,cvR,cvBox,cv1,cvL,cv0,bI,byteI,elemsOf,upd]) rfl ?_)
  have hd:h * x % 18446744073709551616 < 18446744073709551616:=Nat.mod_lt _ (by decide)
  generalize h * x / 18446744073709551616=c at hq
  generalize h * x % 18446744073709551616=d at hq hd
  (repeat (first | (simp -implicitDefEqProofs only [ev,mixed,Nat.reduceLT,Nat.reduceAdd,Nat.reduceMul,reduceIte,Nat.reduceEqDiff,reduceCtorEq,Nat.reducePow,Nat.reduceLeDiff,Int.reduceLE,Int.reduceLT,Int.reduceToNat,Int.reduceEq,Nat.reduceBEq,itsOf,gdA,byteI,opid,lenQ,ixQ,ldH,readAt,readCells,asCell,faQ,exQ,fldQ,partA,buildQ,slQ,stH,bslH,appH,dcells,convI,elemsOf,D.one,nilS,fillD,convN,cvH,tyR1A0]) | (with_reducible refine ⟨?_,?_⟩; (· first | (obtain ⟨rfl⟩:=‹Hq _ _›; with_reducible refine chk_ok ?_; kernel_rfl) | kernel_rfl)) | (with_reducible intro ops hops)))
  refine Call_dir (add64_X a d 0 ha hd (by decide)) ?_
  have w1:IntKind.u64.wrap ((c:Int)+(((a+d+0) / 18446744073709551616:Nat):Int))=(((c+(a+d+0) / 18446744073709551616) % 18446744073709551616:Nat):Int):=by rw [IntKind.wrap_u64]; omega
  generalize (c+(a+d+0) / 18446744073709551616) % 18446744073709551616=top at hq w1
  generalize (a+d+0) % 18446744073709551616=mid at hq
  generalize (a+d+0) / 18446744073709551616=carry at w1
  have w2:=shl32 p
  have w3:=shr32 p
  generalize p * 4294967296 % 18446744073709551616=wm at hq w2
  generalize p / 4294967296=wt at hq w3
  cases g1:decide ((wt:Int) < (top:Int))
  ·cases g2:decide ((top:Int)=(wt:Int))
   ·(repeat (first | (simp -implicitDefEqProofs only [ev,mixed,Nat.reduceLT,Nat.reduceAdd,Nat.reduceMul,reduceIte,Nat.reduceEqDiff,reduceCtorEq,Nat.reducePow,Nat.reduceLeDiff,Int.reduceLE,Int.reduceLT,Int.reduceToNat,Int.reduceEq,Nat.reduceBEq,itsOf,gdA,byteI,opid,lenQ,ixQ,ldH,readAt,readCells,asCell,faQ,exQ,fldQ,partA,buildQ,slQ,stH,bslH,appH,dcells,convI,elemsOf,D.one,nilS,fillD,convN,cvH,tyR1A0,w1,w2,w3,g1,g2]) | (with_reducible refine ⟨?_,?_⟩; (· first | (obtain ⟨rfl⟩:=‹Hq _ _›; with_reducible refine chk_ok ?_; kernel_rfl) | kernel_rfl)) | (with_reducible intro ops hops)))
    refine fin_ret [] rfl ?_
    rw [g1,g2] at hq
    simp [cv,cv1,cv0,upd,← hq]
   ·cases g3:decide ((wm:Int) < (mid:Int))
    ·cases g4:decide ((mid:Int)=(wm:Int))
     ·(repeat (first | (simp -implicitDefEqProofs only [ev,mixed,Nat.reduceLT,Nat.reduceAdd,Nat.reduceMul,reduceIte,Nat.reduceEqDiff,reduceCtorEq,Nat.reducePow,Nat.reduceLeDiff,Int.reduceLE,Int.reduceLT,Int.reduceToNat,Int.reduceEq,Nat.reduceBEq,itsOf,gdA,byteI,opid,lenQ,ixQ,ldH,readAt,readCells,asCell,faQ,exQ,fldQ,partA,buildQ,slQ,stH,bslH,appH,dcells,convI,elemsOf,D.one,nilS,fillD,convN,cvH,tyR1A0,w1,w2,w3,g1,g2,g3,g4]) | (with_reducible refine ⟨?_,?_⟩; (· first | (obtain ⟨rfl⟩:=‹Hq _ _›; with_reducible refine chk_ok ?_; kernel_rfl) | kernel_rfl)) | (with_reducible intro ops hops)))
      refine fin_ret [] rfl ?_
      rw [g1,g2,g3,g4] at hq
      simp [cv,cv1,cv0,upd,← hq]
     ·cases g5:decide ((0:Int) < (b:Int)) <;>
      ·(repeat (first | (simp -implicitDefEqProofs only [ev,mixed,Nat.reduceLT,Nat.reduceAdd,Nat.reduceMul,reduceIte,Nat.reduceEqDiff,reduceCtorEq,Nat.reducePow,Nat.reduceLeDiff,Int.reduceLE,Int.reduceLT,Int.reduceToNat,Int.reduceEq,Nat.reduceBEq,itsOf,gdA,byteI,opid,lenQ,ixQ,ldH,readAt,readCells,asCell,faQ,exQ,fldQ,partA,buildQ,slQ,stH,bslH,appH,dcells,convI,elemsOf,D.one,nilS,fillD,convN,cvH,tyR1A0,w1,w2,w3,g1,g2,g3,g4,g5]) | (with_reducible refine ⟨?_,?_⟩; (· first | (obtain ⟨rfl⟩:=‹Hq _ _›; with_reducible refine chk_ok ?_; kernel_rfl) | kernel_rfl)) | (with_reducible intro ops hops)))
       refine fin_ret [] rfl ?_
       rw [g1,g2,g3,g4,g5] at hq
       simp [cv,cv1,cv0,upd,← hq]
    ·(repeat (first | (simp -implicitDefEqProofs only [ev,mixed,Nat.reduceLT,Nat.reduceAdd,Nat.reduceMul,reduceIte,Nat.reduceEqDiff,reduceCtorEq,Nat.reducePow,Nat.reduceLeDiff,Int.reduceLE,Int.reduceLT,Int.reduceToNat,Int.reduceEq,Nat.reduceBEq,itsOf,gdA,byteI,opid,lenQ,ixQ,ldH,readAt,readCells,asCell,faQ,exQ,fldQ,partA,buildQ,slQ,stH,bslH,appH,dcells,convI,elemsOf,D.one,nilS,fillD,convN,cvH,tyR1A0,w1,w2,w3,g1,g2,g3]) | (with_reducible refine ⟨?_,?_⟩; (· first | (obtain ⟨rfl⟩:=‹Hq _ _›; with_reducible refine chk_ok ?_; kernel_rfl) | kernel_rfl)) | (with_reducible intro ops hops)))
     refine fin_ret [] rfl ?_
     rw [g1,g2,g3] at hq
     simp [cv,cv1,cv0,upd,← hq]
  ·(repeat (first | (simp -implicitDefEqProofs only [ev,mixed,Nat.reduceLT,Nat.reduceAdd,Nat.reduceMul,reduceIte,Nat.reduceEqDiff,reduceCtorEq,Nat.reducePow,Nat.reduceLeDiff,Int.reduceLE,Int.reduceLT,Int.reduceToNat,Int.reduceEq,Nat.reduceBEq,itsOf,gdA,byteI,opid,lenQ,ixQ,ldH,readAt,readCells,asCell,faQ,exQ,fldQ,partA,buildQ,slQ,stH,bslH,appH,dcells,convI,elemsOf,D.one,nilS,fillD,convN,cvH,tyR1A0,w1,w2,w3,g1]) | (with_reducible refine ⟨?_,?_⟩; (· first | (obtain ⟨rfl⟩:=‹Hq _ _›; with_reducible refine chk_ok ?_; kernel_rfl) | kernel_rfl)) | (with_reducible intro ops hops)))
   refine fin_ret [] rfl ?_
   rw [g1] at hq
   simp [cv,cv1,cv0,upd,← hq]
def rootGo (p:Nat) (two:Bool):Nat→Nat→Nat
 | 0,x=>x
 | k+1,x=>rootGo p two k (if aboveF (x ||| 2 ^ k) p two then x else x ||| 2 ^ k)
def prF (p:Nat) (two:Bool):Nat:=rootGo p two 41 0 % 4294967296
theorem root_A (p:Nat) (two:Bool) (hp:p < 18446744073709551616) :
  PureD Try.prog 74 [.i (.s (.int .u64 (p:Int))),.i (.s (.bool two))] (.i (.s (.int .u32 (prF p two:Nat)))):=by
 refine callD_W 24 Try.func74 rfl rfl rfl (fun _ _=>rfl) ?_
 (repeat (first | (simp -implicitDefEqProofs only [ev,mixed,Nat.reduceLT,Nat.reduceAdd,Nat.reduceMul,reduceIte,Nat.reduceEqDiff,reduceCtorEq,Nat.reducePow,Nat.reduceLeDiff,Int.reduceLE,Int.reduceLT,Int.reduceToNat,Int.reduceEq,Nat.reduceBEq,itsOf,gdA,byteI,opid,lenQ,ixQ,ldH,readAt,readCells,asCell,faQ,exQ,fldQ,partA,buildQ,slQ,stH,bslH,appH,dcells,convI,elemsOf,D.one,nilS,fillD,convN,cvH,tyR1A1]) | (with_reducible refine ⟨?_,?_⟩; (· first | (obtain ⟨rfl⟩:=‹Hq _ _›; with_reducible refine chk_ok ?_; kernel_rfl) | kernel_rfl)) | (with_reducible intro ops hops)))
 refine W_loopI (ι:=Nat × Nat) (fun q=>q.2 < 2 ^ 41∧q.1≤41∧rootGo p two q.1 q.2=rootGo p two 41 0)
  (fun q=>stOf [(0,.i (.s (.int .u64 (p:Int)))),(1,.i (.s (.bool two))),(5,.i (.s (.int .u64 (q.2:Nat)))),(6,.i (.s (.int .i64 ((q.1:Int) - 1))))] []) (fun q=>q.1) (41,0) ⟨by decide,by decide,rfl⟩ ?_ ?_
 ·refine le_stOf _ _ [] [] ?_ ?_ rfl rfl
  ·simp [cv,cv1,cv0,upd,lk,srcOf]
  ·simp
 ·rintro ⟨k,x⟩ ⟨hx,hk,hq⟩
  simp only at hx hk hq
  rw [stOf_eq]
  cases k with
  | zero =>
   have g1:decide ((0:Int)≤0 - 1)=false:=by decide
   have w1:IntKind.u32.wrap (x:Int)=((prF p two:Nat):Int):=by rw [prF,← hq,rootGo,IntKind.wrap_u32]; omega
   (repeat (first | (simp -implicitDefEqProofs only [ev,mixed,Nat.reduceLT,Nat.reduceAdd,Nat.reduceMul,reduceIte,Nat.reduceEqDiff,reduceCtorEq,Nat.reducePow,Nat.reduceLeDiff,Int.reduceLE,Int.reduceLT,Int.reduceToNat,Int.reduceEq,Nat.reduceBEq,itsOf,gdA,byteI,opid,lenQ,ixQ,ldH,readAt,readCells,asCell,faQ,exQ,fldQ,partA,buildQ,slQ,stH,bslH,appH,dcells,convI,elemsOf,D.one,nilS,fillD,convN,cvH,tyR1A1,g1,w1]) | (with_reducible refine ⟨?_,?_⟩; (· first | (obtain ⟨rfl⟩:=‹Hq _ _›; with_reducible refine chk_ok ?_; kernel_rfl) | kernel_rfl)) | (with_reducible intro ops hops)))
   refine fin_ret [] rfl ?_
   simp [cv,cv1,cv0,upd]
  | succ k =>
   have hk1:((k+1:Nat):Int) - 1=(k:Int):=by omega
   have hp2:(2:Nat) ^ k < 2 ^ 41:=Nat.pow_lt_pow_right (by decide) (by omega)
   have w2:IntKind.u64.wrap ((1:Int) * 2 ^ (min k (IntKind.bits .u64)))=((2 ^ k:Nat):Int):=by
    have e:((2:Int) ^ k)=((2 ^ k:Nat):Int):=by simp
    rw [show min k (IntKind.bits .u64)=k by simp [IntKind.bits]; omega,e,Int.one_mul,IntKind.wrap_u64]
    have h41:(2:Nat) ^ 41=2199023255552:=by decide
    rw [h41] at hp2
    generalize (2:Nat) ^ k=E at hp2 ⊢
    omega
   have w3:bits .or .u64 (x:Int) ((2 ^ k:Nat):Int)=((x ||| 2 ^ k:Nat):Int) :=
    (bits_nat .u64 64 (by decide) (fun n g0 g1=>by rw [IntKind.wrap_u64]; omega) x (2 ^ k) (Nat.lt_trans hx (by decide)) (Nat.lt_trans hp2 (by decide))).2
   have hy:x ||| 2 ^ k < 2 ^ 41:=Nat.or_lt_two_pow hx hp2
   rw [rootGo] at hq
   generalize hyy:x ||| 2 ^ k=y at hq w3 hy
   generalize 2 ^ k=E at w2 w3
   (repeat (first | (simp -implicitDefEqProofs only [ev,mixed,Nat.reduceLT,Nat.reduceAdd,Nat.reduceMul,reduceIte,Nat.reduceEqDiff,reduceCtorEq,Nat.reducePow,Nat.reduceLeDiff,Int.reduceLE,Int.reduceLT,Int.reduceToNat,Int.reduceEq,Nat.reduceBEq,itsOf,gdA,byteI,opid,lenQ,ixQ,ldH,readAt,readCells,asCell,faQ,exQ,fldQ,partA,buildQ,slQ,stH,bslH,appH,dcells,convI,elemsOf,D.one,nilS,fillD,convN,cvH,tyR1A1,hk1,w2,w3]) | (with_reducible refine ⟨?_,?_⟩; (· first | (obtain ⟨rfl⟩:=‹Hq _ _›; with_reducible refine chk_ok ?_; kernel_rfl) | kernel_rfl)) | (with_reducible intro ops hops)))
   (first | refine Call_flat [] [] (above_A y p two (Nat.lt_trans hy (by decide)) hp) (by simp [cvAs,cvA,cvRL,cvR,cvBox,cv1,cvL,cv0,bI,byteI,elemsOf,upd]) rfl ?_ | refine CallF_flat [] [] [] (above_A y p two (Nat.lt_trans hy (by decide)) hp) (fun G _=>by simp [cvAs,cvA,cvRL,cvR,cvBox,cv1,cvL,cv0,bI,byteI,elemsOf,upd]) rfl ?_)
   have w4:IntKind.i64.wrap ((k:Int) - 1)=(k:Int) - 1:=by rw [wrap64 (by omega) (by omega)]
   cases g:aboveF y p two
   ·rw [g] at hq
    (repeat (first | (simp -implicitDefEqProofs only [ev,mixed,Nat.reduceLT,Nat.reduceAdd,Nat.reduceMul,reduceIte,Nat.reduceEqDiff,reduceCtorEq,Nat.reducePow,Nat.reduceLeDiff,Int.reduceLE,Int.reduceLT,Int.reduceToNat,Int.reduceEq,Nat.reduceBEq,itsOf,gdA,byteI,opid,lenQ,ixQ,ldH,readAt,readCells,asCell,faQ,exQ,fldQ,partA,buildQ,slQ,stH,bslH,appH,dcells,convI,elemsOf,D.one,nilS,fillD,convN,cvH,tyR1A1,hk1,g,w4]) | (with_reducible refine ⟨?_,?_⟩; (· first | (obtain ⟨rfl⟩:=‹Hq _ _›; with_reducible refine chk_ok ?_; kernel_rfl) | kernel_rfl)) | (with_reducible intro ops hops)))
    refine ⟨(k,y),⟨hy,by simp at hk ⊢; omega,by simpa using hq⟩,le_stOf _ _ [] [] ?_ ?_ rfl rfl,by simp⟩
    ·simp [cv,cv1,cv0,upd,lk,srcOf]
    ·simp
   ·rw [g] at hq
    (repeat (first | (simp -implicitDefEqProofs only [ev,mixed,Nat.reduceLT,Nat.reduceAdd,Nat.reduceMul,reduceIte,Nat.reduceEqDiff,reduceCtorEq,Nat.reducePow,Nat.reduceLeDiff,Int.reduceLE,Int.reduceLT,Int.reduceToNat,Int.reduceEq,Nat.reduceBEq,itsOf,gdA,byteI,opid,lenQ,ixQ,ldH,readAt,readCells,asCell,faQ,exQ,fldQ,partA,buildQ,slQ,stH,bslH,appH,dcells,convI,elemsOf,D.one,nilS,fillD,convN,cvH,tyR1A1,hk1,g,w4]) | (with_reducible refine ⟨?_,?_⟩; (· first | (obtain ⟨rfl⟩:=‹Hq _ _›; with_reducible refine chk_ok ?_; kernel_rfl) | kernel_rfl)) | (with_reducible intro ops hops)))
    refine ⟨(k,x),⟨hx,by simp at hk ⊢; omega,by simpa using hq⟩,le_stOf _ _ [] [] ?_ ?_ rfl rfl,by simp⟩
    ·simp [cv,cv1,cv0,upd,lk,srcOf]
    ·simp
def primesTo:Nat→List Nat
 | 0=>[]
 | 1=>[]
 | 2=>[]
 | p+3=>if (primesTo (p+2)).all (fun q=>(p+2) % q != 0) then primesTo (p+2)++[p+2] else primesTo (p+2)
theorem primes_lt:∀ p,p < 312→(primesTo p).length < 64:=by decide +kernel
theorem primes_312:(primesTo 312).length=64:=by decide +kernel
theorem primes_pos:∀ p,∀ q∈primesTo p,2≤q∧q < p
 | 0,q,h=>by simp [primesTo] at h
 | 1,q,h=>by simp [primesTo] at h
 | 2,q,h=>by simp [primesTo] at h
 | p+3,q,h=>by
  rw [primesTo] at h
  split at h
  ·rcases List.mem_append.1 h with h | h
   ·have:=primes_pos (p+2) q h; omega
   ·simp at h; omega
  ·have:=primes_pos (p+2) q h; omega
def u64I (n:Nat):List I:=[.s (.int .u64 (n:Int))]
theorem primes_A:CallD Try.prog 73 [.i (.s (.int .i64 64))] noH (.os 1 1 0 64) (hOf noH [(1,.arr 1 ((primesTo 312).map u64I))]):=by
 refine callD_W 34 Try.func73 rfl rfl rfl (fun _ _=>rfl) ?_
 (repeat (first | (simp -implicitDefEqProofs only [ev,mixed,Nat.reduceLT,Nat.reduceAdd,Nat.reduceMul,reduceIte,Nat.reduceEqDiff,reduceCtorEq,Nat.reducePow,Nat.reduceLeDiff,Int.reduceLE,Int.reduceLT,Int.reduceToNat,Int.reduceEq,Nat.reduceBEq,itsOf,gdA,byteI,opid,lenQ,ixQ,ldH,readAt,readCells,asCell,faQ,exQ,fldQ,partA,buildQ,slQ,stH,bslH,appH,dcells,convI,elemsOf,D.one,nilS,fillD,convN,cvH,tyR1A2]) | (with_reducible refine ⟨?_,?_⟩; (· first | (obtain ⟨rfl⟩:=‹Hq _ _›; with_reducible refine chk_ok ?_; kernel_rfl) | kernel_rfl)) | (with_reducible intro ops hops)))
 refine W_loopI (ι:=Nat) (fun p=>2≤p∧p≤312)
  (fun p=>stOf [(0,.i (.s (.int .i64 64))),(3,.os 100 1 0 (primesTo p).length),(4,.i (.s (.int .u64 (p:Nat))))] [(100,.arr 1 ((primesTo p).map u64I))]) (fun p=>312 - p) 2 ⟨by decide,by decide⟩ ?_ ?_
 ·refine le_stOf _ _ [] [] ?_ ?_ rfl rfl
  ·simp [cv,cv1,cv0,upd,lk,srcOf,primesTo]
  ·simp [objOk,srcOf,lk,primesTo]
 ·rintro p ⟨hp2,hp⟩
  rw [stOf_eq]
  (repeat (first | (simp -implicitDefEqProofs only [ev,mixed,Nat.reduceLT,Nat.reduceAdd,Nat.reduceMul,reduceIte,Nat.reduceEqDiff,reduceCtorEq,Nat.reducePow,Nat.reduceLeDiff,Int.reduceLE,Int.reduceLT,Int.reduceToNat,Int.reduceEq,Nat.reduceBEq,itsOf,gdA,byteI,opid,lenQ,ixQ,ldH,readAt,readCells,asCell,faQ,exQ,fldQ,partA,buildQ,slQ,stH,bslH,appH,dcells,convI,elemsOf,D.one,nilS,fillD,convN,cvH,tyR1A2]) | (with_reducible refine ⟨?_,?_⟩; (· first | (obtain ⟨rfl⟩:=‹Hq _ _›; with_reducible refine chk_ok ?_; kernel_rfl) | kernel_rfl)) | (with_reducible intro ops hops)))
  refine Wc_split (fun h=>?_) (fun h=>?_)
  ·have hlt:p < 312:=by
    rcases Nat.lt_or_ge p 312 with h' | h'
    ·exact h'
    ·have:p=312:=by omega
     subst this
     rw [primes_312] at h; simp at h
   clear h
   have hpp:=primes_pos p
   have hstep:primesTo (p+1)=if (primesTo p).all (fun q=>p % q != 0) then primesTo p++[p] else primesTo p:=by
    obtain ⟨k,rfl⟩:∃ k,p=k+2:=⟨p - 2,by omega⟩
    rw [primesTo]
   have hll:=primes_lt p hlt
   generalize primesTo p=l at hstep hpp hll
   (repeat (first | (simp -implicitDefEqProofs only [ev,mixed,Nat.reduceLT,Nat.reduceAdd,Nat.reduceMul,reduceIte,Nat.reduceEqDiff,reduceCtorEq,Nat.reducePow,Nat.reduceLeDiff,Int.reduceLE,Int.reduceLT,Int.reduceToNat,Int.reduceEq,Nat.reduceBEq,itsOf,gdA,byteI,opid,lenQ,ixQ,ldH,readAt,readCells,asCell,faQ,exQ,fldQ,partA,buildQ,slQ,stH,bslH,appH,dcells,convI,elemsOf,D.one,nilS,fillD,convN,cvH,tyR1A2]) | (with_reducible refine ⟨?_,?_⟩; (· first | (obtain ⟨rfl⟩:=‹Hq _ _›; with_reducible refine chk_ok ?_; kernel_rfl) | kernel_rfl)) | (with_reducible intro ops hops)))
   refine W_loopI (ι:=Nat) (fun k=>k≤l.length)
    (fun k=>stOf [(0,.i (.s (.int .i64 64))),(3,.os 100 1 0 l.length),(4,.i (.s (.int .u64 (p:Nat)))),(5,.i (.s (.bool ((l.take k).all (fun q=>p % q != 0))))),(14,.os 100 1 0 l.length),(15,.i (.s (.int .i64 l.length))),(16,.i (.s (.int .i64 (k:Nat))))] [(100,.arr 1 (l.map u64I))]) (fun k=>l.length - k) 0 (by simp) ?_ ?_
   ·refine le_stOf _ _ [] [(100,100)] ?_ ?_ rfl rfl
    ·simp [cv,cv1,cv0,upd,lk,srcOf]
    ·simp [objOk,srcOf,lk,cvO,frz,hO]
   ·intro k hk
    rw [stOf_eq]
    (repeat (first | (simp -implicitDefEqProofs only [ev,mixed,Nat.reduceLT,Nat.reduceAdd,Nat.reduceMul,reduceIte,Nat.reduceEqDiff,reduceCtorEq,Nat.reducePow,Nat.reduceLeDiff,Int.reduceLE,Int.reduceLT,Int.reduceToNat,Int.reduceEq,Nat.reduceBEq,itsOf,gdA,byteI,opid,lenQ,ixQ,ldH,readAt,readCells,asCell,faQ,exQ,fldQ,partA,buildQ,slQ,stH,bslH,appH,dcells,convI,elemsOf,D.one,nilS,fillD,convN,cvH,tyR1A2]) | (with_reducible refine ⟨?_,?_⟩; (· first | (obtain ⟨rfl⟩:=‹Hq _ _›; with_reducible refine chk_ok ?_; kernel_rfl) | kernel_rfl)) | (with_reducible intro ops hops)))
    refine Wc_split (fun h=>?_) (fun h=>?_)
    ·have h1:k < l.length:=by simp at h; omega
     clear h
     have hk2:=hpp _ (List.getElem_mem h1)
     have e1:(l.map u64I)[k]?=some [.s (.int .u64 ((l[k]:Nat):Int))]:=by simp [h1,u64I]
     have htk:(l.take (k+1)).all (fun q=>p % q != 0)=((l.take k).all (fun q=>p % q != 0) && (p % l[k] != 0)):=by
      rw [List.take_succ_eq_append_getElem h1,List.all_append]; simp only [List.all_cons,List.all_nil,Bool.and_true]
     have l1:((k:Int) < (l.length:Int))=True:=eq_true (by omega)
     generalize l[k]=q at hk2 e1 htk
     have q0:((q:Int)=0)=False:=eq_false (by omega)
     have r1:(p:Int).tmod (q:Int)=((p % q:Nat):Int):=by rw [Int.tmod_eq_emod_of_nonneg (by omega)]; exact (Int.natCast_emod _ _).symm
     have w1:IntKind.i64.wrap ((k:Int)+1)=((k+1:Nat):Int):=by rw [wrap64 (by omega) (by omega)]; omega
     cases g:(l.take k).all (fun q=>p % q != 0)
     ·rw [g] at htk
      (repeat (first | (simp -implicitDefEqProofs only [ev,mixed,Nat.reduceLT,Nat.reduceAdd,Nat.reduceMul,reduceIte,Nat.reduceEqDiff,reduceCtorEq,Nat.reducePow,Nat.reduceLeDiff,Int.reduceLE,Int.reduceLT,Int.reduceToNat,Int.reduceEq,Nat.reduceBEq,itsOf,gdA,byteI,opid,lenQ,ixQ,ldH,readAt,readCells,asCell,faQ,exQ,fldQ,partA,buildQ,slQ,stH,bslH,appH,dcells,convI,elemsOf,D.one,nilS,fillD,convN,cvH,tyR1A2,e1,l1,q0,r1,w1]) | (with_reducible refine ⟨?_,?_⟩; (· first | (obtain ⟨rfl⟩:=‹Hq _ _›; with_reducible refine chk_ok ?_; kernel_rfl) | kernel_rfl)) | (with_reducible intro ops hops)))
      refine ⟨k+1,h1,le_stOf _ _ [] [(100,100)] ?_ ?_ rfl rfl,by simp; omega⟩
      ·simp [cv,cv1,cv0,upd,lk,srcOf,htk]
      ·simp [objOk,srcOf,lk,cvO,frz,hO]
     ·rw [g] at htk
      (repeat (first | (simp -implicitDefEqProofs only [ev,mixed,Nat.reduceLT,Nat.reduceAdd,Nat.reduceMul,reduceIte,Nat.reduceEqDiff,reduceCtorEq,Nat.reducePow,Nat.reduceLeDiff,Int.reduceLE,Int.reduceLT,Int.reduceToNat,Int.reduceEq,Nat.reduceBEq,itsOf,gdA,byteI,opid,lenQ,ixQ,ldH,readAt,readCells,asCell,faQ,exQ,fldQ,partA,buildQ,slQ,stH,bslH,appH,dcells,convI,elemsOf,D.one,nilS,fillD,convN,cvH,tyR1A2,e1,l1,q0,r1,w1]) | (with_reducible refine ⟨?_,?_⟩; (· first | (obtain ⟨rfl⟩:=‹Hq _ _›; with_reducible refine chk_ok ?_; kernel_rfl) | kernel_rfl)) | (with_reducible intro ops hops)))
      refine ⟨k+1,h1,le_stOf _ _ [] [(100,100)] ?_ ?_ rfl rfl,by simp; omega⟩
      ·simp [cv,cv1,cv0,upd,lk,srcOf,htk]
       exact Bool.eq_iff_iff.2 (by simp; omega)
      ·simp [objOk,srcOf,lk,cvO,frz,hO]
    ·have h1:k=l.length:=by simp at h; omega
     subst h1
     rw [take_len_self]
     have w1:IntKind.u64.wrap ((p:Int)+1)=((p+1:Nat):Int):=by rw [IntKind.wrap_u64]; omega
     have e3:l.length+1≤140737488355328:=by omega
     have e4:(l.length+1) * 8≤140737488355328:=by omega
     have uu:uni 1 (l.map u64I)=true:=uni_map (s:=1) (f:=u64I) (fun _=>rfl) l
     cases g:l.all (fun q=>p % q != 0)
     ·rw [g] at hstep
      simp only [Bool.false_eq_true,if_false] at hstep
      (repeat (first | (simp -implicitDefEqProofs only [ev,mixed,Nat.reduceLT,Nat.reduceAdd,Nat.reduceMul,reduceIte,Nat.reduceEqDiff,reduceCtorEq,Nat.reducePow,Nat.reduceLeDiff,Int.reduceLE,Int.reduceLT,Int.reduceToNat,Int.reduceEq,Nat.reduceBEq,itsOf,gdA,byteI,opid,lenQ,ixQ,ldH,readAt,readCells,asCell,faQ,exQ,fldQ,partA,buildQ,slQ,stH,bslH,appH,dcells,convI,elemsOf,D.one,nilS,fillD,convN,cvH,tyR1A2,g,w1]) | (with_reducible refine ⟨?_,?_⟩; (· first | (obtain ⟨rfl⟩:=‹Hq _ _›; with_reducible refine chk_ok ?_; kernel_rfl) | kernel_rfl)) | (with_reducible intro ops hops)))
      refine ⟨p+1,⟨by omega,by omega⟩,le_stOf _ _ [] [(100,100)] ?_ ?_ rfl rfl,by simp; omega⟩
      ·simp [cv,cv1,cv0,upd,lk,srcOf,hstep]
      ·simp [objOk,srcOf,lk,cvO,frz,hO,hstep]
     ·rw [g] at hstep
      simp only [if_true] at hstep
      (repeat (first | (simp -implicitDefEqProofs only [ev,mixed,Nat.reduceLT,Nat.reduceAdd,Nat.reduceMul,reduceIte,Nat.reduceEqDiff,reduceCtorEq,Nat.reducePow,Nat.reduceLeDiff,Int.reduceLE,Int.reduceLT,Int.reduceToNat,Int.reduceEq,Nat.reduceBEq,itsOf,gdA,byteI,opid,lenQ,ixQ,ldH,readAt,readCells,asCell,faQ,exQ,fldQ,partA,buildQ,slQ,stH,bslH,appH,dcells,convI,elemsOf,D.one,nilS,fillD,convN,cvH,tyR1A2,g,w1,e3,e4,uu]) | (with_reducible refine ⟨?_,?_⟩; (· first | (obtain ⟨rfl⟩:=‹Hq _ _›; with_reducible refine chk_ok ?_; kernel_rfl) | kernel_rfl)) | (with_reducible intro ops hops)))
      refine ⟨p+1,⟨by omega,by omega⟩,le_stOf _ _ [] [(100,4075)] ?_ ?_ rfl rfl,by simp; omega⟩
      ·simp [cv,cv1,cv0,upd,lk,srcOf,hstep]
      ·simp [objOk,srcOf,lk,cvO,frz,hO,hstep,upd,u64I]
  ·have:p=312:=by
    rcases Nat.lt_or_ge p 312 with h' | h'
    ·have:=primes_lt p h'; simp at h; omega
    ·omega
   subst this
   (repeat (first | (simp -implicitDefEqProofs only [ev,mixed,Nat.reduceLT,Nat.reduceAdd,Nat.reduceMul,reduceIte,Nat.reduceEqDiff,reduceCtorEq,Nat.reducePow,Nat.reduceLeDiff,Int.reduceLE,Int.reduceLT,Int.reduceToNat,Int.reduceEq,Nat.reduceBEq,itsOf,gdA,byteI,opid,lenQ,ixQ,ldH,readAt,readCells,asCell,faQ,exQ,fldQ,partA,buildQ,slQ,stH,bslH,appH,dcells,convI,elemsOf,D.one,nilS,fillD,convN,cvH,tyR1A2]) | (with_reducible refine ⟨?_,?_⟩; (· first | (obtain ⟨rfl⟩:=‹Hq _ _›; with_reducible refine chk_ok ?_; kernel_rfl) | kernel_rfl)) | (with_reducible intro ops hops)))
   refine fin_retD _ [] [(1,100)] rfl ?_ ?_ rfl ?_ rfl
   ·simp [cv,cv1,cv0,upd,srcR,lk,noH,primes_312]
   ·simp [objOk,srcR,lk,cvO,frz,upd,noH,hO]
   ·simp [noH]
end Go.Proofs.Ytkodnlkgblkfdaa
