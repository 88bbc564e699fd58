/- Walks of wire.reader.byte, .number and of wire.Read. -/
import Derived.Test.YtckjpabekmhnhaaDoorAbs4
import Derived.Test.YtckjpabekmhnhaaDoorGWire
set_option linter.all false
namespace Go.Proofs.YtckjpabekmhnhaaDoor
open Go Go.Abs Go.RowKit Go.Proofs.YtckjpabekmhnhaaDoor.Ty
theorem tyWRead0:(type_of% @Ty.T3)∧(type_of% @Ty.T4)∧(type_of% @Ty.T5)∧(type_of% @Ty.T39)∧(type_of% @Ty.T97):=⟨@Ty.T3,@Ty.T4,@Ty.T5,@Ty.T39,@Ty.T97⟩
theorem tyWRead1:(type_of% @Ty.T3)∧(type_of% @Ty.T4)∧(type_of% @Ty.T5)∧(type_of% @Ty.T23)∧(type_of% @Ty.T39)∧(type_of% @Ty.T95)∧(type_of% @Ty.T97):=⟨@Ty.T3,@Ty.T4,@Ty.T5,@Ty.T23,@Ty.T39,@Ty.T95,@Ty.T97⟩
theorem tyWRead2:(type_of% @Ty.T1)∧(type_of% @Ty.T3)∧(type_of% @Ty.T4)∧(type_of% @Ty.T5)∧(type_of% @Ty.T23)∧(type_of% @Ty.T39)∧(type_of% @Ty.T62)∧(type_of% @Ty.T66)∧(type_of% @Ty.T95)∧(type_of% @Ty.T97):=⟨@Ty.T1,@Ty.T3,@Ty.T4,@Ty.T5,@Ty.T23,@Ty.T39,@Ty.T62,@Ty.T66,@Ty.T95,@Ty.T97⟩
def rdO (b:List UInt8) (bad:Bool):Ob:=.box [.i (.sl (b.map byteI)),.i (.s (.bool bad))]
def byteR (c:UInt8):D:=.i (.s (.int .u8 (c.toNat:Int)))
set_option maxHeartbeats 1000000
theorem rbyte_no (bad:Bool):CallD Tryd.prog 64 [.pt 0 0 0 0] (hF [(0,rdO [] bad)]) (byteR 0) (hOf (hF [(0,rdO [] bad)]) [(0,rdO [] true)]):=by
 refine callD_W 28 Tryd.func64 rfl rfl rfl (fun o ho=>by simp [hF,lk,show o≠0 by omega]) ?_
 (repeat (first | (simp -implicitDefEqProofs only [ev,mixed,Nat.reduceLT,Nat.reduceAdd,Nat.reduceMul,reduceIte,Nat.reduceEqDiff,reduceCtorEq,Nat.reducePow,Nat.reduceLeDiff,Int.reduceLE,Int.reduceLT,Int.reduceToNat,Int.reduceEq,Nat.reduceBEq,itsOf,gdA,byteI,opid,lenQ,ixQ,ldH,readAt,readCells,asCell,faQ,exQ,fldQ,partA,buildQ,slQ,stH,bslH,appH,dcells,convI,elemsOf,D.one,nilS,fillD,convN,cvH,tyWRead0,rdO]) | (with_reducible refine ⟨?_,?_⟩; (· first | (obtain ⟨rfl⟩:=‹Hq _ _›; with_reducible refine chk_ok ?_; kernel_rfl) | kernel_rfl)) | (with_reducible intro ops hops)))
 refine fin_retD _ [] [] rfl ?_ ?_ rfl ?_ rfl
 ·simp [cv,cv1,cv0,upd,byteR]
 ·simp [objOk,srcR,lk,cvO,cvL,cv0,frz,upd,hF,D.one]
 ·simp
theorem rbyte_some (c:UInt8) (b:List UInt8) (bad:Bool) (hb:b.length≤1048576):CallD Tryd.prog 64 [.pt 0 0 0 0] (hF [(0,rdO (c :: b) bad)]) (byteR c) (hOf (hF [(0,rdO (c :: b) bad)]) [(0,rdO b bad)]):=by
 refine callD_W 28 Tryd.func64 rfl rfl rfl (fun o ho=>by simp [hF,lk,show o≠0 by omega]) ?_
 have e1:(((b.length+1:Nat):Int)=0)=False:=by simp; omega
 (repeat (first | (simp -implicitDefEqProofs only [ev,mixed,Nat.reduceLT,Nat.reduceAdd,Nat.reduceMul,reduceIte,Nat.reduceEqDiff,reduceCtorEq,Nat.reducePow,Nat.reduceLeDiff,Int.reduceLE,Int.reduceLT,Int.reduceToNat,Int.reduceEq,Nat.reduceBEq,itsOf,gdA,byteI,opid,lenQ,ixQ,ldH,readAt,readCells,asCell,faQ,exQ,fldQ,partA,buildQ,slQ,stH,bslH,appH,dcells,convI,elemsOf,D.one,nilS,fillD,convN,cvH,tyWRead0,rdO,e1]) | (with_reducible refine ⟨?_,?_⟩; (· first | (obtain ⟨rfl⟩:=‹Hq _ _›; with_reducible refine chk_ok ?_; kernel_rfl) | kernel_rfl)) | (with_reducible intro ops hops)))
 refine fin_retD _ [] [] rfl ?_ ?_ rfl ?_ rfl
 ·simp [cv,cv1,cv0,upd,byteR]
 ·simp [objOk,srcR,lk,cvO,cvL,cv0,frz,upd,hF,D.one]
 ·simp
theorem nat_or_add {n i:Nat} (a:Nat) (h:n < 128 ^ i):n ||| (a * 128 ^ i)=n+a * 128 ^ i:=by
 have e:(128:Nat) ^ i=2 ^ (7 * i):=by rw [Nat.pow_mul]
 rw [e] at h ⊢
 rw [Nat.or_comm,Nat.mul_comm,← Nat.two_pow_add_eq_or_of_lt h,Nat.add_comm]
theorem rn_facts (c:UInt8) (i a:Nat) (h2:a < 128 ^ i) (h3:i≤9) (h9:i=9→c.toNat≤1) :
  bits .and .u8 (c.toNat:Int) 127=((c.toNat % 128:Nat):Int)∧IntKind.u64.wrap ((c.toNat % 128:Nat):Int)=((c.toNat % 128:Nat):Int) ∧
  IntKind.u64.wrap (((c.toNat % 128:Nat):Int) * 2 ^ (min (7 * i) (IntKind.bits .u64)))=((c.toNat % 128 * 128 ^ i:Nat):Int) ∧
  bits .or .u64 (a:Int) ((c.toNat % 128 * 128 ^ i:Nat):Int)=((a+c.toNat % 128 * 128 ^ i:Nat):Int):=by
 have hc:=c.toNat_lt
 have hlt:c.toNat % 128 * 128 ^ i < 18446744073709551616:=by
  by_cases e9:i=9
  ·have:c.toNat % 128≤1:=by have:=h9 e9; omega
   subst e9
   have:=Nat.mul_le_mul_right (128 ^ 9) this
   omega
  ·have:=Nat.mul_le_mul (show c.toNat % 128≤127 by omega) (Nat.pow_le_pow_right (show 1≤128 by decide) (show i≤8 by omega))
   omega
 refine ⟨?_,?_,?_,?_⟩
 ·have:=(bits_nat .u8 8 (by decide) wraps_u8 c.toNat 127 hc (by decide)).1
  rw [show ((127:Nat):Int)=127 from rfl] at this
  rw [this,show (127:Nat)=2 ^ 7 - 1 from rfl,Nat.and_two_pow_sub_one_eq_mod]
 ·rw [IntKind.wrap_u64]; omega
 ·rw [show min (7 * i) (IntKind.bits .u64)=7 * i by simp [IntKind.bits]; omega,Int.pow_mul]
  rw [IntKind.wrap_u64]
  have e:((c.toNat % 128:Nat):Int) * (2 ^ 7) ^ i=((c.toNat % 128 * 128 ^ i:Nat):Int):=by simp
  rw [e]; omega
 ·have ha:a < 2 ^ 64:=by
   have:=Nat.pow_le_pow_right (show 1≤128 by decide) h3
   have:(128:Nat) ^ 9=9223372036854775808:=by decide
   omega
  have:=(bits_nat .u64 64 (by decide) (fun n g0 g1=>by rw [IntKind.wrap_u64]; omega) a (c.toNat % 128 * 128 ^ i) ha hlt).2
  rw [this,nat_or_add _ h2]
theorem rnumber_some (b r:List UInt8) (v:Nat) (hb:b.length≤1048576) (h:takeN 0 0 b=some (v,r)):CallD Tryd.prog 63 [.pt 0 0 0 0] (hF [(0,rdO b false)]) (.i (.s (.int .u64 v))) (hOf (hF [(0,rdO b false)]) [(0,rdO r false)]):=by
 refine callD_W 41 Tryd.func63 rfl rfl rfl (fun o ho=>by simp [hF,lk,show o≠0 by omega]) ?_
 (repeat (first | (simp -implicitDefEqProofs only [ev,mixed,Nat.reduceLT,Nat.reduceAdd,Nat.reduceMul,reduceIte,Nat.reduceEqDiff,reduceCtorEq,Nat.reducePow,Nat.reduceLeDiff,Int.reduceLE,Int.reduceLT,Int.reduceToNat,Int.reduceEq,Nat.reduceBEq,itsOf,gdA,byteI,opid,lenQ,ixQ,ldH,readAt,readCells,asCell,faQ,exQ,fldQ,partA,buildQ,slQ,stH,bslH,appH,dcells,convI,elemsOf,D.one,nilS,fillD,convN,cvH,tyWRead1,rdO]) | (with_reducible refine ⟨?_,?_⟩; (· first | (obtain ⟨rfl⟩:=‹Hq _ _›; with_reducible refine chk_ok ?_; kernel_rfl) | kernel_rfl)) | (with_reducible intro ops hops)))
 refine W_loop (ι:={ p:List UInt8 × Nat × Nat // takeN p.2.1 p.2.2 p.1=some (v,r)∧p.2.2 < 128 ^ p.2.1∧p.2.1≤9∧p.1.length≤b.length })
  (fun p=>stOf [(0,.pt 0 0 0 0),(3,.i (.s (.int .u64 (p.1.2.2:Nat)))),(4,.i (.s (.int .i64 ((7 * p.1.2.1:Nat):Int))))] [(0,rdO p.1.1 false)]) (fun p=>p.1.1.length) ⟨(b,0,0),h,by simp,by simp,by simp⟩ ?_ ?_
 ·refine le_stOf _ _ [] [] ?_ ?_ rfl rfl
  ·simp [cv,cv1,cv0,upd,lk,srcOf]
  ·simp [objOk,srcOf,lk,cvO,cvL,cv0,frz,hF,rdO,D.one]
 ·rintro ⟨⟨s,i,a⟩,h1,h2,h3,h4⟩
  simp only at h1 h2 h3 h4
  rw [stOf_eq]
  cases s with
  | nil=>simp [takeN] at h1
  | cons c s =>
  (repeat (first | (simp -implicitDefEqProofs only [ev,mixed,Nat.reduceLT,Nat.reduceAdd,Nat.reduceMul,reduceIte,Nat.reduceEqDiff,reduceCtorEq,Nat.reducePow,Nat.reduceLeDiff,Int.reduceLE,Int.reduceLT,Int.reduceToNat,Int.reduceEq,Nat.reduceBEq,itsOf,gdA,byteI,opid,lenQ,ixQ,ldH,readAt,readCells,asCell,faQ,exQ,fldQ,partA,buildQ,slQ,stH,bslH,appH,dcells,convI,elemsOf,D.one,nilS,fillD,convN,cvH,tyWRead1,rdO]) | (with_reducible refine ⟨?_,?_⟩; (· first | (obtain ⟨rfl⟩:=‹Hq _ _›; with_reducible refine chk_ok ?_; kernel_rfl) | kernel_rfl)) | (with_reducible intro ops hops)))
  refine Call_box (rbyte_some c s false (by simp at h4; omega)) rfl rfl ?_
  rw [takeN] at h1
  split at h1
  ·cases h1
  ·rename_i hno
   have hc:=c.toNat_lt
   have c0:(c=0)↔c.toNat=0:=by rw [← UInt8.toNat_inj]; rfl
   obtain ⟨w1,w2,w3,w4⟩:=rn_facts c i a h2 h3 (by rintro rfl; simp at hno; omega)
   cases g1:decide (0 < ((7 * i:Nat):Int)) <;> cases g2:decide ((c.toNat:Int)=0) <;> cases g3:decide (((7 * i:Nat):Int)=63) <;> cases g4:decide (1 < (c.toNat:Int)) <;>
    first
    | (exfalso; simp only [decide_eq_true_eq,decide_eq_false_iff_not] at g1 g2 g3 g4; rw [c0] at hno; omega)
    | skip
   all_goals (repeat (first | (simp -implicitDefEqProofs only [ev,mixed,Nat.reduceLT,Nat.reduceAdd,Nat.reduceMul,reduceIte,Nat.reduceEqDiff,reduceCtorEq,Nat.reducePow,Nat.reduceLeDiff,Int.reduceLE,Int.reduceLT,Int.reduceToNat,Int.reduceEq,Nat.reduceBEq,itsOf,gdA,byteI,opid,lenQ,ixQ,ldH,readAt,readCells,asCell,faQ,exQ,fldQ,partA,buildQ,slQ,stH,bslH,appH,dcells,convI,elemsOf,D.one,nilS,fillD,convN,cvH,tyWRead1,rdO,byteR,g1,g2,g3,g4,w1,w2,w3,w4]) | (with_reducible refine ⟨?_,?_⟩; (· first | (obtain ⟨rfl⟩:=‹Hq _ _›; with_reducible refine chk_ok ?_; kernel_rfl) | kernel_rfl)) | (with_reducible intro ops hops)))
   all_goals
    refine Wc_split (fun h=>?_) (fun h=>?_)
    ·have h5:c.toNat < 128:=by simp at h; omega
     rw [if_pos h5] at h1
     simp only [Option.some.injEq,Prod.mk.injEq] at h1
     obtain ⟨rfl,rfl⟩:=h1
     (repeat (first | (simp -implicitDefEqProofs only [ev,mixed,Nat.reduceLT,Nat.reduceAdd,Nat.reduceMul,reduceIte,Nat.reduceEqDiff,reduceCtorEq,Nat.reducePow,Nat.reduceLeDiff,Int.reduceLE,Int.reduceLT,Int.reduceToNat,Int.reduceEq,Nat.reduceBEq,itsOf,gdA,byteI,opid,lenQ,ixQ,ldH,readAt,readCells,asCell,faQ,exQ,fldQ,partA,buildQ,slQ,stH,bslH,appH,dcells,convI,elemsOf,D.one,nilS,fillD,convN,cvH,tyWRead1]) | (with_reducible refine ⟨?_,?_⟩; (· first | (obtain ⟨rfl⟩:=‹Hq _ _›; with_reducible refine chk_ok ?_; kernel_rfl) | kernel_rfl)) | (with_reducible intro ops hops)))
     refine fin_retD _ [] [] rfl ?_ ?_ rfl ?_ rfl
     ·simp [cv,cv1,cv0,upd,Nat.mod_eq_of_lt h5]
     ·simp [objOk,srcR,lk,cvO,cvL,cv0,frz,upd,hF,D.one]
     ·simp
    ·have h5:¬ c.toNat < 128:=by simp at h; omega
     rw [if_neg h5] at h1
     have h6:c.toNat % 128=c.toNat - 128:=by omega
     rw [← h6] at h1
     have h9:i≠9:=by rintro rfl; simp at hno; omega
     have w5:IntKind.i64.wrap (((7 * i:Nat):Int)+7)=((7 * (i+1):Nat):Int):=by rw [wrap64 (by omega) (by omega)]; omega
     (repeat (first | (simp -implicitDefEqProofs only [ev,mixed,Nat.reduceLT,Nat.reduceAdd,Nat.reduceMul,reduceIte,Nat.reduceEqDiff,reduceCtorEq,Nat.reducePow,Nat.reduceLeDiff,Int.reduceLE,Int.reduceLT,Int.reduceToNat,Int.reduceEq,Nat.reduceBEq,itsOf,gdA,byteI,opid,lenQ,ixQ,ldH,readAt,readCells,asCell,faQ,exQ,fldQ,partA,buildQ,slQ,stH,bslH,appH,dcells,convI,elemsOf,D.one,nilS,fillD,convN,cvH,tyWRead1,w5]) | (with_reducible refine ⟨?_,?_⟩; (· first | (obtain ⟨rfl⟩:=‹Hq _ _›; with_reducible refine chk_ok ?_; kernel_rfl) | kernel_rfl)) | (with_reducible intro ops hops)))
     refine ⟨⟨(s,i+1,a+c.toNat % 128 * 128 ^ i),h1,?_,by simp; omega,by simp at h4 ⊢; omega⟩,le_stOf _ _ [] [] ?_ ?_ rfl rfl,?_⟩
     ·simp only [Nat.pow_succ]
      have:=Nat.mul_le_mul_right (128 ^ i) (show c.toNat % 128≤127 by omega)
      omega
     ·simp [cv,cv1,cv0,upd,lk,srcOf]
     ·simp [objOk,srcOf,lk,cvO,cvL,cv0,frz,hF,hO,rdO,D.one,upd]
     ·simp
def failN:Nat→List UInt8→List UInt8
 | _,[]=>[]
 | i,c :: s=>if (0 < i∧c=0)∨(i=9∧1 < c.toNat) then s else failN (i+1) s
theorem rnumber_no (b:List UInt8) (bad:Bool) (hbad:bad=true→b=[]) (hb:b.length≤1048576) (h:takeN 0 0 b=none):CallD Tryd.prog 63 [.pt 0 0 0 0] (hF [(0,rdO b bad)]) (.i (.s (.int .u64 0))) (hOf (hF [(0,rdO b bad)]) [(0,rdO (failN 0 b) true)]):=by
 generalize hq:failN 0 b=q
 refine callD_W 41 Tryd.func63 rfl rfl rfl (fun o ho=>by simp [hF,lk,show o≠0 by omega]) ?_
 (repeat (first | (simp -implicitDefEqProofs only [ev,mixed,Nat.reduceLT,Nat.reduceAdd,Nat.reduceMul,reduceIte,Nat.reduceEqDiff,reduceCtorEq,Nat.reducePow,Nat.reduceLeDiff,Int.reduceLE,Int.reduceLT,Int.reduceToNat,Int.reduceEq,Nat.reduceBEq,itsOf,gdA,byteI,opid,lenQ,ixQ,ldH,readAt,readCells,asCell,faQ,exQ,fldQ,partA,buildQ,slQ,stH,bslH,appH,dcells,convI,elemsOf,D.one,nilS,fillD,convN,cvH,tyWRead1,rdO]) | (with_reducible refine ⟨?_,?_⟩; (· first | (obtain ⟨rfl⟩:=‹Hq _ _›; with_reducible refine chk_ok ?_; kernel_rfl) | kernel_rfl)) | (with_reducible intro ops hops)))
 refine W_loop (ι:={ p:List UInt8 × Nat × Nat // takeN p.2.1 p.2.2 p.1=none∧failN p.2.1 p.1=q∧p.2.2 < 128 ^ p.2.1∧p.2.1≤9∧p.1.length≤b.length∧(bad=true→p.1=[]) })
  (fun p=>stOf [(0,.pt 0 0 0 0),(3,.i (.s (.int .u64 (p.1.2.2:Nat)))),(4,.i (.s (.int .i64 ((7 * p.1.2.1:Nat):Int))))] [(0,rdO p.1.1 bad)]) (fun p=>p.1.1.length) ⟨(b,0,0),h,hq,by simp,by simp,by simp,hbad⟩ ?_ ?_
 ·refine le_stOf _ _ [] [] ?_ ?_ rfl rfl
  ·simp [cv,cv1,cv0,upd,lk,srcOf]
  ·simp [objOk,srcOf,lk,cvO,cvL,cv0,frz,hF,rdO,D.one]
 ·rintro ⟨⟨s,i,a⟩,h1,h0,h2,h3,h4,hbd⟩
  simp only at h1 h0 h2 h3 h4 hbd
  rw [stOf_eq]
  cases s with
  | nil =>
   have h0:q=[]:=by rw [← h0]; rfl
   subst h0
   (repeat (first | (simp -implicitDefEqProofs only [ev,mixed,Nat.reduceLT,Nat.reduceAdd,Nat.reduceMul,reduceIte,Nat.reduceEqDiff,reduceCtorEq,Nat.reducePow,Nat.reduceLeDiff,Int.reduceLE,Int.reduceLT,Int.reduceToNat,Int.reduceEq,Nat.reduceBEq,itsOf,gdA,byteI,opid,lenQ,ixQ,ldH,readAt,readCells,asCell,faQ,exQ,fldQ,partA,buildQ,slQ,stH,bslH,appH,dcells,convI,elemsOf,D.one,nilS,fillD,convN,cvH,tyWRead1,rdO]) | (with_reducible refine ⟨?_,?_⟩; (· first | (obtain ⟨rfl⟩:=‹Hq _ _›; with_reducible refine chk_ok ?_; kernel_rfl) | kernel_rfl)) | (with_reducible intro ops hops)))
   refine Call_box (rbyte_no bad) rfl rfl ?_
   cases g1:decide (0 < ((7 * i:Nat):Int)) <;> cases g3:decide (((7 * i:Nat):Int)=63)
   all_goals
    (repeat (first | (simp -implicitDefEqProofs only [ev,mixed,Nat.reduceLT,Nat.reduceAdd,Nat.reduceMul,reduceIte,Nat.reduceEqDiff,reduceCtorEq,Nat.reducePow,Nat.reduceLeDiff,Int.reduceLE,Int.reduceLT,Int.reduceToNat,Int.reduceEq,Nat.reduceBEq,itsOf,gdA,byteI,opid,lenQ,ixQ,ldH,readAt,readCells,asCell,faQ,exQ,fldQ,partA,buildQ,slQ,stH,bslH,appH,dcells,convI,elemsOf,D.one,nilS,fillD,convN,cvH,tyWRead1,rdO,byteR,g1,g3,UInt8.toNat_zero]) | (with_reducible refine ⟨?_,?_⟩; (· first | (obtain ⟨rfl⟩:=‹Hq _ _›; with_reducible refine chk_ok ?_; kernel_rfl) | kernel_rfl)) | (with_reducible intro ops hops)))
    refine fin_retD _ [] [] rfl ?_ ?_ rfl ?_ rfl
    ·simp [cv,cv1,cv0,upd]
    ·simp [objOk,srcR,lk,cvO,cvL,cv0,frz,upd,hF,D.one]
    ·simp
  | cons c s =>
  obtain rfl:bad=false:=by cases bad; rfl; simp at hbd
  (repeat (first | (simp -implicitDefEqProofs only [ev,mixed,Nat.reduceLT,Nat.reduceAdd,Nat.reduceMul,reduceIte,Nat.reduceEqDiff,reduceCtorEq,Nat.reducePow,Nat.reduceLeDiff,Int.reduceLE,Int.reduceLT,Int.reduceToNat,Int.reduceEq,Nat.reduceBEq,itsOf,gdA,byteI,opid,lenQ,ixQ,ldH,readAt,readCells,asCell,faQ,exQ,fldQ,partA,buildQ,slQ,stH,bslH,appH,dcells,convI,elemsOf,D.one,nilS,fillD,convN,cvH,tyWRead1,rdO]) | (with_reducible refine ⟨?_,?_⟩; (· first | (obtain ⟨rfl⟩:=‹Hq _ _›; with_reducible refine chk_ok ?_; kernel_rfl) | kernel_rfl)) | (with_reducible intro ops hops)))
  refine Call_box (rbyte_some c s false (by simp at h4; omega)) rfl rfl ?_
  have hc:=c.toNat_lt
  have c0:(c=0)↔c.toNat=0:=by rw [← UInt8.toNat_inj]; rfl
  rw [takeN] at h1
  rw [failN] at h0
  split at h1
  ·rename_i hyes
   rw [if_pos hyes] at h0
   subst h0
   cases g1:decide (0 < ((7 * i:Nat):Int)) <;> cases g2:decide ((c.toNat:Int)=0) <;> cases g3:decide (((7 * i:Nat):Int)=63) <;> cases g4:decide (1 < (c.toNat:Int)) <;>
    first
    | (exfalso; simp only [decide_eq_true_eq,decide_eq_false_iff_not] at g1 g2 g3 g4; rw [c0] at hyes; omega)
    | skip
   all_goals
    (repeat (first | (simp -implicitDefEqProofs only [ev,mixed,Nat.reduceLT,Nat.reduceAdd,Nat.reduceMul,reduceIte,Nat.reduceEqDiff,reduceCtorEq,Nat.reducePow,Nat.reduceLeDiff,Int.reduceLE,Int.reduceLT,Int.reduceToNat,Int.reduceEq,Nat.reduceBEq,itsOf,gdA,byteI,opid,lenQ,ixQ,ldH,readAt,readCells,asCell,faQ,exQ,fldQ,partA,buildQ,slQ,stH,bslH,appH,dcells,convI,elemsOf,D.one,nilS,fillD,convN,cvH,tyWRead1,rdO,byteR,g1,g2,g3,g4]) | (with_reducible refine ⟨?_,?_⟩; (· first | (obtain ⟨rfl⟩:=‹Hq _ _›; with_reducible refine chk_ok ?_; kernel_rfl) | kernel_rfl)) | (with_reducible intro ops hops)))
    refine fin_retD _ [] [] rfl ?_ ?_ rfl ?_ rfl
    ·simp [cv,cv1,cv0,upd]
    ·simp [objOk,srcR,lk,cvO,cvL,cv0,frz,upd,hF,D.one]
    ·simp
  ·rename_i hno
   rw [if_neg hno] at h0
   split at h1
   ·cases h1
   ·rename_i h5
    have h9:i≠9:=by rintro rfl; simp at hno; omega
    obtain ⟨w1,w2,w3,w4⟩:=rn_facts c i a h2 h3 (by omega)
    have h6:c.toNat % 128=c.toNat - 128:=by omega
    rw [← h6] at h1
    have w5:IntKind.i64.wrap (((7 * i:Nat):Int)+7)=((7 * (i+1):Nat):Int):=by rw [wrap64 (by omega) (by omega)]; omega
    have h7:decide ((c.toNat:Int) < 128)=false:=by simp; omega
    cases g1:decide (0 < ((7 * i:Nat):Int)) <;> cases g2:decide ((c.toNat:Int)=0) <;> cases g3:decide (((7 * i:Nat):Int)=63) <;> cases g4:decide (1 < (c.toNat:Int)) <;>
     first
     | (exfalso; simp only [decide_eq_true_eq,decide_eq_false_iff_not] at g1 g2 g3 g4; rw [c0] at hno; omega)
     | skip
    all_goals
     (repeat (first | (simp -implicitDefEqProofs only [ev,mixed,Nat.reduceLT,Nat.reduceAdd,Nat.reduceMul,reduceIte,Nat.reduceEqDiff,reduceCtorEq,Nat.reducePow,Nat.reduceLeDiff,Int.reduceLE,Int.reduceLT,Int.reduceToNat,Int.reduceEq,Nat.reduceBEq,itsOf,gdA,byteI,opid,lenQ,ixQ,ldH,readAt,readCells,asCell,faQ,exQ,fldQ,partA,buildQ,slQ,stH,bslH,appH,dcells,convI,elemsOf,D.one,nilS,fillD,convN,cvH,tyWRead1,rdO,byteR,g1,g2,g3,g4,w1,w2,w3,w4,w5,h7]) | (with_reducible refine ⟨?_,?_⟩; (· first | (obtain ⟨rfl⟩:=‹Hq _ _›; with_reducible refine chk_ok ?_; kernel_rfl) | kernel_rfl)) | (with_reducible intro ops hops)))
     refine ⟨⟨(s,i+1,a+c.toNat % 128 * 128 ^ i),h1,h0,?_,by simp; omega,by simp at h4 ⊢; omega,by simp⟩,le_stOf _ _ [] [] ?_ ?_ rfl rfl,?_⟩
     ·simp only [Nat.pow_succ]
      have:=Nat.mul_le_mul_right (128 ^ i) (show c.toNat % 128≤127 by omega)
      omega
     ·simp [cv,cv1,cv0,upd,lk,srcOf]
     ·simp [objOk,srcOf,lk,cvO,cvL,cv0,frz,hF,hO,rdO,D.one,upd]
     ·simp
def pairR (l:List PieceD) (e:Nat):D:=.tup [.i (.sl (l.map encP)),.i (.s (.int .i64 (e:Int)))]
theorem uni_encP (l:List PieceD):uni 3 (l.map encP)=true:=uni_map (s:=3) (f:=encP) (fun _=>rfl) l
theorem read_A (b:List UInt8) (hb:b.length≤1048576):PureD Tryd.prog 42 [.i (bI b)] (pairR (readF b).1 (readF b).2):=by
 refine callD_W 85 Tryd.func42 rfl rfl rfl (fun _ _=>rfl) ?_
 (repeat (first | (simp -implicitDefEqProofs only [ev,mixed,Nat.reduceLT,Nat.reduceAdd,Nat.reduceMul,reduceIte,Nat.reduceEqDiff,reduceCtorEq,Nat.reducePow,Nat.reduceLeDiff,Int.reduceLE,Int.reduceLT,Int.reduceToNat,Int.reduceEq,Nat.reduceBEq,itsOf,gdA,byteI,opid,lenQ,ixQ,ldH,readAt,readCells,asCell,faQ,exQ,fldQ,partA,buildQ,slQ,stH,bslH,appH,dcells,convI,elemsOf,D.one,nilS,fillD,convN,cvH,tyWRead2,bI]) | (with_reducible refine ⟨?_,?_⟩; (· first | (obtain ⟨rfl⟩:=‹Hq _ _›; with_reducible refine chk_ok ?_; kernel_rfl) | kernel_rfl)) | (with_reducible intro ops hops)))
 refine Wc_split (fun h=>?_) (fun h=>?_)
 ·have h1:20000 < b.length:=by simp at h; omega
  (repeat (first | (simp -implicitDefEqProofs only [ev,mixed,Nat.reduceLT,Nat.reduceAdd,Nat.reduceMul,reduceIte,Nat.reduceEqDiff,reduceCtorEq,Nat.reducePow,Nat.reduceLeDiff,Int.reduceLE,Int.reduceLT,Int.reduceToNat,Int.reduceEq,Nat.reduceBEq,itsOf,gdA,byteI,opid,lenQ,ixQ,ldH,readAt,readCells,asCell,faQ,exQ,fldQ,partA,buildQ,slQ,stH,bslH,appH,dcells,convI,elemsOf,D.one,nilS,fillD,convN,cvH,tyWRead2]) | (with_reducible refine ⟨?_,?_⟩; (· first | (obtain ⟨rfl⟩:=‹Hq _ _›; with_reducible refine chk_ok ?_; kernel_rfl) | kernel_rfl)) | (with_reducible intro ops hops)))
  refine fin_tt [] rfl ?_
  simp [cv,cvT,cv1,cv0,upd,readF,h1,pairR]
 ·have h1:¬ 20000 < b.length:=by simp at h; omega
  clear h
  rw [readF,if_neg h1]
  (repeat (first | (simp -implicitDefEqProofs only [ev,mixed,Nat.reduceLT,Nat.reduceAdd,Nat.reduceMul,reduceIte,Nat.reduceEqDiff,reduceCtorEq,Nat.reducePow,Nat.reduceLeDiff,Int.reduceLE,Int.reduceLT,Int.reduceToNat,Int.reduceEq,Nat.reduceBEq,itsOf,gdA,byteI,opid,lenQ,ixQ,ldH,readAt,readCells,asCell,faQ,exQ,fldQ,partA,buildQ,slQ,stH,bslH,appH,dcells,convI,elemsOf,D.one,nilS,fillD,convN,cvH,tyWRead2]) | (with_reducible refine ⟨?_,?_⟩; (· first | (obtain ⟨rfl⟩:=‹Hq _ _›; with_reducible refine chk_ok ?_; kernel_rfl) | kernel_rfl)) | (with_reducible intro ops hops)))
  cases h2:takeN 0 0 b with
  | none =>
   refine Call_box (rnumber_no b false (by simp) hb h2) (by simp [upd,rdO]) rfl ?_
   (repeat (first | (simp -implicitDefEqProofs only [ev,mixed,Nat.reduceLT,Nat.reduceAdd,Nat.reduceMul,reduceIte,Nat.reduceEqDiff,reduceCtorEq,Nat.reducePow,Nat.reduceLeDiff,Int.reduceLE,Int.reduceLT,Int.reduceToNat,Int.reduceEq,Nat.reduceBEq,itsOf,gdA,byteI,opid,lenQ,ixQ,ldH,readAt,readCells,asCell,faQ,exQ,fldQ,partA,buildQ,slQ,stH,bslH,appH,dcells,convI,elemsOf,D.one,nilS,fillD,convN,cvH,tyWRead2]) | (with_reducible refine ⟨?_,?_⟩; (· first | (obtain ⟨rfl⟩:=‹Hq _ _›; with_reducible refine chk_ok ?_; kernel_rfl) | kernel_rfl)) | (with_reducible intro ops hops)))
   refine fin_tt [] rfl ?_
   simp [cv,cvT,cv1,cv0,upd,pairR]
  | some p =>
   obtain ⟨n,r⟩:=p
   have hrl:r.length≤b.length:=by
    have:=(takeN_vnum h2).1; rw [this]; simp
   refine Call_box (rnumber_some b r n hb h2) (by simp [upd,rdO]) rfl ?_
   (repeat (first | (simp -implicitDefEqProofs only [ev,mixed,Nat.reduceLT,Nat.reduceAdd,Nat.reduceMul,reduceIte,Nat.reduceEqDiff,reduceCtorEq,Nat.reducePow,Nat.reduceLeDiff,Int.reduceLE,Int.reduceLT,Int.reduceToNat,Int.reduceEq,Nat.reduceBEq,itsOf,gdA,byteI,opid,lenQ,ixQ,ldH,readAt,readCells,asCell,faQ,exQ,fldQ,partA,buildQ,slQ,stH,bslH,appH,dcells,convI,elemsOf,D.one,nilS,fillD,convN,cvH,tyWRead2]) | (with_reducible refine ⟨?_,?_⟩; (· first | (obtain ⟨rfl⟩:=‹Hq _ _›; with_reducible refine chk_ok ?_; kernel_rfl) | kernel_rfl)) | (with_reducible intro ops hops)))
   refine Wc_split (fun h=>?_) (fun h=>?_)
   ·have h3:200 < n:=by simp at h; omega
    (repeat (first | (simp -implicitDefEqProofs only [ev,mixed,Nat.reduceLT,Nat.reduceAdd,Nat.reduceMul,reduceIte,Nat.reduceEqDiff,reduceCtorEq,Nat.reducePow,Nat.reduceLeDiff,Int.reduceLE,Int.reduceLT,Int.reduceToNat,Int.reduceEq,Nat.reduceBEq,itsOf,gdA,byteI,opid,lenQ,ixQ,ldH,readAt,readCells,asCell,faQ,exQ,fldQ,partA,buildQ,slQ,stH,bslH,appH,dcells,convI,elemsOf,D.one,nilS,fillD,convN,cvH,tyWRead2]) | (with_reducible refine ⟨?_,?_⟩; (· first | (obtain ⟨rfl⟩:=‹Hq _ _›; with_reducible refine chk_ok ?_; kernel_rfl) | kernel_rfl)) | (with_reducible intro ops hops)))
    refine fin_tt [] rfl ?_
    simp [cv,cvT,cv1,cv0,upd,pairR,h3]
   ·have h3:¬ 200 < n:=by simp at h; omega
    clear h
    simp only [if_neg h3]
    (repeat (first | (simp -implicitDefEqProofs only [ev,mixed,Nat.reduceLT,Nat.reduceAdd,Nat.reduceMul,reduceIte,Nat.reduceEqDiff,reduceCtorEq,Nat.reducePow,Nat.reduceLeDiff,Int.reduceLE,Int.reduceLT,Int.reduceToNat,Int.reduceEq,Nat.reduceBEq,itsOf,gdA,byteI,opid,lenQ,ixQ,ldH,readAt,readCells,asCell,faQ,exQ,fldQ,partA,buildQ,slQ,stH,bslH,appH,dcells,convI,elemsOf,D.one,nilS,fillD,convN,cvH,tyWRead2]) | (with_reducible refine ⟨?_,?_⟩; (· first | (obtain ⟨rfl⟩:=‹Hq _ _›; with_reducible refine chk_ok ?_; kernel_rfl) | kernel_rfl)) | (with_reducible intro ops hops)))
    refine W_loop (ι:={ p:List PieceD × Nat × List UInt8 // p.2.1≤n∧p.1.length=p.2.1∧p.2.2.length≤b.length∧readGo n r=(readGo (n - p.2.1) p.2.2).map (p.1++·) })
     (fun p=>stOf [(4,.pt 101 0 0 0),(6,.os 100 3 0 p.1.1.length),(26,.i (.s (.int .u64 n))),(27,.i (.s (.int .u64 (p.1.2.1:Nat))))] [(100,.arr 3 (p.1.1.map encP)),(101,rdO p.1.2.2 false)]) (fun p=>n - p.1.2.1) ⟨([],0,r),by simp,rfl,hrl,by simp⟩ ?_ ?_
    ·refine le_stOf _ _ [] [(101,1770)] ?_ ?_ rfl rfl
     ·simp [cv,cv1,cv0,upd,lk,srcOf]
     ·simp [objOk,srcOf,lk,cvO,cvL,cv0,frz,upd,D.one,rdO]
    ·rintro ⟨⟨acc,i,s⟩,hi,hal,hs,hq⟩
     simp only at hi hal hs hq
     rw [stOf_eq]
     (repeat (first | (simp -implicitDefEqProofs only [ev,mixed,Nat.reduceLT,Nat.reduceAdd,Nat.reduceMul,reduceIte,Nat.reduceEqDiff,reduceCtorEq,Nat.reducePow,Nat.reduceLeDiff,Int.reduceLE,Int.reduceLT,Int.reduceToNat,Int.reduceEq,Nat.reduceBEq,itsOf,gdA,byteI,opid,lenQ,ixQ,ldH,readAt,readCells,asCell,faQ,exQ,fldQ,partA,buildQ,slQ,stH,bslH,appH,dcells,convI,elemsOf,D.one,nilS,fillD,convN,cvH,tyWRead2,rdO]) | (with_reducible refine ⟨?_,?_⟩; (· first | (obtain ⟨rfl⟩:=‹Hq _ _›; with_reducible refine chk_ok ?_; kernel_rfl) | kernel_rfl)) | (with_reducible intro ops hops)))
     refine Wc_split (fun h=>?_) (fun h=>?_)
     ·have h4:i < n:=by simp at h; omega
      clear h
      have hni:n - i=(n - (i+1))+1:=by omega
      rw [hni] at hq
      (repeat (first | (simp -implicitDefEqProofs only [ev,mixed,Nat.reduceLT,Nat.reduceAdd,Nat.reduceMul,reduceIte,Nat.reduceEqDiff,reduceCtorEq,Nat.reducePow,Nat.reduceLeDiff,Int.reduceLE,Int.reduceLT,Int.reduceToNat,Int.reduceEq,Nat.reduceBEq,itsOf,gdA,byteI,opid,lenQ,ixQ,ldH,readAt,readCells,asCell,faQ,exQ,fldQ,partA,buildQ,slQ,stH,bslH,appH,dcells,convI,elemsOf,D.one,nilS,fillD,convN,cvH,tyWRead2]) | (with_reducible refine ⟨?_,?_⟩; (· first | (obtain ⟨rfl⟩:=‹Hq _ _›; with_reducible refine chk_ok ?_; kernel_rfl) | kernel_rfl)) | (with_reducible intro ops hops)))
      cases s with
      | nil =>
       refine Call_box (rbyte_no false) (by simp [upd,hO,lk,rdO]) rfl ?_
       (repeat (first | (simp -implicitDefEqProofs only [ev,mixed,Nat.reduceLT,Nat.reduceAdd,Nat.reduceMul,reduceIte,Nat.reduceEqDiff,reduceCtorEq,Nat.reducePow,Nat.reduceLeDiff,Int.reduceLE,Int.reduceLT,Int.reduceToNat,Int.reduceEq,Nat.reduceBEq,itsOf,gdA,byteI,opid,lenQ,ixQ,ldH,readAt,readCells,asCell,faQ,exQ,fldQ,partA,buildQ,slQ,stH,bslH,appH,dcells,convI,elemsOf,D.one,nilS,fillD,convN,cvH,tyWRead2,byteR,UInt8.toNat_zero]) | (with_reducible refine ⟨?_,?_⟩; (· first | (obtain ⟨rfl⟩:=‹Hq _ _›; with_reducible refine chk_ok ?_; kernel_rfl) | kernel_rfl)) | (with_reducible intro ops hops)))
       refine Call_box (rnumber_no [] true (by simp) (by simp) rfl) (by simp [upd,hO,lk,rdO]) rfl ?_
       (repeat (first | (simp -implicitDefEqProofs only [ev,mixed,Nat.reduceLT,Nat.reduceAdd,Nat.reduceMul,reduceIte,Nat.reduceEqDiff,reduceCtorEq,Nat.reducePow,Nat.reduceLeDiff,Int.reduceLE,Int.reduceLT,Int.reduceToNat,Int.reduceEq,Nat.reduceBEq,itsOf,gdA,byteI,opid,lenQ,ixQ,ldH,readAt,readCells,asCell,faQ,exQ,fldQ,partA,buildQ,slQ,stH,bslH,appH,dcells,convI,elemsOf,D.one,nilS,fillD,convN,cvH,tyWRead2,byteR,UInt8.toNat_zero,rdO]) | (with_reducible refine ⟨?_,?_⟩; (· first | (obtain ⟨rfl⟩:=‹Hq _ _›; with_reducible refine chk_ok ?_; kernel_rfl) | kernel_rfl)) | (with_reducible intro ops hops)))
       refine fin_tt [] rfl ?_
       have hR:readGo n r=none:=by rw [hq]; rfl
       simp [cv,cvT,cv1,cv0,upd,pairR,hR]
      | cons c s =>
       have hs':s.length≤1048576:=by simp at hs; omega
       refine Call_box (rbyte_some c s false hs') (by simp [upd,hO,lk,rdO]) rfl ?_
       have c0:(c=0)↔c.toNat=0:=by rw [← UInt8.toNat_inj]; rfl
       have c1:(c=1)↔c.toNat=1:=by rw [← UInt8.toNat_inj]; rfl
       have e3:acc.length+1≤140737488355328:=by omega
       have e3':(acc.length+1) * 40≤140737488355328:=by omega
       have w5:IntKind.u64.wrap ((i:Int)+1)=((i+1:Nat):Int):=by rw [IntKind.wrap_u64]; omega
       rw [readGo] at hq
       (repeat (first | (simp -implicitDefEqProofs only [ev,mixed,Nat.reduceLT,Nat.reduceAdd,Nat.reduceMul,reduceIte,Nat.reduceEqDiff,reduceCtorEq,Nat.reducePow,Nat.reduceLeDiff,Int.reduceLE,Int.reduceLT,Int.reduceToNat,Int.reduceEq,Nat.reduceBEq,itsOf,gdA,byteI,opid,lenQ,ixQ,ldH,readAt,readCells,asCell,faQ,exQ,fldQ,partA,buildQ,slQ,stH,bslH,appH,dcells,convI,elemsOf,D.one,nilS,fillD,convN,cvH,tyWRead2,byteR]) | (with_reducible refine ⟨?_,?_⟩; (· first | (obtain ⟨rfl⟩:=‹Hq _ _›; with_reducible refine chk_ok ?_; kernel_rfl) | kernel_rfl)) | (with_reducible intro ops hops)))
       refine Wc_split (fun h=>?_) (fun h=>?_)
       ·have h5:c=0:=by rw [c0]; simp at h; omega
        clear h
        (repeat (first | (simp -implicitDefEqProofs only [ev,mixed,Nat.reduceLT,Nat.reduceAdd,Nat.reduceMul,reduceIte,Nat.reduceEqDiff,reduceCtorEq,Nat.reducePow,Nat.reduceLeDiff,Int.reduceLE,Int.reduceLT,Int.reduceToNat,Int.reduceEq,Nat.reduceBEq,itsOf,gdA,byteI,opid,lenQ,ixQ,ldH,readAt,readCells,asCell,faQ,exQ,fldQ,partA,buildQ,slQ,stH,bslH,appH,dcells,convI,elemsOf,D.one,nilS,fillD,convN,cvH,tyWRead2]) | (with_reducible refine ⟨?_,?_⟩; (· first | (obtain ⟨rfl⟩:=‹Hq _ _›; with_reducible refine chk_ok ?_; kernel_rfl) | kernel_rfl)) | (with_reducible intro ops hops)))
        cases h6:takeN 0 0 s with
        | none =>
         refine Call_box (rnumber_no s false (by simp) hs' h6) (by simp [upd,hO,lk,rdO]) rfl ?_
         (repeat (first | (simp -implicitDefEqProofs only [ev,mixed,Nat.reduceLT,Nat.reduceAdd,Nat.reduceMul,reduceIte,Nat.reduceEqDiff,reduceCtorEq,Nat.reducePow,Nat.reduceLeDiff,Int.reduceLE,Int.reduceLT,Int.reduceToNat,Int.reduceEq,Nat.reduceBEq,itsOf,gdA,byteI,opid,lenQ,ixQ,ldH,readAt,readCells,asCell,faQ,exQ,fldQ,partA,buildQ,slQ,stH,bslH,appH,dcells,convI,elemsOf,D.one,nilS,fillD,convN,cvH,tyWRead2]) | (with_reducible refine ⟨?_,?_⟩; (· first | (obtain ⟨rfl⟩:=‹Hq _ _›; with_reducible refine chk_ok ?_; kernel_rfl) | kernel_rfl)) | (with_reducible intro ops hops)))
         have hR:readGo n r=none:=by rw [hq,h6]; rfl
         refine fin_tt [] rfl ?_
         simp [cv,cvT,cv1,cv0,upd,pairR,hR]
        | some p =>
         obtain ⟨v,s'⟩:=p
         simp only [h6,h5,if_true] at hq
         refine Call_box (rnumber_some s s' v hs' h6) (by simp [upd,hO,lk,rdO]) rfl ?_
         (repeat (first | (simp -implicitDefEqProofs only [ev,mixed,Nat.reduceLT,Nat.reduceAdd,Nat.reduceMul,reduceIte,Nat.reduceEqDiff,reduceCtorEq,Nat.reducePow,Nat.reduceLeDiff,Int.reduceLE,Int.reduceLT,Int.reduceToNat,Int.reduceEq,Nat.reduceBEq,itsOf,gdA,byteI,opid,lenQ,ixQ,ldH,readAt,readCells,asCell,faQ,exQ,fldQ,partA,buildQ,slQ,stH,bslH,appH,dcells,convI,elemsOf,D.one,nilS,fillD,convN,cvH,tyWRead2,e3,e3',uni_encP,w5]) | (with_reducible refine ⟨?_,?_⟩; (· first | (obtain ⟨rfl⟩:=‹Hq _ _›; with_reducible refine chk_ok ?_; kernel_rfl) | kernel_rfl)) | (with_reducible intro ops hops)))
         refine ⟨⟨(acc++[⟨1,v,[]⟩],i+1,s'),h4,by simp [hal],?_,?_⟩,le_stOf _ _ [] [(100,7147),(101,101)] ?_ ?_ rfl rfl,?_⟩
         ·have:=(takeN_vnum h6).1
          have h7:s'.length≤s.length:=by rw [this]; simp
          simp at hs ⊢; omega
         ·rw [hq]; simp [Option.map_map]; congr
         ·simp [cv,cv1,cv0,upd,lk,srcOf]
         ·simp [objOk,srcOf,lk,cvO,cvL,cv0,frz,upd,D.one,hO,rdO,encP,bI]
         ·simp; omega
       ·have h5:c≠0:=by rw [Ne,c0]; simp at h; omega
        clear h
        (repeat (first | (simp -implicitDefEqProofs only [ev,mixed,Nat.reduceLT,Nat.reduceAdd,Nat.reduceMul,reduceIte,Nat.reduceEqDiff,reduceCtorEq,Nat.reducePow,Nat.reduceLeDiff,Int.reduceLE,Int.reduceLT,Int.reduceToNat,Int.reduceEq,Nat.reduceBEq,itsOf,gdA,byteI,opid,lenQ,ixQ,ldH,readAt,readCells,asCell,faQ,exQ,fldQ,partA,buildQ,slQ,stH,bslH,appH,dcells,convI,elemsOf,D.one,nilS,fillD,convN,cvH,tyWRead2]) | (with_reducible refine ⟨?_,?_⟩; (· first | (obtain ⟨rfl⟩:=‹Hq _ _›; with_reducible refine chk_ok ?_; kernel_rfl) | kernel_rfl)) | (with_reducible intro ops hops)))
        refine Wc_split (fun h=>?_) (fun h=>?_)
        ·have h5':c=1:=by rw [c1]; simp at h; omega
         clear h
         (repeat (first | (simp -implicitDefEqProofs only [ev,mixed,Nat.reduceLT,Nat.reduceAdd,Nat.reduceMul,reduceIte,Nat.reduceEqDiff,reduceCtorEq,Nat.reducePow,Nat.reduceLeDiff,Int.reduceLE,Int.reduceLT,Int.reduceToNat,Int.reduceEq,Nat.reduceBEq,itsOf,gdA,byteI,opid,lenQ,ixQ,ldH,readAt,readCells,asCell,faQ,exQ,fldQ,partA,buildQ,slQ,stH,bslH,appH,dcells,convI,elemsOf,D.one,nilS,fillD,convN,cvH,tyWRead2]) | (with_reducible refine ⟨?_,?_⟩; (· first | (obtain ⟨rfl⟩:=‹Hq _ _›; with_reducible refine chk_ok ?_; kernel_rfl) | kernel_rfl)) | (with_reducible intro ops hops)))
         cases h6:takeN 0 0 s with
         | none =>
          refine Call_box (rnumber_no s false (by simp) hs' h6) (by simp [upd,hO,lk,rdO]) rfl ?_
          have hR:readGo n r=none:=by rw [hq,h6]; rfl
          have e7:((0:Int)≤((failN 0 s).length:Int))=True:=by simp
          have e8:decide (((failN 0 s).length:Int) < 0)=false:=by simp
          have e9:IntKind.u64.wrap ((failN 0 s).length:Int)=((failN 0 s).length:Int):=by
           have:∀ (i:Nat) (s:List UInt8),(failN i s).length≤s.length:=by
            intro i s
            induction s generalizing i with
            | nil=>simp [failN]
            | cons a t ih=>simp only [failN]; split <;> simp; have:=ih (i+1); omega
           have:=this 0 s
           rw [IntKind.wrap_u64]; omega
          (repeat (first | (simp -implicitDefEqProofs only [ev,mixed,Nat.reduceLT,Nat.reduceAdd,Nat.reduceMul,reduceIte,Nat.reduceEqDiff,reduceCtorEq,Nat.reducePow,Nat.reduceLeDiff,Int.reduceLE,Int.reduceLT,Int.reduceToNat,Int.reduceEq,Nat.reduceBEq,itsOf,gdA,byteI,opid,lenQ,ixQ,ldH,readAt,readCells,asCell,faQ,exQ,fldQ,partA,buildQ,slQ,stH,bslH,appH,dcells,convI,elemsOf,D.one,nilS,fillD,convN,cvH,tyWRead2,e7,e8,e9,uni_byteI]) | (with_reducible refine ⟨?_,?_⟩; (· first | (obtain ⟨rfl⟩:=‹Hq _ _›; with_reducible refine chk_ok ?_; kernel_rfl) | kernel_rfl)) | (with_reducible intro ops hops)))
          refine fin_tt [] rfl ?_
          simp [cv,cvT,cv1,cv0,upd,pairR,hR]
         | some p =>
          obtain ⟨v,s'⟩:=p
          have h7:s'.length≤s.length:=by have:=(takeN_vnum h6).1; rw [this]; simp
          simp only [h6,h5',if_true] at hq
          refine Call_box (rnumber_some s s' v hs' h6) (by simp [upd,hO,lk,rdO]) rfl ?_
          have e9:IntKind.u64.wrap (s'.length:Int)=(s'.length:Int):=by rw [IntKind.wrap_u64]; omega
          (repeat (first | (simp -implicitDefEqProofs only [ev,mixed,Nat.reduceLT,Nat.reduceAdd,Nat.reduceMul,reduceIte,Nat.reduceEqDiff,reduceCtorEq,Nat.reducePow,Nat.reduceLeDiff,Int.reduceLE,Int.reduceLT,Int.reduceToNat,Int.reduceEq,Nat.reduceBEq,itsOf,gdA,byteI,opid,lenQ,ixQ,ldH,readAt,readCells,asCell,faQ,exQ,fldQ,partA,buildQ,slQ,stH,bslH,appH,dcells,convI,elemsOf,D.one,nilS,fillD,convN,cvH,tyWRead2,e9]) | (with_reducible refine ⟨?_,?_⟩; (· first | (obtain ⟨rfl⟩:=‹Hq _ _›; with_reducible refine chk_ok ?_; kernel_rfl) | kernel_rfl)) | (with_reducible intro ops hops)))
          refine Wc_split (fun h=>?_) (fun h=>?_)
          ·have h8:s'.length < v:=by simp at h; omega
           have hR:readGo n r=none:=by rw [hq]; simp [h8]
           (repeat (first | (simp -implicitDefEqProofs only [ev,mixed,Nat.reduceLT,Nat.reduceAdd,Nat.reduceMul,reduceIte,Nat.reduceEqDiff,reduceCtorEq,Nat.reducePow,Nat.reduceLeDiff,Int.reduceLE,Int.reduceLT,Int.reduceToNat,Int.reduceEq,Nat.reduceBEq,itsOf,gdA,byteI,opid,lenQ,ixQ,ldH,readAt,readCells,asCell,faQ,exQ,fldQ,partA,buildQ,slQ,stH,bslH,appH,dcells,convI,elemsOf,D.one,nilS,fillD,convN,cvH,tyWRead2]) | (with_reducible refine ⟨?_,?_⟩; (· first | (obtain ⟨rfl⟩:=‹Hq _ _›; with_reducible refine chk_ok ?_; kernel_rfl) | kernel_rfl)) | (with_reducible intro ops hops)))
           refine fin_tt [] rfl ?_
           simp [cv,cvT,cv1,cv0,upd,pairR,hR]
          ·have h8:¬ s'.length < v:=by simp at h; omega
           rw [if_neg h8] at hq
           have e10:((v:Int)≤(s'.length:Int))=True:=by simp; omega
           have e11:(List.map byteI (List.take v s')).length=v:=by simp; omega
           have e12:v≤140737488355328:=by omega
           (repeat (first | (simp -implicitDefEqProofs only [ev,mixed,Nat.reduceLT,Nat.reduceAdd,Nat.reduceMul,reduceIte,Nat.reduceEqDiff,reduceCtorEq,Nat.reducePow,Nat.reduceLeDiff,Int.reduceLE,Int.reduceLT,Int.reduceToNat,Int.reduceEq,Nat.reduceBEq,itsOf,gdA,byteI,opid,lenQ,ixQ,ldH,readAt,readCells,asCell,faQ,exQ,fldQ,partA,buildQ,slQ,stH,bslH,appH,dcells,convI,elemsOf,D.one,nilS,fillD,convN,cvH,tyWRead2,e3,e3',uni_encP,uni_byteI,w5,e10,← List.map_take,← List.map_drop,e11,e12]) | (with_reducible refine ⟨?_,?_⟩; (· first | (obtain ⟨rfl⟩:=‹Hq _ _›; with_reducible refine chk_ok ?_; kernel_rfl) | kernel_rfl)) | (with_reducible intro ops hops)))
           refine ⟨⟨(acc++[⟨2,0,s'.take v⟩],i+1,s'.drop v),h4,by simp [hal],?_,?_⟩,le_stOf _ _ [] [(100,7147),(101,101)] ?_ ?_ rfl rfl,?_⟩
           ·simp at hs ⊢; omega
           ·rw [hq]; simp [Option.map_map]; congr
           ·simp [cv,cv1,cv0,upd,lk,srcOf]
           ·simp [objOk,srcOf,lk,cvO,cvL,cv0,frz,upd,D.one,hO,rdO,encP,bI,List.take_take]
           ·simp; omega
        ·have h5':c≠1:=by rw [Ne,c1]; simp at h; omega
         clear h
         (repeat (first | (simp -implicitDefEqProofs only [ev,mixed,Nat.reduceLT,Nat.reduceAdd,Nat.reduceMul,reduceIte,Nat.reduceEqDiff,reduceCtorEq,Nat.reducePow,Nat.reduceLeDiff,Int.reduceLE,Int.reduceLT,Int.reduceToNat,Int.reduceEq,Nat.reduceBEq,itsOf,gdA,byteI,opid,lenQ,ixQ,ldH,readAt,readCells,asCell,faQ,exQ,fldQ,partA,buildQ,slQ,stH,bslH,appH,dcells,convI,elemsOf,D.one,nilS,fillD,convN,cvH,tyWRead2]) | (with_reducible refine ⟨?_,?_⟩; (· first | (obtain ⟨rfl⟩:=‹Hq _ _›; with_reducible refine chk_ok ?_; kernel_rfl) | kernel_rfl)) | (with_reducible intro ops hops)))
         have hR:readGo n r=none:=by rw [hq]; cases takeN 0 0 s <;> simp [h5,h5']
         refine fin_tt [] rfl ?_
         simp [cv,cvT,cv1,cv0,upd,pairR,hR]
     ·have h4:i=n:=by simp at h; omega
      subst h4
      (repeat (first | (simp -implicitDefEqProofs only [ev,mixed,Nat.reduceLT,Nat.reduceAdd,Nat.reduceMul,reduceIte,Nat.reduceEqDiff,reduceCtorEq,Nat.reducePow,Nat.reduceLeDiff,Int.reduceLE,Int.reduceLT,Int.reduceToNat,Int.reduceEq,Nat.reduceBEq,itsOf,gdA,byteI,opid,lenQ,ixQ,ldH,readAt,readCells,asCell,faQ,exQ,fldQ,partA,buildQ,slQ,stH,bslH,appH,dcells,convI,elemsOf,D.one,nilS,fillD,convN,cvH,tyWRead2]) | (with_reducible refine ⟨?_,?_⟩; (· first | (obtain ⟨rfl⟩:=‹Hq _ _›; with_reducible refine chk_ok ?_; kernel_rfl) | kernel_rfl)) | (with_reducible intro ops hops)))
      have hz:i - i=0:=by omega
      rw [hz,readGo] at hq
      refine Wc_split (fun h=>?_) (fun h=>?_)
      ·have hR:readGo i r=none:=by rw [hq,if_neg (by rintro rfl; simp at h)]; rfl
       (repeat (first | (simp -implicitDefEqProofs only [ev,mixed,Nat.reduceLT,Nat.reduceAdd,Nat.reduceMul,reduceIte,Nat.reduceEqDiff,reduceCtorEq,Nat.reducePow,Nat.reduceLeDiff,Int.reduceLE,Int.reduceLT,Int.reduceToNat,Int.reduceEq,Nat.reduceBEq,itsOf,gdA,byteI,opid,lenQ,ixQ,ldH,readAt,readCells,asCell,faQ,exQ,fldQ,partA,buildQ,slQ,stH,bslH,appH,dcells,convI,elemsOf,D.one,nilS,fillD,convN,cvH,tyWRead2]) | (with_reducible refine ⟨?_,?_⟩; (· first | (obtain ⟨rfl⟩:=‹Hq _ _›; with_reducible refine chk_ok ?_; kernel_rfl) | kernel_rfl)) | (with_reducible intro ops hops)))
       refine fin_tt [] rfl ?_
       simp [cv,cvT,cv1,cv0,upd,pairR,hR]
      ·have hR:readGo i r=some acc:=by rw [hq,if_pos (by cases s <;> simp at h ⊢)]; simp
       (repeat (first | (simp -implicitDefEqProofs only [ev,mixed,Nat.reduceLT,Nat.reduceAdd,Nat.reduceMul,reduceIte,Nat.reduceEqDiff,reduceCtorEq,Nat.reducePow,Nat.reduceLeDiff,Int.reduceLE,Int.reduceLT,Int.reduceToNat,Int.reduceEq,Nat.reduceBEq,itsOf,gdA,byteI,opid,lenQ,ixQ,ldH,readAt,readCells,asCell,faQ,exQ,fldQ,partA,buildQ,slQ,stH,bslH,appH,dcells,convI,elemsOf,D.one,nilS,fillD,convN,cvH,tyWRead2]) | (with_reducible refine ⟨?_,?_⟩; (· first | (obtain ⟨rfl⟩:=‹Hq _ _›; with_reducible refine chk_ok ?_; kernel_rfl) | kernel_rfl)) | (with_reducible intro ops hops)))
       refine fin_tt [100] rfl ?_
       simp [cv,cvT,cv1,cv0,upd,pairR,hR,hO,lk,elemsOf,List.take_of_length_le]
end Go.Proofs.YtckjpabekmhnhaaDoor
