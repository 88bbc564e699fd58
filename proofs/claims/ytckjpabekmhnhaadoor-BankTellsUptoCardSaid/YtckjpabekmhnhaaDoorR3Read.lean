/- Walks of landref3.Take, Read and Same. -/
import Derived.Test.YtckjpabekmhnhaaDoorR3Write
import Derived.Test.YtckjpabekmhnhaaDoorR1Same
import Derived.Test.YtckjpabekmhnhaaDoorWRead
set_option linter.all false
namespace Go.Proofs.YtckjpabekmhnhaaDoor
open Go Go.Abs Go.RowKit Go.Proofs.YtckjpabekmhnhaaDoor.Ty
theorem tyR3Read0:(type_of% @Ty.T3)∧(type_of% @Ty.T5)∧(type_of% @Ty.T23)∧(type_of% @Ty.T39):=⟨@Ty.T3,@Ty.T5,@Ty.T23,@Ty.T39⟩
def takeR (b:List UInt8):Option (Nat × List UInt8)→D
 | none=>.tup [.i (.s (.int .u64 0)),.i (.s (.int .i64 0))]
 | some (v,r)=>.tup [.i (.s (.int .u64 (v:Nat))),.i (.s (.int .i64 ((b.length - r.length:Nat):Int)))]
set_option maxHeartbeats 2000000
theorem take3_A (b:List UInt8) (hb:b.length≤1048576):PureD Tryd.prog 65 [.i (bI b)] (takeR b (takeN 0 0 b)):=by
 generalize hq:takeN 0 0 b=q
 refine callD_W 57 Tryd.func65 rfl rfl rfl (fun o ho=>rfl) ?_
 (repeat (first | (simp -implicitDefEqProofs only [ev,mixed,Nat.reduceLT,Nat.reduceAdd,Nat.reduceMul,reduceIte,Nat.reduceEqDiff,reduceCtorEq,Nat.reducePow,Nat.reduceLeDiff,Int.reduceLE,Int.reduceLT,Int.reduceToNat,Int.reduceEq,Nat.reduceBEq,itsOf,gdA,byteI,opid,lenQ,ixQ,ldH,readAt,readCells,asCell,faQ,exQ,fldQ,partA,buildQ,slQ,stH,bslH,appH,dcells,convI,elemsOf,D.one,nilS,fillD,convN,cvH,tyR3Read0,bI]) | (with_reducible refine ⟨?_,?_⟩; (· first | (obtain ⟨rfl⟩:=‹Hq _ _›; with_reducible refine chk_ok ?_; kernel_rfl) | kernel_rfl)) | (with_reducible intro ops hops)))
 refine W_loopI (ι:=Nat × Nat) (fun p=>p.1≤9∧p.1≤b.length∧takeN p.1 p.2 (b.drop p.1)=q∧p.2 < 128 ^ p.1)
  (fun p=>stOf [(0,.i (.sl (b.map byteI))),(4,.i (.s (.int .u64 (p.2:Nat)))),(5,.i (.s (.int .u64 ((128 ^ p.1:Nat):Int)))),(6,.i (.s (.int .i64 (p.1:Nat))))] []) (fun p=>b.length - p.1) (0,0) ⟨by simp,by simp,by simpa using hq,by simp⟩ ?_ ?_
 ·refine le_stOf _ _ [] [] ?_ ?_ rfl rfl
  ·simp [cv,cv1,cv0,upd,lk,srcOf]
  ·simp
 ·rintro ⟨i,a⟩ ⟨hi,hl,hk,ha⟩
  simp only at hi hl hk ha
  rw [stOf_eq]
  have hi10:decide ((i:Int) < 10)=true:=by simp; omega
  cases hd:b.drop i with
  | nil =>
   have hib:i=b.length:=by have:=congrArg List.length hd; simp at this; omega
   have g1:decide ((i:Int) < (b.length:Int))=false:=by simp; omega
   (repeat (first | (simp -implicitDefEqProofs only [ev,mixed,Nat.reduceLT,Nat.reduceAdd,Nat.reduceMul,reduceIte,Nat.reduceEqDiff,reduceCtorEq,Nat.reducePow,Nat.reduceLeDiff,Int.reduceLE,Int.reduceLT,Int.reduceToNat,Int.reduceEq,Nat.reduceBEq,itsOf,gdA,byteI,opid,lenQ,ixQ,ldH,readAt,readCells,asCell,faQ,exQ,fldQ,partA,buildQ,slQ,stH,bslH,appH,dcells,convI,elemsOf,D.one,nilS,fillD,convN,cvH,tyR3Read0,hi10,g1]) | (with_reducible refine ⟨?_,?_⟩; (· first | (obtain ⟨rfl⟩:=‹Hq _ _›; with_reducible refine chk_ok ?_; kernel_rfl) | kernel_rfl)) | (with_reducible intro ops hops)))
   rw [hd,takeN] at hk
   subst hk
   refine fin_tt [] rfl ?_
   simp [cv,cvT,cv1,cv0,upd,takeR]
  | cons c s =>
   have hlt:i < b.length:=by have:=congrArg List.length hd; simp at this; omega
   have g1:decide ((i:Int) < (b.length:Int))=true:=by simp; omega
   have hcb:b[i]?=some c:=by have:=congrArg (·[0]?) hd; simpa using this
   have hsd:s=b.drop (i+1):=by have:=congrArg (List.drop 1) hd; simpa [Nat.add_comm] using this.symm
   have hx:(b.map byteI)[i]?=some [.s (.int .u8 (c.toNat:Int))]:=by simp [hcb,byteI]
   have hc:=c.toNat_lt
   have c0:(c=0)↔c.toNat=0:=by rw [← UInt8.toNat_inj]; rfl
   rw [hd,takeN] at hk
   split at hk
   ·rename_i hyes
    subst hk
    cases g3:decide (((i:Nat):Int)=9) <;> cases g4:decide (1 < (c.toNat:Int)) <;> cases g5:decide (0 < ((i:Nat):Int)) <;> cases g2:decide ((c.toNat:Int)=0) <;>
     first
     | (exfalso; simp only [decide_eq_true_eq,decide_eq_false_iff_not] at g5 g2 g3 g4; rw [c0] at hyes; omega)
     | skip
    all_goals
     (repeat (first | (simp -implicitDefEqProofs only [ev,mixed,Nat.reduceLT,Nat.reduceAdd,Nat.reduceMul,reduceIte,Nat.reduceEqDiff,reduceCtorEq,Nat.reducePow,Nat.reduceLeDiff,Int.reduceLE,Int.reduceLT,Int.reduceToNat,Int.reduceEq,Nat.reduceBEq,itsOf,gdA,byteI,opid,lenQ,ixQ,ldH,readAt,readCells,asCell,faQ,exQ,fldQ,partA,buildQ,slQ,stH,bslH,appH,dcells,convI,elemsOf,D.one,nilS,fillD,convN,cvH,tyR3Read0,hi10,g1,hx,g2,g3,g4,g5]) | (with_reducible refine ⟨?_,?_⟩; (· first | (obtain ⟨rfl⟩:=‹Hq _ _›; with_reducible refine chk_ok ?_; kernel_rfl) | kernel_rfl)) | (with_reducible intro ops hops)))
     refine fin_tt [] rfl ?_
     simp [cv,cvT,cv1,cv0,upd,takeR]
   ·rename_i hno
    have hcle:i=9→c.toNat≤1:=by rintro rfl; simp at hno; omega
    obtain ⟨w1,w2,w3,w4⟩:=rn_facts c i a ha hi hcle
    have v1:IntKind.u8.wrap ((c.toNat:Int).tmod 128)=((c.toNat % 128:Nat):Int):=by
     rw [IntKind.wrap_u8,Int.tmod_eq_emod_of_nonneg (by omega)]; omega
    have v1':(c.toNat:Int).tmod 128=((c.toNat % 128:Nat):Int):=by
     rw [Int.tmod_eq_emod_of_nonneg (by omega)]; omega
    have hp9:(128:Nat) ^ 9=9223372036854775808:=by decide
    have hple:=Nat.pow_le_pow_right (show 1≤128 by decide) hi
    have hm:c.toNat % 128 * 128 ^ i < 9223372036854775808 * 2∧a+c.toNat % 128 * 128 ^ i < 18446744073709551616:=by
     by_cases e9:i=9
     ·have h1:c.toNat % 128≤1:=by have:=hcle e9; omega
      have:=Nat.mul_le_mul_right (128 ^ i) h1
      omega
     ·have:=Nat.mul_le_mul_right (128 ^ i) (show c.toNat % 128≤127 by omega)
      have:=Nat.pow_le_pow_right (show 1≤128 by decide) (show i≤8 by omega)
      have:(128:Nat) ^ 8=72057594037927936:=by decide
      omega
    have v2:IntKind.u64.wrap (((c.toNat % 128:Nat):Int) * ((128 ^ i:Nat):Int))=((c.toNat % 128 * 128 ^ i:Nat):Int):=by
     rw [IntKind.wrap_u64,← Int.natCast_mul]; omega
    have v3:IntKind.u64.wrap ((a:Int)+((c.toNat % 128 * 128 ^ i:Nat):Int))=((a+c.toNat % 128 * 128 ^ i:Nat):Int):=by
     rw [IntKind.wrap_u64]; omega
    have v5:IntKind.i64.wrap ((i:Int)+1)=((i+1:Nat):Int):=by rw [wrap64 (by omega) (by omega)]; omega
    cases g3:decide (((i:Nat):Int)=9) <;> cases g4:decide (1 < (c.toNat:Int)) <;> cases g5:decide (0 < ((i:Nat):Int)) <;> cases g2:decide ((c.toNat:Int)=0) <;>
     first
     | (exfalso; simp only [decide_eq_true_eq,decide_eq_false_iff_not] at g5 g2 g3 g4; rw [c0] at hno; omega)
     | skip
    all_goals
     by_cases h5:c.toNat < 128
     ·have g6:decide ((c.toNat:Int) < 128)=true:=by simp; omega
      rw [if_pos h5] at hk
      subst hk
      simp only [bI]
      generalize hE:((128 ^ i:Nat):Int)=E at v2
      (repeat (first | (simp -implicitDefEqProofs only [ev,mixed,Nat.reduceLT,Nat.reduceAdd,Nat.reduceMul,reduceIte,Nat.reduceEqDiff,reduceCtorEq,Nat.reducePow,Nat.reduceLeDiff,Int.reduceLE,Int.reduceLT,Int.reduceToNat,Int.reduceEq,Nat.reduceBEq,itsOf,gdA,byteI,opid,lenQ,ixQ,ldH,readAt,readCells,asCell,faQ,exQ,fldQ,partA,buildQ,slQ,stH,bslH,appH,dcells,convI,elemsOf,D.one,nilS,fillD,convN,cvH,tyR3Read0,hi10,g1,hx,g2,g3,g4,g5,g6,v1,v1',w2,v2,v3,v5,hE]) | (with_reducible refine ⟨?_,?_⟩; (· first | (obtain ⟨rfl⟩:=‹Hq _ _›; with_reducible refine chk_ok ?_; kernel_rfl) | kernel_rfl)) | (with_reducible intro ops hops)))
      refine fin_tt [] rfl ?_
      have:b.length - s.length=i+1:=by rw [hsd]; simp; omega
      simp [cv,cvT,cv1,cv0,upd,takeR,this,Nat.mod_eq_of_lt h5]
     ·have g6:decide ((c.toNat:Int) < 128)=false:=by simp; omega
      rw [if_neg h5] at hk
      have h9:i≠9:=by intro h; have:=hcle h; omega
      have h6:c.toNat % 128=c.toNat - 128:=by omega
      rw [← h6] at hk
      have v6:IntKind.u64.wrap (((128 ^ i:Nat):Int) * 128)=((128 ^ (i+1):Nat):Int):=by
       have:=Nat.pow_le_pow_right (show 1≤128 by decide) (show i≤8 by omega)
       have:(128:Nat) ^ 8=72057594037927936:=by decide
       rw [IntKind.wrap_u64,Nat.pow_succ]; omega
      generalize hE:((128 ^ i:Nat):Int)=E at v2 v6
      generalize hE':((128 ^ (i+1):Nat):Int)=E' at v6
      (repeat (first | (simp -implicitDefEqProofs only [ev,mixed,Nat.reduceLT,Nat.reduceAdd,Nat.reduceMul,reduceIte,Nat.reduceEqDiff,reduceCtorEq,Nat.reducePow,Nat.reduceLeDiff,Int.reduceLE,Int.reduceLT,Int.reduceToNat,Int.reduceEq,Nat.reduceBEq,itsOf,gdA,byteI,opid,lenQ,ixQ,ldH,readAt,readCells,asCell,faQ,exQ,fldQ,partA,buildQ,slQ,stH,bslH,appH,dcells,convI,elemsOf,D.one,nilS,fillD,convN,cvH,tyR3Read0,hi10,g1,hx,g2,g3,g4,g5,g6,v1,v1',w2,v2,v3,v5,v6,hE]) | (with_reducible refine ⟨?_,?_⟩; (· first | (obtain ⟨rfl⟩:=‹Hq _ _›; with_reducible refine chk_ok ?_; kernel_rfl) | kernel_rfl)) | (with_reducible intro ops hops)))
      refine ⟨(i+1,a+c.toNat % 128 * 128 ^ i),⟨by simp; omega,by simp; omega,by simpa [← hsd] using hk,?_⟩,le_stOf _ _ [] [] ?_ ?_ rfl rfl,?_⟩
      ·simp only [Nat.pow_succ]
       have:=Nat.mul_le_mul_right (128 ^ i) (show c.toNat % 128≤127 by omega)
       omega
      ·simp [cv,cv1,cv0,upd,lk,srcOf,← hE']
      ·simp
      ·simp; omega
end Go.Proofs.YtckjpabekmhnhaaDoor
