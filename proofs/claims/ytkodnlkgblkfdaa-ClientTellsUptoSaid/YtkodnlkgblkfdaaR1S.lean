/- The document's digest and ours: plain laws. -/
import Derived.Test.YtkodnlkgblkfdaaR1A
import Derived.Test.YtkodnlkgblkfdaaGDiv
set_option linter.all false
namespace Go.Proofs.Ytkodnlkgblkfdaa
open Go Go.Abs Go.RowKit Go.Proofs.Ytkodnlkgblkfdaa.Ty
theorem tyR1S0:(type_of% @Ty.T3)∧(type_of% @Ty.T112):=⟨@Ty.T3,@Ty.T112⟩
@[irreducible] def PR:List Nat:=primesTo 312
theorem PR_eq:primesTo 312=PR:=by unfold PR; rfl
theorem PR_len:PR.length=64:=by rw [← PR_eq]; exact primes_312
theorem PR_lt:∀ p∈PR,p < 18446744073709551616:=fun p h=>by rw [← PR_eq] at h; have:=(primes_pos 312 p h).2; omega
set_option maxRecDepth 100000 in
theorem KS_root:PR.map (fun p=>prF p false)=KS:=by decide +kernel
set_option maxRecDepth 100000 in
theorem V0_root:(PR.take 8).map (fun p=>prF p true)=V0.list:=by decide +kernel
theorem or_add {a b:Nat} (k:Nat) (h:b < 2 ^ k):(a * 2 ^ k) ||| b=a * 2 ^ k+b:=by
 rw [Nat.mul_comm,Nat.two_pow_add_eq_or_of_lt h]
theorem wordAt_hor (l:List UInt8) (i:Nat):wordAt l i=hor l i 4:=by
 have h0:=bnth_lt l i; have h1:=bnth_lt l (i+1); have h2:=bnth_lt l (i+2); have h3:=bnth_lt l (i+3)
 simp only [wordAt,hor,Nat.add_zero]
 generalize bnth l i=a at *
 generalize bnth l (i+1)=b at *
 generalize bnth l (i+2)=c at *
 generalize bnth l (i+3)=d at *
 have e0:wshl a 16777216=a * 2 ^ 24:=by unfold wshl; omega
 have e1:wshl b 65536=b * 2 ^ 16:=by unfold wshl; omega
 have e2:wshl c 256=c * 2 ^ 8:=by unfold wshl; omega
 rw [e0,e1,e2]
 have w:∀ x y,x < 4294967296→y < 4294967296→wor x y=x ||| y:=fun x y hx hy=>by
  unfold wor; rw [Nat.mod_eq_of_lt hx,Nat.mod_eq_of_lt hy]
 have s1:wor (a * 2 ^ 24) (b * 2 ^ 16)=(a * 2 ^ 8+b) * 2 ^ 16:=by
  rw [w _ _ (by omega) (by omega),or_add 24 (by omega)]; omega
 have s2:wor ((a * 2 ^ 8+b) * 2 ^ 16) (c * 2 ^ 8)=((a * 2 ^ 8+b) * 2 ^ 8+c) * 2 ^ 8:=by
  rw [w _ _ (by omega) (by omega),or_add 16 (by omega)]; omega
 rw [s1,s2,w _ _ (by omega) (by omega),or_add 8 (by omega)]
 omega
def wandn (a b:Nat):Nat:=wand a (wnot b)
theorem wand_comm (a b:Nat):wand a b=wand b a:=Nat.and_comm _ _
theorem wxor_comm (a b:Nat):wxor a b=wxor b a:=Nat.xor_comm _ _
theorem wor_comm (a b:Nat):wor a b=wor b a:=Nat.or_comm _ _
theorem tb_not (a i:Nat):(wnot a).testBit i=(decide (i < 32) && !(a % 4294967296).testBit i):=by
 unfold wnot
 rw [show 4294967295=2 ^ 32 - 1 from rfl,Nat.testBit_xor,Nat.testBit_two_pow_sub_one]
 by_cases h:i < 32
 ·simp [h]
 ·have:(a % 4294967296).testBit i=false:=Nat.testBit_lt_two_pow (Nat.lt_of_lt_of_le (Nat.mod_lt _ (by decide)) (show 2 ^ 32≤2 ^ i from Nat.pow_le_pow_right (by decide) (by omega)))
  simp [h,this]
theorem wand_mod (a b:Nat):wand a b % 4294967296=wand a b:=Nat.mod_eq_of_lt (wand_lt a b)
theorem wnot_lt (a:Nat):wnot a < 4294967296:=Nat.xor_lt_two_pow (n:=32) (by decide) (Nat.mod_lt _ (by decide))
theorem wnot_mod (a:Nat):wnot a % 4294967296=wnot a:=Nat.mod_eq_of_lt (wnot_lt a)
theorem wxor_mod (a b:Nat):wxor a b % 4294967296=wxor a b:=Nat.mod_eq_of_lt (wxor_lt a b)
theorem wor_mod (a b:Nat):wor a b % 4294967296=wor a b:=Nat.mod_eq_of_lt (wor_lt a b)
theorem choose_eq (e f g:Nat):wor (wand f e) (wandn g e)=wxor (wand e f) (wand (wnot e) g):=by
 apply Nat.eq_of_testBit_eq
 intro i
 simp only [wor,wxor,wandn,Nat.testBit_or,Nat.testBit_xor,wand_mod]
 simp only [wand,Nat.testBit_and,wnot_mod,tb_not]
 cases (e % 4294967296).testBit i <;> cases (f % 4294967296).testBit i <;> cases (g % 4294967296).testBit i <;> cases decide (i < 32) <;> rfl
theorem most_eq (a b c:Nat):wor (wor (wand a b) (wand a c)) (wand b c)=wxor (wxor (wand a b) (wand a c)) (wand b c):=by
 apply Nat.eq_of_testBit_eq
 intro i
 have e1:(wor (wand a b) (wand a c)) % 4294967296=wor (wand a b) (wand a c):=wor_mod _ _
 have e2:(wxor (wand a b) (wand a c)) % 4294967296=wxor (wand a b) (wand a c):=wxor_mod _ _
 rw [show wor (wor (wand a b) (wand a c)) (wand b c)=((wor (wand a b) (wand a c)) % 4294967296) ||| (wand b c % 4294967296) from rfl,show wxor (wxor (wand a b) (wand a c)) (wand b c)=((wxor (wand a b) (wand a c)) % 4294967296) ^^^ (wand b c % 4294967296) from rfl,e1,e2]
 simp only [wor,wxor,Nat.testBit_or,Nat.testBit_xor,wand_mod]
 simp only [wand,Nat.testBit_and]
 cases (a % 4294967296).testBit i <;> cases (b % 4294967296).testBit i <;> cases (c % 4294967296).testBit i <;> rfl
theorem wadd_comm (a b:Nat):wadd a b=wadd b a:=by unfold wadd; rw [Nat.add_comm]
theorem next_eq (x y z t:Nat):wadd (wadd (wadd x y) z) t=wadd (wadd (wadd x z) y) t:=by unfold wadd; omega
theorem ran (a b:Nat):bits .andNot .u32 (a:Int) (b:Int)=((wandn a b:Nat):Int):=by
 have e:IntKind.u32.bits=32:=rfl
 simp only [bits,BitVec.ofInt_natCast]
 rw [← BitVec.xor_allOnes]
 simp only [BitVec.toNat_and,BitVec.toNat_xor,BitVec.toNat_allOnes,BitVec.toNat_ofNat,e,IntKind.wrap_u32]
 have hlt:(a % 2 ^ 32) &&& ((b % 2 ^ 32) ^^^ (2 ^ 32 - 1)) < 4294967296:=Nat.and_lt_two_pow _ (n:=32) (Nat.xor_lt_two_pow (n:=32) (Nat.mod_lt _ (by decide)) (by decide))
 have hw:wandn a b=(a % 2 ^ 32) &&& ((b % 2 ^ 32) ^^^ (2 ^ 32 - 1)):=by
  unfold wandn wand
  rw [wnot_mod]
  unfold wnot
  rw [Nat.xor_comm]
 rw [hw]; omega
theorem bq_andNot {P:Program} {t:TypeId} {x y:Operand} {k:IntKind} {a b:Int}:binQ P .andNot t x y (some (.int k a)) (some (.int k b))=some (.i (.s (.int k (bits .andNot k a b)))):=by
 simp [binQ,eqGuard,Go.binOp,Op.intBits,pv,pure,bind,Sem.bind,bits,ofV]
theorem sh_mul32 (x n:Nat) (hn:n≤32):IntKind.u32.wrap ((x:Int) * 2 ^ (min n (IntKind.bits .u32)))=((wshl x (2 ^ n):Nat):Int):=by
 have hb:IntKind.bits .u32=32:=rfl
 have e:((2:Int) ^ n)=((2 ^ n:Nat):Int):=by simp
 rw [show min n (IntKind.bits .u32)=n by omega,e,IntKind.wrap_u32,← Int.natCast_mul]
 unfold wshl; omega
set_option maxHeartbeats 1000000
theorem turn_A (x n:Nat) (h1:1≤n) (h2:n≤31) :
  PureD Try.prog 75 [.i (.s (.int .u32 (x:Int))),.i (.s (.int .i64 (n:Int)))] (.i (.s (.int .u32 ((wrot x n:Nat):Int)))):=by
 have w1:IntKind.i64.wrap (32 - (n:Int))=((32 - n:Nat):Int):=by rw [wrap64 (by omega) (by omega)]; omega
 have w2:=sh_fdiv x n .u32 (by simp [IntKind.bits]; omega)
 have w3:=sh_mul32 x (32 - n) (by omega)
 have w4:bits .or .u32 ((x / 2 ^ n:Nat):Int) ((wshl x (2 ^ (32 - n)):Nat):Int)=((wrot x n:Nat):Int):=by
  rw [ro,wrot,wor_comm]; rfl
 generalize 32 - n=m at w1 w3 w4
 generalize 2 ^ n=E at w2 w4
 generalize 2 ^ m=E' at w3 w4
 refine callD_W 13 Try.func75 rfl rfl rfl (fun _ _=>rfl) ?_
 (repeat (first | (simp -implicitDefEqProofs only [ev,mixed,Nat.reduceLT,Nat.reduceAdd,Nat.reduceMul,reduceIte,Nat.reduceEqDiff,reduceCtorEq,Nat.reducePow,Nat.reduceLeDiff,Int.reduceLE,Int.reduceLT,Int.reduceToNat,Int.reduceEq,Nat.reduceBEq,itsOf,gdA,byteI,opid,lenQ,ixQ,ldH,readAt,readCells,asCell,faQ,exQ,fldQ,partA,buildQ,slQ,stH,bslH,appH,dcells,convI,elemsOf,D.one,nilS,fillD,convN,cvH,tyR1S0,w1,w2,w3,w4]) | (with_reducible refine ⟨?_,?_⟩; (· first | (obtain ⟨rfl⟩:=‹Hq _ _›; with_reducible refine chk_ok ?_; kernel_rfl) | kernel_rfl)) | (with_reducible intro ops hops)))
 refine fin_ret [] rfl ?_
 simp [cv,cv1,cv0,upd]
end Go.Proofs.Ytkodnlkgblkfdaa
