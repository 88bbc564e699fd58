/- Merged texts: SealA, SealB, SealC, SealP. -/
import Derived.Test.YtmclpbcipkdmcaaGreatDoorGDiv
import Derived.Test.YtmclpbcipkdmcaaGreatDoorGSha
set_option linter.all false
namespace Go.Proofs.YtmclpbcipkdmcaaGreatDoor
open Go Go.Abs Go.RowKit Go.Proofs.YtmclpbcipkdmcaaGreatDoor.Ty
def u64D (n:Nat):D:=.i (.s (.int .u64 (n:Int)))
theorem mod_lt64 {n m:Nat} (h:m < 18446744073709551616) (h0:0 < m):n % m < 18446744073709551616:=Nat.lt_trans (Nat.mod_lt _ h0) h
set_option maxHeartbeats 2000000
theorem bit0 (e:Nat) (he:e < 18446744073709551616):bits .and .u64 (e:Int) 1=((e % 2:Nat):Int):=by
 have:=(bits_nat .u64 64 (by decide) (fun n g0 g1=>by rw [IntKind.wrap_u64]; omega) e 1 he (by decide)).1
 rw [show ((1:Nat):Int)=1 from rfl] at this
 rw [this,show (1:Nat)=2 ^ 1 - 1 from rfl,Nat.and_two_pow_sub_one_eq_mod]
theorem pow_step (r b e m:Nat):(r * b ^ e) % m=((if e % 2=1 then r * b % m else r) * (b * b % m) ^ (e / 2)) % m:=by
 have he:b ^ e=b ^ (e % 2) * (b * b) ^ (e / 2):=by
  conv=>lhs; rw [← Nat.div_add_mod e 2,Nat.pow_add,Nat.pow_mul,Nat.pow_two]
  exact Nat.mul_comm _ _
 rw [he,← Nat.mul_assoc]
 have h2:(b * b % m) ^ (e / 2) % m=(b * b) ^ (e / 2) % m:=(Nat.pow_mod (b * b) (e / 2) m).symm
 split
 ·rename_i h1
  rw [h1,Nat.pow_one,Nat.mul_mod,← h2,← Nat.mul_mod,Nat.mul_mod (r * b % m),Nat.mod_mod,← Nat.mul_mod]
 ·rename_i h1
  have h0:e % 2=0:=by omega
  rw [h0,Nat.pow_zero,Nat.mul_one,Nat.mul_mod,← h2,← Nat.mul_mod]
def numF (d:List UInt8):Nat:=hor d 0 8
theorem numF_lt (d:List UInt8):numF d < 18446744073709551616:=hor_lt d 0 8
end Go.Proofs.YtmclpbcipkdmcaaGreatDoor
set_option linter.all false
namespace Go.Proofs.YtmclpbcipkdmcaaGreatDoor
open Go Go.Abs Go.RowKit Go.Proofs.YtmclpbcipkdmcaaGreatDoor.Ty
def qN:Nat:=576460752303424853
def pN:Nat:=1152921504606849707
def keyB:List UInt8:=[107,101,121]
def onceB:List UInt8:=[111,110,99,101]
def secretF (seed:List UInt8):Nat:=numF (sha (keyB++seed)) % (qN - 1)+1
def askF (r key:Nat) (m:List UInt8):Nat:=numF (sha (be64 r++(be64 key++m))) % qN
def keyF (seed:List UInt8):Nat:=4 ^ secretF seed % pN
def onceF (seed m:List UInt8):Nat:=numF (sha (onceB++(be64 (secretF seed)++m))) % (qN - 1)+1
def sigR (seed m:List UInt8):Nat:=4 ^ onceF seed m % pN
def sigS (seed m:List UInt8):Nat:=(onceF seed m+askF (sigR seed m) (keyF seed) m * secretF seed % qN) % qN
def goodF (key:Nat) (m:List UInt8) (r s:Nat):Bool :=
 decide (1≤key∧key < pN∧1≤r∧r < pN∧s < qN∧key ^ qN % pN=1) && decide (4 ^ s % pN=r * (key ^ askF r key m % pN) % pN)
theorem be64_len (n:Nat):(be64 n).length=8:=rfl
theorem tmodN (a b:Nat):(a:Int).tmod (b:Int)=((a % b:Nat):Int):=by rw [Int.tmod_eq_emod_of_nonneg (by omega)]; exact (Int.natCast_emod _ _).symm
theorem secret_lt (seed:List UInt8):1≤secretF seed∧secretF seed < qN:=by
 have:=Nat.mod_lt (numF (sha (keyB++seed))) (show 0 < qN - 1 by decide)
 simp only [secretF,qN] at *; omega
set_option maxHeartbeats 2000000
end Go.Proofs.YtmclpbcipkdmcaaGreatDoor
set_option linter.all false
namespace Go.Proofs.YtmclpbcipkdmcaaGreatDoor
open Go Go.Abs Go.RowKit Go.Proofs.YtmclpbcipkdmcaaGreatDoor.Ty
def sealD (r s:Nat):D:=.agg [u64D r,u64D s]
theorem pow_lt (b e:Nat):b ^ e % pN < pN:=Nat.mod_lt _ (by decide)
set_option maxHeartbeats 2000000
end Go.Proofs.YtmclpbcipkdmcaaGreatDoor
set_option linter.all false
namespace Go.Proofs.YtmclpbcipkdmcaaGreatDoor
open Go Go.Abs Go.RowKit Go.Proofs.YtmclpbcipkdmcaaGreatDoor.Ty
def fpow:Nat→Nat→Nat→Nat→Nat→Nat
 | 0,r,_,_,m=>r % m
 | f+1,r,b,e,m=>fpow f (if e % 2=1 then r * b % m else r) (b * b % m) (e / 2) m
theorem fpow_eq:∀ (f r b e m:Nat),e < 2 ^ f→fpow f r b e m=r * b ^ e % m
 | 0,r,b,e,m,h=>by
  have:e=0:=by simpa using h
  subst this; simp [fpow]
 | f+1,r,b,e,m,h=>by
  rw [fpow,fpow_eq f _ _ _ _ (by rw [Nat.pow_succ] at h; omega),← pow_step]
theorem fpow_one {b e m:Nat} (h:e < 2 ^ 60):b ^ e % m=fpow 60 1 b e m:=by rw [fpow_eq 60 1 b e m h,Nat.one_mul]
theorem base_q:4 ^ qN % pN=1:=by
 rw [fpow_one (by decide)]; decide +kernel
theorem pow_q (a:Nat):(4 ^ a) ^ qN % pN=1:=by
 rw [← Nat.pow_mul,Nat.mul_comm,Nat.pow_mul,Nat.pow_mod,base_q,Nat.one_pow]; decide
theorem per (n:Nat):4 ^ n % pN=4 ^ (n % qN) % pN:=by
 conv=>lhs; rw [← Nat.div_add_mod n qN,Nat.pow_add,Nat.pow_mul,Nat.mul_mod,Nat.pow_mod,base_q,Nat.one_pow]
 rw [show 1 % pN=1 by decide,Nat.one_mul,Nat.mod_mod]
theorem pow_pos' {x:Nat} (h:x≤qN):1≤4 ^ x % pN:=by
 rcases Nat.eq_zero_or_pos (4 ^ x % pN) with h0 | h0
 ·exfalso
  have:=base_q
  rw [show qN=x+(qN - x) by omega,Nat.pow_add,Nat.mul_mod,h0,Nat.zero_mul] at this
  simp at this
 ·exact h0
theorem once_le (seed m:List UInt8):onceF seed m≤qN:=by
 have:=Nat.mod_lt (numF (sha (onceB++(be64 (secretF seed)++m)))) (show 0 < qN - 1 by decide)
 simp only [onceF,qN] at *; omega
@[irreducible] def qI:Nat:=qN
theorem qI_eq:qN=qI:=by unfold qI; rfl
theorem sg1 (a:Nat):(4 ^ a % pN) ^ qI % pN=1:=by
 have h:=pow_q a
 rw [qI_eq] at h
 rw [← Nat.pow_mod]; exact h
theorem sg2 (X K E:Nat):4 ^ ((K+E * X % qN) % qN) % pN=(4 ^ K % pN) * ((4 ^ X % pN) ^ E % pN) % pN:=by
 rw [← Nat.pow_mod,← Nat.pow_mul,← Nat.mul_mod,← Nat.pow_add,Nat.add_mod_mod,← per,Nat.mul_comm E X]
theorem good_of {key:Nat} {m:List UInt8} {r s:Nat} (h1:1≤key) (h2:key < pN) (h3:1≤r) (h4:r < pN) (h5:s < qN) (h6:key ^ qI % pN=1) (h7:4 ^ s % pN=r * (key ^ askF r key m % pN) % pN):goodF key m r s=true:=by
 unfold goodF
 rw [← qI_eq] at h6
 rw [Bool.and_eq_true]
 exact ⟨decide_eq_true ⟨h1,h2,h3,h4,h5,h6⟩,decide_eq_true h7⟩
theorem seal_good (seed m:List UInt8):goodF (keyF seed) m (sigR seed m) (sigS seed m)=true :=
 good_of (pow_pos' (Nat.le_of_lt (secret_lt seed).2)) (pow_lt _ _) (pow_pos' (once_le seed m)) (pow_lt _ _) (Nat.mod_lt _ (by decide)) (sg1 _) (sg2 _ _ _)
theorem goodF_no {key:Nat} {m:List UInt8} {r s:Nat} (h:¬ 4 ^ s % pN=r * (key ^ askF r key m % pN) % pN):goodF key m r s=false:=by
 unfold goodF
 rw [decide_eq_false h,Bool.and_false]
theorem keyF_eq (seed:List UInt8):keyF seed=fpow 60 1 4 (secretF seed) pN:=fpow_one (Nat.lt_trans (secret_lt seed).2 (by decide))
set_option maxHeartbeats 2000000
theorem key_lt (seed:List UInt8):keyF seed < 18446744073709551616:=Nat.lt_trans (pow_lt _ _) (by decide)
theorem sigR_lt (seed m:List UInt8):sigR seed m < 18446744073709551616:=Nat.lt_trans (pow_lt _ _) (by decide)
theorem sigS_lt (seed m:List UInt8):sigS seed m < 18446744073709551616:=Nat.lt_trans (Nat.mod_lt _ (show 0 < qN by decide)) (by decide)
end Go.Proofs.YtmclpbcipkdmcaaGreatDoor
