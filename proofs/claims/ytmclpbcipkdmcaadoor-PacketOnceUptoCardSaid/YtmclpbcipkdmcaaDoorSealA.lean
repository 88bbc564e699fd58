/- seal.times, power, number, eight, secret, ask, Key, Sign, Good: by value. -/
import Derived.Test.YtmclpbcipkdmcaaDoorDiv64
import Derived.Test.YtmclpbcipkdmcaaDoorShaD
import Derived.Test.YtmclpbcipkdmcaaDoorHor
set_option linter.all false
namespace Go.Proofs.YtmclpbcipkdmcaaDoor
open Go Go.Abs Go.RowKit Go.Proofs.YtmclpbcipkdmcaaDoor.Ty

def u64D (n : Nat) : D := .i (.s (.int .u64 (n : Int)))
theorem mod_lt64 {n m : Nat} (h : m < 18446744073709551616) (h0 : 0 < m) : n % m < 18446744073709551616 := Nat.lt_trans (Nat.mod_lt _ h0) h

set_option maxHeartbeats 2000000
theorem bit0 (e : Nat) (he : e < 18446744073709551616) : bits .and .u64 (e : Int) 1 = ((e % 2 : Nat) : Int) := by
  have := (bits_nat .u64 64 (by decide) (fun n g0 g1 => by rw [IntKind.wrap_u64]; omega) e 1 he (by decide)).1
  rw [show ((1 : Nat) : Int) = 1 from rfl] at this
  rw [this, show (1 : Nat) = 2 ^ 1 - 1 from rfl, Nat.and_two_pow_sub_one_eq_mod]
theorem pow_step (r b e m : Nat) : (r * b ^ e) % m = ((if e % 2 = 1 then r * b % m else r) * (b * b % m) ^ (e / 2)) % m := by
  have he : b ^ e = b ^ (e % 2) * (b * b) ^ (e / 2) := by
    conv => lhs; rw [← Nat.div_add_mod e 2, Nat.pow_add, Nat.pow_mul, Nat.pow_two]
    exact Nat.mul_comm _ _
  rw [he, ← Nat.mul_assoc]
  have h2 : (b * b % m) ^ (e / 2) % m = (b * b) ^ (e / 2) % m := (Nat.pow_mod (b * b) (e / 2) m).symm
  split
  · rename_i h1
    rw [h1, Nat.pow_one, Nat.mul_mod, ← h2, ← Nat.mul_mod, Nat.mul_mod (r * b % m), Nat.mod_mod, ← Nat.mul_mod]
  · rename_i h1
    have h0 : e % 2 = 0 := by omega
    rw [h0, Nat.pow_zero, Nat.mul_one, Nat.mul_mod, ← h2, ← Nat.mul_mod]
def numF (d : List UInt8) : Nat := hor d 0 8
theorem numF_lt (d : List UInt8) : numF d < 18446744073709551616 := hor_lt d 0 8
end Go.Proofs.YtmclpbcipkdmcaaDoor
