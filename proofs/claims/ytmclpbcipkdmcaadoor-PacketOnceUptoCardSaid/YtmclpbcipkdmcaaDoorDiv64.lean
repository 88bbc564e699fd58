/- math/bits.Div64: by value. Written by a program. -/
import Derived.Test.YtmclpbcipkdmcaaDoorLen64
set_option linter.all false
namespace Go.Proofs.YtmclpbcipkdmcaaDoor
open Go Go.Abs Go.RowKit Go.Proofs.YtmclpbcipkdmcaaDoor.Ty

theorem or64 {a b k : Nat} (ha : a * 2 ^ k < 18446744073709551616) (hb : b < 2 ^ k) (hk : k ≤ 63) : bits .or .u64 ((a * 2 ^ k : Nat) : Int) (b : Int) = ((a * 2 ^ k + b : Nat) : Int) := by
  have h2 : 2 ^ k < 18446744073709551616 := Nat.lt_of_le_of_lt (Nat.pow_le_pow_right (by decide) hk) (by decide)
  have := (bits_nat .u64 64 (by decide) (fun n g0 g1 => by rw [IntKind.wrap_u64]; omega) (a * 2 ^ k) b ha (by omega)).2
  rw [this, Nat.mul_comm a, ← Nat.two_pow_add_eq_or_of_lt hb]
theorem wrp (n : Nat) : IntKind.u64.wrap (n : Int) = ((n % 18446744073709551616 : Nat) : Int) := by rw [IntKind.wrap_u64]; omega
/-- the rest, by wrapping arithmetic -/
theorem rest_wrap {u d q y r : Nat} (h : q * y + r = u * 4294967296 + d) (hr : r < 18446744073709551616) :
    IntKind.u64.wrap (IntKind.u64.wrap (IntKind.u64.wrap ((u : Int) * 4294967296) + (d : Int)) - IntKind.u64.wrap ((q : Int) * (y : Int))) = (r : Int) := by
  have e : ((q : Int) * (y : Int)) = ((q * y : Nat) : Int) := (Int.natCast_mul _ _).symm
  rw [e]
  generalize q * y = c at h
  simp only [IntKind.wrap_u64]; omega
/-- V is the dividend, its bits moved up. -/
theorem shift_parts (hi lo s : Nat) (hs : s ≤ 63) (hlo : lo < 18446744073709551616) (hh : hi * 2 ^ s < 18446744073709551616) :
    (hi * 18446744073709551616 + lo) * 2 ^ s = (hi * 2 ^ s + lo / 2 ^ (64 - s)) * 18446744073709551616 + lo * 2 ^ s % 18446744073709551616 ∧ lo / 2 ^ (64 - s) < 2 ^ s := by
  have h64 : 2 ^ (64 - s) * 2 ^ s = 18446744073709551616 := by rw [← Nat.pow_add, show 64 - s + s = 64 by omega]
  have e1 : lo / 2 ^ (64 - s) = lo * 2 ^ s / 18446744073709551616 := by
    rw [← h64, Nat.mul_div_mul_right _ _ (Nat.pow_pos (by decide))]
  constructor
  · rw [e1, Nat.add_mul, Nat.mul_right_comm]
    have := Nat.div_add_mod (lo * 2 ^ s) 18446744073709551616
    omega
  · rw [Nat.div_lt_iff_lt_mul (Nat.pow_pos (by decide)), Nat.mul_comm, h64]; exact hlo

set_option maxHeartbeats 8000000
end Go.Proofs.YtmclpbcipkdmcaaDoor
