/- Numbers out of bytes, plain. -/
import Derived.Test.YtmclpbcipkdmcaaDoorShaP
import Derived.Test.YtmclpbcipkdmcaaDoorBits
set_option linter.all false
namespace Go.Proofs.YtmclpbcipkdmcaaDoor
open Go Go.Abs Go.RowKit Go.Proofs.YtmclpbcipkdmcaaDoor.Ty

def hor (l : List UInt8) (i : Nat) : Nat → Nat
  | 0 => 0
  | k + 1 => hor l i k * 256 + bnth l (i + k)
theorem hor_lt (l : List UInt8) (i : Nat) : ∀ k, hor l i k < 256 ^ k
  | 0 => by simp [hor]
  | k + 1 => by have := hor_lt l i k; have := bnth_lt l (i + k); simp only [hor, Nat.pow_succ]; omega
theorem be64_get (N : Nat) : ∀ t, t < 8 → (be64 N)[t]? = some (byteOf N (256 ^ (7 - t))) := by
  intro t ht
  have : t = 0 ∨ t = 1 ∨ t = 2 ∨ t = 3 ∨ t = 4 ∨ t = 5 ∨ t = 6 ∨ t = 7 := by omega
  rcases this with rfl | rfl | rfl | rfl | rfl | rfl | rfl | rfl <;> rfl
theorem be32_get (N : Nat) : ∀ t, t < 4 → (be32 N)[t]? = some (byteOf N (256 ^ (3 - t))) := by
  intro t ht
  have : t = 0 ∨ t = 1 ∨ t = 2 ∨ t = 3 := by omega
  rcases this with rfl | rfl | rfl | rfl <;> rfl
theorem take_snoc' {α : Type} {l : List α} {t : Nat} {x : α} (h : l[t]? = some x) : l.take (t + 1) = l.take t ++ [x] := by
  obtain ⟨h1, rfl⟩ := List.getElem?_eq_some_iff.1 h
  exact List.take_succ_eq_append_getElem h1
theorem sh_fdiv (x n : Nat) (k : IntKind) (hn : n ≤ k.bits) : (x : Int).fdiv (2 ^ (min n k.bits)) = ((x / 2 ^ n : Nat) : Int) := by
  rw [show min n k.bits = n by omega, Int.fdiv_eq_ediv_of_nonneg _ (Int.le_of_lt (Int.pow_pos (by decide)))]
  have e : ((2 : Int) ^ n) = ((2 ^ n : Nat) : Int) := by simp
  rw [e]; exact (Int.natCast_ediv _ _).symm
theorem byte_shift {k : IntKind} (N d : Nat) (hd : 8 * d ≤ k.bits) : IntKind.u8.wrap ((N : Int).fdiv (2 ^ (min (8 * d) k.bits))) = ((byteOf N (256 ^ d)).toNat : Int) := by
  rw [sh_fdiv N (8 * d) k hd, show (2 : Nat) ^ (8 * d) = 256 ^ d by rw [Nat.pow_mul], IntKind.wrap_u8, byteOf, UInt8.toNat_ofNat']
  omega
end Go.Proofs.YtmclpbcipkdmcaaDoor
