/- The order of bytes: plain. -/
import Derived.Test.YtmclpbcipkdmcaaDoorTy
import Derived.Lib.Bytealg
set_option linter.all false
namespace Go.Proofs.YtmclpbcipkdmcaaDoor
open Go Go.Abs

theorem cmp_nn : Lib.compareBytes [] [] = 0 := by simp [Lib.compareBytes]
theorem cmp_nc (b : UInt8) (t : List UInt8) : Lib.compareBytes [] (b :: t) = -1 := by simp [Lib.compareBytes]
theorem cmp_cn (b : UInt8) (t : List UInt8) : Lib.compareBytes (b :: t) [] = 1 := by simp [Lib.compareBytes]
theorem cmp_cc (a b : UInt8) (s t : List UInt8) : Lib.compareBytes (a :: s) (b :: t) = if a < b then -1 else if b < a then 1 else Lib.compareBytes s t := by rw [Lib.compareBytes]
theorem cmp_neg : ∀ (a b : List UInt8), Lib.compareBytes b a = - Lib.compareBytes a b
  | [], [] => by simp [cmp_nn]
  | [], b :: t => by simp [cmp_nc, cmp_cn]
  | a :: s, [] => by simp [cmp_nc, cmp_cn]
  | a :: s, b :: t => by
    rw [cmp_cc, cmp_cc]
    by_cases h1 : a < b
    · have h2 : ¬ b < a := fun h => by simp only [UInt8.lt_iff_toNat_lt] at *; omega
      simp [h1, h2]
    · by_cases h2 : b < a
      · simp [h1, h2]
      · simp [h1, h2, cmp_neg s t]
theorem cmp_zero : ∀ (a b : List UInt8), Lib.compareBytes a b = 0 ↔ a = b
  | [], [] => by simp [cmp_nn]
  | [], b :: t => by simp [cmp_nc]
  | a :: s, [] => by simp [cmp_cn]
  | a :: s, b :: t => by
    rw [cmp_cc]
    by_cases h1 : a < b
    · have h2 : a ≠ b := fun h => by subst h; simp only [UInt8.lt_iff_toNat_lt] at *; omega
      simp [h1, h2]
    · by_cases h2 : b < a
      · have h3 : a ≠ b := fun h => by subst h; exact h1 h2
        simp [h1, h2, h3]
      · have h3 : a = b := by
          apply UInt8.toNat_inj.1
          simp only [UInt8.lt_iff_toNat_lt] at *; omega
        simp [h1, h2, h3, cmp_zero s t]
theorem cmp_trans : ∀ (a b c : List UInt8), Lib.compareBytes a b < 0 → Lib.compareBytes b c < 0 → Lib.compareBytes a c < 0
  | [], [], c, h, _ => by simp [cmp_nn] at h
  | [], b :: t, [], _, h => by simp [cmp_cn] at h
  | [], b :: t, c :: u, _, _ => by simp [cmp_nc]
  | a :: s, [], c, h, _ => by simp [cmp_cn] at h
  | a :: s, b :: t, [], _, h => by simp [cmp_cn] at h
  | a :: s, b :: t, c :: u, h1, h2 => by
    rw [cmp_cc] at *
    simp only [UInt8.lt_iff_toNat_lt] at *
    by_cases p1 : a.toNat < b.toNat
    · by_cases p2 : b.toNat < c.toNat
      · rw [if_pos (by omega)]; decide
      · rw [if_neg p2] at h2
        by_cases p3 : c.toNat < b.toNat
        · rw [if_pos p3] at h2; exact absurd h2 (by decide)
        · rw [if_pos (by omega)]; decide
    · rw [if_neg p1] at h1
      by_cases p2 : b.toNat < a.toNat
      · rw [if_pos p2] at h1; exact absurd h1 (by decide)
      · rw [if_neg p2] at h1
        by_cases p3 : b.toNat < c.toNat
        · rw [if_pos (by omega)]; decide
        · rw [if_neg p3] at h2
          by_cases p4 : c.toNat < b.toNat
          · rw [if_pos p4] at h2; exact absurd h2 (by decide)
          · rw [if_neg p4] at h2
            rw [if_neg (by omega), if_neg (by omega)]
            exact cmp_trans s t u h1 h2

end Go.Proofs.YtmclpbcipkdmcaaDoor
