/- Long division of two words by one: plain laws. -/
import Derived.Test.YtmclpbcipkdmcaaDoorTy
set_option linter.all false
namespace Go.Proofs.YtmclpbcipkdmcaaDoor
open Go Go.Abs Go.RowKit

theorem kn_eq (B y1 y0 u d q r : Nat) (hI : q * y1 + r = u) : q * (y1 * B + y0) + (B * r + d) = (u * B + d) + q * y0 := by
  subst hI
  rw [Nat.mul_add, Nat.add_mul, ← Nat.mul_assoc, Nat.mul_comm B r]; omega
theorem kn_lt {y u d B : Nat} (hu : u < y) (hd : d < B) : (u * B + d) / y < B := by
  rw [Nat.div_lt_iff_lt_mul (by omega)]
  have := Nat.mul_le_mul_right B (show u + 1 ≤ y by omega)
  rw [Nat.add_mul] at this
  rw [Nat.mul_comm B y]; omega
/-- the guess is right -/
theorem kn_exit {B y1 y0 u d q r : Nat} (hy : 0 < y1 * B + y0) (hI : q * y1 + r = u) (hq : (u * B + d) / (y1 * B + y0) ≤ q) (h : q * y0 ≤ B * r + d) : q = (u * B + d) / (y1 * B + y0) := by
  refine Nat.le_antisymm ((Nat.le_div_iff_mul_le hy).2 ?_) hq
  have := kn_eq B y1 y0 u d q r hI
  omega
/-- the guess is too high -/
theorem kn_more {B y1 y0 u d q r : Nat} (hu : u < y1 * B + y0) (hd : d < B) (hI : q * y1 + r = u) (h : B ≤ q ∨ B * r + d < q * y0) : (u * B + d) / (y1 * B + y0) < q := by
  rcases h with h | h
  · exact Nat.lt_of_lt_of_le (kn_lt hu hd) h
  · rw [Nat.div_lt_iff_lt_mul (by omega)]
    have := kn_eq B y1 y0 u d q r hI
    omega
/-- the rest of the guess is high enough -/
theorem kn_break {B y1 y0 u d q r : Nat} (hy : 0 < y1 * B + y0) (h0 : y0 < B) (hI : q * y1 + r = u) (hq : (u * B + d) / (y1 * B + y0) ≤ q) (hqB : q ≤ B) (hr : B ≤ r) : q = (u * B + d) / (y1 * B + y0) := by
  refine kn_exit hy hI hq ?_
  have h1 := Nat.mul_le_mul hqB (Nat.le_of_lt h0)
  have h2 := Nat.mul_le_mul_left B hr
  omega
/-- the first guess -/
theorem kn_first {B y1 y0 u d : Nat} (hy1 : 2 ^ 31 ≤ y1) (hB : B = 4294967296) (h0 : y0 < B) (hu : u < y1 * B + y0) : u / y1 * y1 + u % y1 = u ∧ (u * B + d) / (y1 * B + y0) ≤ u / y1 ∨ d ≥ B := by
  by_cases hd : d < B
  · left
    have e := Nat.div_add_mod' u y1
    refine ⟨e, ?_⟩
    have hlt := Nat.mod_lt u (show 0 < y1 by omega)
    rcases Nat.lt_or_ge (u / y1) ((u * B + d) / (y1 * B + y0)) with h | h
    · exfalso
      have h1 : u / y1 + 1 ≤ (u * B + d) / (y1 * B + y0) := h
      rw [Nat.le_div_iff_mul_le (by omega)] at h1
      have h2 : (u / y1 + 1) * (y1 * B + y0) ≥ (u / y1 + 1) * (y1 * B) := Nat.mul_le_mul_left _ (by omega)
      have h3 : (u / y1 + 1) * (y1 * B) = (u / y1 * y1 + y1) * B := by rw [← Nat.mul_assoc, Nat.add_mul, Nat.one_mul]
      have h4 : u + 1 ≤ u / y1 * y1 + y1 := by omega
      have h5 := Nat.mul_le_mul_right B h4
      rw [Nat.add_mul] at h5
      omega
    · exact h
  · exact .inr (by omega)
theorem kn_guess {B y1 y0 u : Nat} (hy1 : 2 ^ 31 ≤ y1) (hB : B = 4294967296) (h0 : y0 < B) (hu : u < y1 * B + y0) : u / y1 ≤ B + 1 := by
  have : u / y1 < B + 2 := by
    rw [Nat.div_lt_iff_lt_mul (by omega), Nat.add_mul]
    have := Nat.mul_comm B y1
    omega
  omega
section
variable {B y1 y0 u d q r Y Q : Nat}
theorem kn_exit' (hQ : Q = (u * B + d) / Y) (hYe : Y = y1 * B + y0) (hy : 0 < Y) (hI : q * y1 + r = u) (hq : Q ≤ q) (h : q * y0 ≤ B * r + d) : q = Q := by
  subst hYe; subst hQ; exact kn_exit hy hI hq h
theorem kn_more' (hQ : Q = (u * B + d) / Y) (hYe : Y = y1 * B + y0) (hu : u < Y) (hd : d < B) (hI : q * y1 + r = u) (h : B ≤ q ∨ B * r + d < q * y0) : Q < q := by
  subst hYe; subst hQ; exact kn_more hu hd hI h
theorem kn_break' (hQ : Q = (u * B + d) / Y) (hYe : Y = y1 * B + y0) (hy : 0 < Y) (h0 : y0 < B) (hI : q * y1 + r = u) (hq : Q ≤ q) (hqB : q ≤ B) (hr : B ≤ r) : q = Q := by
  subst hYe; subst hQ; exact kn_break hy h0 hI hq hqB hr
theorem kn_first' (hQ : Q = (u * B + d) / Y) (hYe : Y = y1 * B + y0) (hy1 : 2 ^ 31 ≤ y1) (hB : B = 4294967296) (h0 : y0 < B) (hu : u < Y) (hd : d < B) : u / y1 * y1 + u % y1 = u ∧ Q ≤ u / y1 := by
  subst hYe; subst hQ
  rcases kn_first (d := d) hy1 hB h0 hu with h | h
  · exact h
  · omega
theorem kn_guess' (hYe : Y = y1 * B + y0) (hy1 : 2 ^ 31 ≤ y1) (hB : B = 4294967296) (h0 : y0 < B) (hu : u < Y) : u / y1 ≤ B + 1 := by
  subst hYe; exact kn_guess hy1 hB h0 hu
theorem kn_parts (hQ : Q = (u * B + d) / Y) (hy : 0 < Y) (hu : u < Y) (hd : d < B) {R : Nat} (hR : R = (u * B + d) % Y) : Q * Y + R = u * B + d ∧ R < Y ∧ Q < B := by
  subst hQ; subst hR
  exact ⟨Nat.div_add_mod' _ _, Nat.mod_lt _ hy, kn_lt hu hd⟩
end
theorem shift_div (U Y s : Nat) : (U * 2 ^ s) / (Y * 2 ^ s) = U / Y := Nat.mul_div_mul_right U Y (Nat.pow_pos (by decide))
theorem shift_mod (U Y s : Nat) : (U * 2 ^ s) % (Y * 2 ^ s) = (U % Y) * 2 ^ s := Nat.mul_mod_mul_right _ _ _
/-- two digits -/
theorem two_digits (V y B : Nat) (hy : 0 < y) (hB : 0 < B) (u d1 d0 : Nat) (hV : V = (u * B + d1) * B + d0) (hd0 : d0 < B) :
    V / y = (u * B + d1) / y * B + ((u * B + d1) % y * B + d0) / y ∧ V % y = ((u * B + d1) % y * B + d0) % y := by
  have e := Nat.div_add_mod (u * B + d1) y
  have hV2 : V = ((u * B + d1) % y * B + d0) + (u * B + d1) / y * B * y := by
    rw [hV]
    conv => lhs; rw [← e]
    rw [Nat.add_mul, Nat.mul_assoc, Nat.mul_comm y, Nat.mul_assoc]
    have : (u * B + d1) / y * (B * y) = (u * B + d1) / y * B * y := (Nat.mul_assoc _ _ _).symm
    omega
  rw [hV2, Nat.add_mul_div_right _ _ hy, Nat.add_mul_mod_self_right]
  constructor
  · omega
  · rfl
end Go.Proofs.YtmclpbcipkdmcaaDoor
