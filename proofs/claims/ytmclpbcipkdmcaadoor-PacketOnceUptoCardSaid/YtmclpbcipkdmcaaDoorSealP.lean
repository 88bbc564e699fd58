/- Seals, plain: who seals is believed. No program is in sight. -/
import Derived.Test.YtmclpbcipkdmcaaDoorSealC
set_option linter.all false
namespace Go.Proofs.YtmclpbcipkdmcaaDoor
open Go Go.Abs Go.RowKit Go.Proofs.YtmclpbcipkdmcaaDoor.Ty

def fpow : Nat → Nat → Nat → Nat → Nat → Nat
  | 0, r, _, _, m => r % m
  | f + 1, r, b, e, m => fpow f (if e % 2 = 1 then r * b % m else r) (b * b % m) (e / 2) m
theorem fpow_eq : ∀ (f r b e m : Nat), e < 2 ^ f → fpow f r b e m = r * b ^ e % m
  | 0, r, b, e, m, h => by
    have : e = 0 := by simpa using h
    subst this; simp [fpow]
  | f + 1, r, b, e, m, h => by
    rw [fpow, fpow_eq f _ _ _ _ (by rw [Nat.pow_succ] at h; omega), ← pow_step]
theorem fpow_one {b e m : Nat} (h : e < 2 ^ 60) : b ^ e % m = fpow 60 1 b e m := by rw [fpow_eq 60 1 b e m h, Nat.one_mul]
theorem base_q : 4 ^ qN % pN = 1 := by
  rw [fpow_one (by decide)]; decide +kernel
theorem pow_q (a : Nat) : (4 ^ a) ^ qN % pN = 1 := by
  rw [← Nat.pow_mul, Nat.mul_comm, Nat.pow_mul, Nat.pow_mod, base_q, Nat.one_pow]; decide
theorem per (n : Nat) : 4 ^ n % pN = 4 ^ (n % qN) % pN := by
  conv => lhs; rw [← Nat.div_add_mod n qN, Nat.pow_add, Nat.pow_mul, Nat.mul_mod, Nat.pow_mod, base_q, Nat.one_pow]
  rw [show 1 % pN = 1 by decide, Nat.one_mul, Nat.mod_mod]
theorem pow_pos' {x : Nat} (h : x ≤ qN) : 1 ≤ 4 ^ x % pN := by
  rcases Nat.eq_zero_or_pos (4 ^ x % pN) with h0 | h0
  · exfalso
    have := base_q
    rw [show qN = x + (qN - x) by omega, Nat.pow_add, Nat.mul_mod, h0, Nat.zero_mul] at this
    simp at this
  · exact h0
theorem once_le (seed m : List UInt8) : onceF seed m ≤ qN := by
  have := Nat.mod_lt (numF (sha (onceB ++ (be64 (secretF seed) ++ m)))) (show 0 < qN - 1 by decide)
  simp only [onceF, qN] at *; omega
@[irreducible] def qI : Nat := qN
theorem qI_eq : qN = qI := by unfold qI; rfl
theorem sg1 (a : Nat) : (4 ^ a % pN) ^ qI % pN = 1 := by
  have h := pow_q a
  rw [qI_eq] at h
  rw [← Nat.pow_mod]; exact h
theorem sg2 (X K E : Nat) : 4 ^ ((K + E * X % qN) % qN) % pN = (4 ^ K % pN) * ((4 ^ X % pN) ^ E % pN) % pN := by
  rw [← Nat.pow_mod, ← Nat.pow_mul, ← Nat.mul_mod, ← Nat.pow_add, Nat.add_mod_mod, ← per, Nat.mul_comm E X]
theorem good_of {key : Nat} {m : List UInt8} {r s : Nat} (h1 : 1 ≤ key) (h2 : key < pN) (h3 : 1 ≤ r) (h4 : r < pN) (h5 : s < qN) (h6 : key ^ qI % pN = 1) (h7 : 4 ^ s % pN = r * (key ^ askF r key m % pN) % pN) : goodF key m r s = true := by
  unfold goodF
  rw [← qI_eq] at h6
  rw [Bool.and_eq_true]
  exact ⟨decide_eq_true ⟨h1, h2, h3, h4, h5, h6⟩, decide_eq_true h7⟩
theorem seal_good (seed m : List UInt8) : goodF (keyF seed) m (sigR seed m) (sigS seed m) = true :=
  good_of (pow_pos' (Nat.le_of_lt (secret_lt seed).2)) (pow_lt _ _) (pow_pos' (once_le seed m)) (pow_lt _ _) (Nat.mod_lt _ (by decide)) (sg1 _) (sg2 _ _ _)

theorem goodF_no {key : Nat} {m : List UInt8} {r s : Nat} (h : ¬ 4 ^ s % pN = r * (key ^ askF r key m % pN) % pN) : goodF key m r s = false := by
  unfold goodF
  rw [decide_eq_false h, Bool.and_false]
theorem keyF_eq (seed : List UInt8) : keyF seed = fpow 60 1 4 (secretF seed) pN := fpow_one (Nat.lt_trans (secret_lt seed).2 (by decide))
set_option maxHeartbeats 2000000
theorem key_lt (seed : List UInt8) : keyF seed < 18446744073709551616 := Nat.lt_trans (pow_lt _ _) (by decide)
theorem sigR_lt (seed m : List UInt8) : sigR seed m < 18446744073709551616 := Nat.lt_trans (pow_lt _ _) (by decide)
theorem sigS_lt (seed m : List UInt8) : sigS seed m < 18446744073709551616 := Nat.lt_trans (Nat.mod_lt _ (show 0 < qN by decide)) (by decide)

end Go.Proofs.YtmclpbcipkdmcaaDoor
