/- The order of the base is prime: plain laws. -/
import Derived.Test.YtbclmpdgkeoioaaLib
set_option linter.all false
namespace Go.Proofs.Ytbclmpdgkeoioaa

/-- no divisor from lo on, 2^k numbers -/
def noDiv (r : Nat) : Nat → Nat → Bool
  | 0, lo => r % lo != 0
  | k + 1, lo => noDiv r k lo && noDiv r k (lo + 2 ^ k)
theorem noDiv_ok (r : Nat) : ∀ (k lo : Nat), noDiv r k lo = true → ∀ x, lo ≤ x → x < lo + 2 ^ k → r % x ≠ 0
  | 0, lo, h, x, h1, h2 => by
    have : x = lo := by simp at h2; omega
    subst this
    simpa [noDiv] using h
  | k + 1, lo, h, x, h1, h2 => by
    simp only [noDiv, Bool.and_eq_true] at h
    rw [Nat.pow_succ] at h2
    by_cases hx : x < lo + 2 ^ k
    · exact noDiv_ok r k lo h.1 x h1 hx
    · exact noDiv_ok r k _ h.2 x (by omega) (by omega)
def IsP (r : Nat) : Prop := ∀ x, x ∣ r → x = 1 ∨ x = r
theorem isP_of (r k : Nat) (h1 : 1 < r) (hk : r < (2 + 2 ^ k) * (2 + 2 ^ k)) (hlt : 2 + 2 ^ k ≤ r) (h : noDiv r k 2 = true) : IsP r := by
  intro x hx
  obtain ⟨y, hy⟩ := hx
  have hx0 : x ≠ 0 := by rintro rfl; simp at hy; omega
  have hy0 : y ≠ 0 := by rintro rfl; simp at hy; omega
  by_cases hx1 : x = 1
  · exact .inl hx1
  by_cases hy1 : y = 1
  · exact .inr (by rw [hy, hy1, Nat.mul_one])
  exfalso
  by_cases hxs : x < 2 + 2 ^ k
  · exact noDiv_ok r k 2 h x (by omega) hxs (Nat.mod_eq_zero_of_dvd ⟨y, hy⟩)
  · by_cases hys : y < 2 + 2 ^ k
    · exact noDiv_ok r k 2 h y (by omega) hys (Nat.mod_eq_zero_of_dvd ⟨x, by rw [hy, Nat.mul_comm]⟩)
    · have := Nat.mul_le_mul (show 2 + 2 ^ k ≤ x by omega) (show 2 + 2 ^ k ≤ y by omega)
      omega
theorem p2 : IsP 2 := by
  intro x hx
  have := Nat.le_of_dvd (by decide) hx
  have h0 : x ≠ 0 := by rintro rfl; simp at hx
  omega
theorem p23 : IsP 23 := isP_of 23 2 (by decide) (by decide) (by decide) (by decide)
theorem p37 : IsP 37 := isP_of 37 3 (by decide) (by decide) (by decide) (by decide)
theorem p27 : IsP 2722801 := isP_of 2722801 11 (by decide) (by decide) (by decide) (by decide +kernel)
theorem p62 : IsP 62196263 := isP_of 62196263 13 (by decide) (by decide) (by decide) (by decide +kernel)

theorem cop_of {r m : Nat} (hr : IsP r) (h : ¬ r ∣ m) : Nat.Coprime m r := by
  rcases hr (Nat.gcd m r) (Nat.gcd_dvd_right m r) with h1 | h1
  · exact h1
  · exact absurd (h1 ▸ Nat.gcd_dvd_left m r) h

/-- Two of n + 1 pigeons sit in one of n holes. -/
theorem pigeon : ∀ (n : Nat) (f : Nat → Nat), (∀ i, i ≤ n → f i < n) → ∃ i j, i < j ∧ j ≤ n ∧ f i = f j
  | 0, f, h => by have := h 0 (Nat.le_refl 0); omega
  | n + 1, f, h => by
    by_cases hc : ∃ i, i ≤ n ∧ f i = f (n + 1)
    · obtain ⟨i, hi, he⟩ := hc
      exact ⟨i, n + 1, by omega, by omega, he⟩
    · have hne : ∀ i, i ≤ n → f i ≠ f (n + 1) := fun i hi he => hc ⟨i, hi, he⟩
      have hlast := h (n + 1) (by omega)
      obtain ⟨i, j, h1, h2, h3⟩ := pigeon n (fun i => if f i < f (n + 1) then f i else f i - 1) (fun i hi => by
        have := h i (by omega)
        have := hne i hi
        show (if f i < f (n + 1) then f i else f i - 1) < n
        split <;> omega)
      refine ⟨i, j, h1, by omega, ?_⟩
      have hi := hne i (by omega)
      have hj := hne j h2
      split at h3 <;> split at h3 <;> omega

section
variable {a d n : Nat}
theorem pm (a d x y : Nat) : a ^ (x + y) % d = (a ^ x % d) * (a ^ y % d) % d := by rw [Nat.pow_add, Nat.mul_mod]
theorem pow_one_mul (hd : 1 < d) {k : Nat} (h : a ^ k % d = 1) (t : Nat) : a ^ (k * t) % d = 1 := by
  rw [Nat.pow_mul, Nat.pow_mod, h, Nat.one_pow, Nat.mod_eq_of_lt hd]
theorem pow_one_mod (hd : 1 < d) {k n : Nat} (h : a ^ k % d = 1) (hn : a ^ n % d = 1) : a ^ (n % k) % d = 1 := by
  have e := Nat.div_add_mod n k
  have := pm a d (k * (n / k)) (n % k)
  rw [e, hn, pow_one_mul hd h, Nat.one_mul, Nat.mod_mod] at this
  exact this.symm
end

def primesQ : List Nat := [2, 23, 37, 2722801, 62196263]
/-- what divides the order less one, and is more than one, is divided by one of its primes -/
theorem some_prime {m : Nat} (hm : 1 < m) (hd : m ∣ 576460752303424852) : ∃ r ∈ primesQ, r ∣ m := by
  by_cases h2 : 2 ∣ m
  · exact ⟨2, by simp [primesQ], h2⟩
  by_cases h23 : 23 ∣ m
  · exact ⟨23, by simp [primesQ], h23⟩
  by_cases h37 : 37 ∣ m
  · exact ⟨37, by simp [primesQ], h37⟩
  by_cases h27 : 2722801 ∣ m
  · exact ⟨2722801, by simp [primesQ], h27⟩
  by_cases h62 : 62196263 ∣ m
  · exact ⟨62196263, by simp [primesQ], h62⟩
  exfalso
  rw [show 576460752303424852 = 1 * 2 * 2 * 23 * 37 * 2722801 * 62196263 from rfl] at hd
  have h := (cop_of p62 h62).dvd_of_dvd_mul_right hd
  have h := (cop_of p27 h27).dvd_of_dvd_mul_right h
  have h := (cop_of p37 h37).dvd_of_dvd_mul_right h
  have h := (cop_of p23 h23).dvd_of_dvd_mul_right h
  have h := (cop_of p2 h2).dvd_of_dvd_mul_right h
  have h := (cop_of p2 h2).dvd_of_dvd_mul_right h
  have := Nat.le_of_dvd (by decide) h
  omega

/-- two to a power, less a number, by squares -/
def fp2 : Nat → Nat → Nat → Nat → Nat → Nat
  | 0, r, _, _, m => r % m
  | f + 1, r, b, e, m => fp2 f (if e % 2 = 1 then r * b % m else r) (b * b % m) (e / 2) m
theorem fp2_step (r b e m : Nat) : (r * b ^ e) % m = ((if e % 2 = 1 then r * b % m else r) * (b * b % m) ^ (e / 2)) % m := by
  have he : b ^ e = b ^ (e % 2) * (b * b) ^ (e / 2) := by
    conv => lhs; rw [← Nat.div_add_mod e 2, Nat.pow_add, Nat.pow_mul, Nat.pow_two]
    exact Nat.mul_comm _ _
  rw [he, ← Nat.mul_assoc]
  have h2 : (b * b % m) ^ (e / 2) % m = (b * b) ^ (e / 2) % m := (Nat.pow_mod (b * b) (e / 2) m).symm
  split
  · rename_i h1
    rw [h1, Nat.pow_one, Nat.mul_mod, ← h2, ← Nat.mul_mod, Nat.mul_mod (r * b % m), Nat.mod_mod, ← Nat.mul_mod]
  · rename_i h1
    have h0 : e % 2 = 0 := by omega
    rw [h0, Nat.pow_zero, Nat.mul_one, Nat.mul_mod, ← h2, ← Nat.mul_mod]
theorem fp2_eq : ∀ (f r b e m : Nat), e < 2 ^ f → fp2 f r b e m = r * b ^ e % m
  | 0, r, b, e, m, h => by
    have : e = 0 := by simpa using h
    subst this; simp [fp2]
  | f + 1, r, b, e, m, h => by
    rw [fp2, fp2_eq f _ _ _ _ (by rw [Nat.pow_succ] at h; omega), ← fp2_step]
theorem fp2_one (b e m v : Nat) (h : e < 2 ^ 60) (hv : fp2 60 1 b e m = v) : b ^ e % m = v := by rw [← hv, fp2_eq 60 1 b e m h, Nat.one_mul]

/-- a power is one less the modulus; so less what divides it -/
theorem mod_of {a d : Nat} {Q : Nat} (hdQ : d ∣ Q) (hd : 1 < d) {k : Nat} (h : a ^ k % Q = 1) : a ^ k % d = 1 := by
  have := Nat.mod_mod_of_dvd (a ^ k) hdQ
  rw [h] at this
  rw [← this, Nat.mod_eq_of_lt hd]

structure Luc (Q a : Nat) (ps : List Nat) : Prop where
  one : a ^ (Q - 1) % Q = 1
  cop : ∀ r ∈ ps, ∃ v, a ^ ((Q - 1) / r) % Q = v ∧ 0 < v ∧ Nat.gcd (v - 1) Q = 1
  some : ∀ m, 1 < m → m ∣ Q - 1 → ∃ r ∈ ps, r ∣ m
  big : 2 < Q

/-- LUCAS. -/
theorem luc_prime {Q a : Nat} {ps : List Nat} (L : Luc Q a ps) : IsP Q := by
  intro d hdQ
  by_cases h1 : d = 1
  · exact .inl h1
  right
  have hQ := L.big
  have hle := Nat.le_of_dvd (by omega) hdQ
  have hd0 : d ≠ 0 := by rintro rfl; simp at hdQ; omega
  rcases Nat.lt_or_ge d Q with hlt | hge
  rotate_left
  · omega
  exfalso
  have hd : 1 < d := by omega
  have hone := mod_of hdQ hd L.one
  -- no smaller power is one
  have key : ∀ k, 0 < k → k < Q - 1 → a ^ k % d ≠ 1 := by
    intro k
    induction k using Nat.strongRecOn with
    | _ k ih =>
      intro h0 hk hp
      have hr := pow_one_mod hd hp hone
      rcases Nat.eq_zero_or_pos ((Q - 1) % k) with hz | hz
      · have hdiv : k ∣ Q - 1 := Nat.dvd_of_mod_eq_zero hz
        obtain ⟨m, hm⟩ := hdiv
        have hm1 : 1 < m := by
          rcases m with _ | _ | m
          · simp at hm; omega
          · simp at hm; omega
          · omega
        obtain ⟨r, hr1, c, hc⟩ := L.some m hm1 ⟨k, by rw [hm, Nat.mul_comm]⟩
        obtain ⟨v, hv1, hv2, hv3⟩ := L.cop r hr1
        have hr0 : 0 < r := by
          rcases Nat.eq_zero_or_pos r with h | h
          · subst h; simp at hc; omega
          · exact h
        have hq : (Q - 1) / r = k * c := by
          rw [hm, hc, show k * (r * c) = k * c * r by rw [Nat.mul_comm r c, Nat.mul_assoc], Nat.mul_div_cancel _ hr0]
        have hpd : a ^ ((Q - 1) / r) % d = 1 := by rw [hq]; exact pow_one_mul hd hp c
        have hvd : v % d = 1 := by
          rw [← hv1, Nat.mod_mod_of_dvd _ hdQ]; exact hpd
        have hdv : d ∣ v - 1 := by
          refine ⟨v / d, ?_⟩
          have := Nat.div_add_mod v d
          omega
        have := Nat.dvd_gcd hdv hdQ
        rw [hv3] at this
        have := Nat.le_of_dvd (by decide) this
        omega
      · exact ih _ (Nat.mod_lt _ h0) hz (Nat.lt_trans (Nat.mod_lt _ h0) hk) hr
  -- powers are no multiples
  have hnz : ∀ i, i ≤ Q - 1 → a ^ i % d ≠ 0 := by
    intro i hi h0
    have := pm a d i (Q - 1 - i)
    rw [show i + (Q - 1 - i) = Q - 1 by omega, hone, h0, Nat.zero_mul, Nat.zero_mod] at this
    omega
  obtain ⟨i, j, hij, hj, he⟩ := pigeon (d - 1) (fun i => a ^ i % d - 1) (fun i hi => by
    have := hnz i (by omega)
    have := Nat.mod_lt (a ^ i) (show 0 < d by omega)
    show a ^ i % d - 1 < d - 1
    omega)
  have hi0 := hnz i (by omega)
  have hj0 := hnz j (by omega)
  have hee : a ^ i % d = a ^ j % d := by omega
  -- cancel
  have hcan : a ^ (j - i) % d = 1 := by
    have h1 := pm a d i (Q - 1 - i)
    have h2 := pm a d j (Q - 1 - i)
    rw [show i + (Q - 1 - i) = Q - 1 by omega, hone] at h1
    rw [← hee, ← h1, show j + (Q - 1 - i) = (j - i) + (Q - 1) by omega, pm, hone, Nat.mul_one, Nat.mod_mod] at h2
    exact h2
  exact key (j - i) (by omega) (by omega) hcan

theorem luc_mk (Q : Nat) (hQ : Q - 1 < 2 ^ 60) (hbig : 2 < Q) (h1 : fp2 60 1 2 (Q - 1) Q = 1) (hc : ∀ r ∈ primesQ, 0 < fp2 60 1 2 ((Q - 1) / r) Q ∧ Nat.gcd (fp2 60 1 2 ((Q - 1) / r) Q - 1) Q = 1) (hs : ∀ m, 1 < m → m ∣ Q - 1 → ∃ r ∈ primesQ, r ∣ m) : Luc Q 2 primesQ :=
  ⟨fp2_one 2 (Q - 1) Q 1 hQ h1, fun r hr => ⟨_, fp2_one 2 ((Q - 1) / r) Q _ (Nat.lt_of_le_of_lt (Nat.div_le_self _ _) hQ) rfl, (hc r hr).1, (hc r hr).2⟩, hs, hbig⟩
theorem q_one : fp2 60 1 2 (576460752303424853 - 1) 576460752303424853 = 1 := by decide +kernel
theorem q_cop : ∀ r ∈ primesQ, 0 < fp2 60 1 2 ((576460752303424853 - 1) / r) 576460752303424853 ∧ Nat.gcd (fp2 60 1 2 ((576460752303424853 - 1) / r) 576460752303424853 - 1) 576460752303424853 = 1 := by decide +kernel
theorem qN_prime : IsP 576460752303424853 :=
  luc_prime (luc_mk 576460752303424853 (by decide) (by decide) q_one q_cop (fun _ h1 h2 => some_prime h1 h2))

/-- THE BASE HAS THE ORDER's SIZE. -/
theorem no_less {a Q P : Nat} (hP : 1 < P) (hQ : IsP Q) (h1 : a ^ Q % P = 1) (ha : a % P ≠ 1) : ∀ k, 0 < k → k < Q → a ^ k % P ≠ 1 := by
  intro k
  induction k using Nat.strongRecOn with
  | _ k ih =>
    intro h0 hk hp
    have hr := pow_one_mod hP hp h1
    rcases Nat.eq_zero_or_pos (Q % k) with hz | hz
    · rcases hQ k (Nat.dvd_of_mod_eq_zero hz) with h | h
      · subst h; rw [Nat.pow_one] at hp; exact ha hp
      · omega
    · exact ih _ (Nat.mod_lt _ h0) hz (Nat.lt_trans (Nat.mod_lt _ h0) hk) hr
end Go.Proofs.Ytbclmpdgkeoioaa
