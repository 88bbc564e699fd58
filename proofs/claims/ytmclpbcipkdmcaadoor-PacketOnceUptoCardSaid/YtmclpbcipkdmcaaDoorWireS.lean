/- Pieces as bytes, as plain functions; what is written is read, in one way alone. No program is in sight. -/
import Derived.Test.YtmclpbcipkdmcaaDoorLib
set_option linter.all false
namespace Go.Proofs.YtmclpbcipkdmcaaDoor

structure PieceD where
  kind : Int
  n : Nat
  b : List UInt8

/-- a number's bytes: seven bits a byte, the lowest ones first -/
def vnumF : Nat → Nat → List UInt8
  | 0, n => [UInt8.ofNat n]
  | f + 1, n => if n < 128 then [UInt8.ofNat n] else UInt8.ofNat (n % 128 + 128) :: vnumF f (n / 128)
def vnum (n : Nat) : List UInt8 := vnumF 9 n
def wpiece (p : PieceD) : Option (List UInt8) :=
  if p.kind = 1 then some (0 :: vnum p.n) else if p.kind = 2 then some (1 :: (vnum p.b.length ++ p.b)) else none
def writeGo : List UInt8 → Nat → List PieceD → List UInt8 × Nat × Nat
  | acc, _, [] => (acc, 0, 0)
  | acc, i, p :: r => match wpiece p with
    | none => ([], 1, i)
    | some x => if 20000 < (acc ++ x).length then ([], 4, i) else writeGo (acc ++ x) (i + 1) r
def writeF (l : List PieceD) : List UInt8 × Nat × Nat := if 200 < l.length then ([], 5, 0) else writeGo (vnum l.length) 0 l

/-- a number off the front of bytes: it, and what is left -/
def takeN : Nat → Nat → List UInt8 → Option (Nat × List UInt8)
  | _, _, [] => none
  | i, n, c :: r => if (0 < i ∧ c = 0) ∨ (i = 9 ∧ 1 < c.toNat) then none
    else if c.toNat < 128 then some (n + c.toNat * 128 ^ i, r) else takeN (i + 1) (n + (c.toNat - 128) * 128 ^ i) r
def readGo : Nat → List UInt8 → Option (List PieceD)
  | 0, r => if r = [] then some [] else none
  | _ + 1, [] => none
  | k + 1, c :: r => match takeN 0 0 r with
    | none => none
    | some (v, r') => if c = 0 then (readGo k r').map (⟨1, v, []⟩ :: ·)
      else if c = 1 then (if r'.length < v then none else (readGo k (r'.drop v)).map (⟨2, 0, r'.take v⟩ :: ·)) else none
def readF (b : List UInt8) : List PieceD × Nat :=
  if 20000 < b.length then ([], 4) else match takeN 0 0 b with
    | none => ([], 2)
    | some (n, r) => if 200 < n then ([], 2) else match readGo n r with
      | none => ([], 2)
      | some l => (l, 0)

/-- pieces are the same, in what their kinds have -/
def pieceSame (p q : PieceD) : Bool := decide (p.kind = q.kind) && (p.kind != 1 || p.n == q.n) && (p.kind != 2 || decide (p.b = q.b))
def piecesSame : List PieceD → List PieceD → Bool
  | [], [] => true
  | p :: l, q :: m => pieceSame p q && piecesSame l m
  | _, _ => false
theorem piecesSame_refl (l : List PieceD) : piecesSame l l = true := by
  induction l with
  | nil => rfl
  | cons p l ih => simp [piecesSame, pieceSame, ih]
theorem piecesSame_symm : ∀ (l m : List PieceD), piecesSame l m = piecesSame m l
  | [], [] => rfl
  | [], _ :: _ => rfl
  | _ :: _, [] => rfl
  | p :: l, q :: m => by
    rw [piecesSame, piecesSame, piecesSame_symm l m]
    congr 1
    unfold pieceSame
    by_cases h : p.kind = q.kind
    · rw [h]
      congr 1
      · congr 1
        by_cases hn : p.n = q.n
        · rw [hn]
        · have h1 : (p.n == q.n) = false := by simpa using hn
          have h2 : (q.n == p.n) = false := by simpa using fun e => hn e.symm
          rw [h1, h2]
      · by_cases hb : p.b = q.b
        · rw [hb]
        · rw [decide_eq_false hb, decide_eq_false (fun e => hb e.symm)]
    · have h1 : decide (p.kind = q.kind) = false := decide_eq_false h
      have h2 : decide (q.kind = p.kind) = false := decide_eq_false (fun e => h e.symm)
      rw [h1, h2]; rfl

theorem pow128 (i : Nat) : 0 < 128 ^ i := Nat.pow_pos (by decide)

/-- a number comes back from its bytes, whatever stands behind them -/
theorem take_vnumF : ∀ (f i a n : Nat) (r : List UInt8), (0 < i → 0 < n) → n < 2 * 128 ^ f → f + i = 9 → takeN i a (vnumF f n ++ r) = some (a + n * 128 ^ i, r)
  | 0, i, a, n, r, h0, hn, hi => by
    have hn2 : n < 2 := by simpa using hn
    have hi9 : i = 9 := by omega
    subst hi9
    have : n = 1 := by have := h0 (by omega); omega
    subst this
    simp [vnumF, takeN]
  | f + 1, i, a, n, r, h0, hn, hi => by
    rw [vnumF]
    by_cases h : n < 128
    · rw [if_pos h]
      have ht : (UInt8.ofNat n).toNat = n := by rw [UInt8.toNat_ofNat']; omega
      have hc : ¬ ((0 < i ∧ UInt8.ofNat n = 0) ∨ (i = 9 ∧ 1 < (UInt8.ofNat n).toNat)) := by
        rintro (⟨h1, h2⟩ | ⟨h1, _⟩)
        · have := congrArg UInt8.toNat h2; rw [ht] at this; have := h0 h1; simp at *; omega
        · omega
      simp only [List.cons_append, List.nil_append, takeN]
      rw [if_neg hc, if_pos (by omega), ht]
    · rw [if_neg h]
      have ht : (UInt8.ofNat (n % 128 + 128)).toNat = n % 128 + 128 := by rw [UInt8.toNat_ofNat']; omega
      have hc : ¬ ((0 < i ∧ UInt8.ofNat (n % 128 + 128) = 0) ∨ (i = 9 ∧ 1 < (UInt8.ofNat (n % 128 + 128)).toNat)) := by
        rintro (⟨h1, h2⟩ | ⟨h1, _⟩)
        · have := congrArg UInt8.toNat h2; rw [ht] at this; simp at this
        · omega
      simp only [List.cons_append, takeN]
      rw [if_neg hc, if_neg (by omega), ht]
      rw [take_vnumF f (i + 1) _ (n / 128) r (fun _ => by omega) (by rw [Nat.pow_succ] at hn; omega) (by omega)]
      congr 2
      rw [Nat.pow_succ, Nat.add_sub_cancel, Nat.add_assoc]
      congr 1
      have := Nat.div_add_mod n 128
      have e : n / 128 * (128 ^ i * 128) = (128 * (n / 128)) * 128 ^ i := by
        rw [Nat.mul_comm (128 ^ i) 128, ← Nat.mul_assoc, Nat.mul_comm (n / 128) 128]
      rw [e, ← Nat.add_mul, Nat.add_comm, this]
theorem take_vnum (n : Nat) (r : List UInt8) (h : n < 18446744073709551616) : takeN 0 0 (vnum n ++ r) = some (n, r) := by
  have := take_vnumF 9 0 0 n r (by omega) (by have : (2:Nat) * 128 ^ 9 = 18446744073709551616 := by decide
                                              omega) rfl
  simpa [vnum] using this

/-- what was taken was written so -/
theorem takeN_vnumF : ∀ (f i a : Nat) (b : List UInt8) (v : Nat) (r : List UInt8), f + i = 9 → takeN i a b = some (v, r) → ∃ n, v = a + n * 128 ^ i ∧ b = vnumF f n ++ r ∧ n < 2 * 128 ^ f ∧ (0 < i → 0 < n)
  | _, _, _, [], _, _, _, h => by simp [takeN] at h
  | f, i, a, c :: s, v, r, hi, h => by
    rw [takeN] at h
    split at h
    · cases h
    rename_i hc
    split at h
    · rename_i hlt
      cases h
      refine ⟨c.toNat, rfl, ?_, ?_, fun h1 => ?_⟩
      · have : vnumF f c.toNat = [c] := by
          cases f with
          | zero => simp [vnumF]
          | succ f => rw [vnumF, if_pos hlt]; simp
        rw [this]; rfl
      · cases f with
        | zero =>
          have : i = 9 := by omega
          have h2 : ¬ 1 < c.toNat := fun h2 => hc (.inr ⟨this, h2⟩)
          simp; omega
        | succ f => have := pow128 f; rw [Nat.pow_succ]; omega
      · have : c ≠ 0 := fun e => hc (.inl ⟨h1, e⟩)
        have : c.toNat ≠ 0 := fun e => this (UInt8.toNat_inj.1 (by simpa using e))
        omega
    · rename_i hge
      cases f with
      | zero =>
        have : i = 9 := by omega
        exact absurd (.inr ⟨this, by omega⟩) hc
      | succ f =>
        obtain ⟨n, hv, hb, hn, h0⟩ := takeN_vnumF f (i + 1) _ s v r (by omega) h
        have hn0 := h0 (by omega)
        have hcl := c.toNat_lt
        refine ⟨n * 128 + (c.toNat - 128), ?_, ?_, ?_, fun _ => by omega⟩
        · rw [hv, Nat.pow_succ, Nat.add_assoc]
          congr 1
          rw [Nat.add_mul, Nat.add_comm]
          congr 1
          rw [Nat.mul_comm (128 ^ i) 128, ← Nat.mul_assoc]
        · rw [vnumF, if_neg (by omega)]
          rw [show (n * 128 + (c.toNat - 128)) % 128 + 128 = c.toNat by omega, show (n * 128 + (c.toNat - 128)) / 128 = n by omega, hb]
          simp
        · rw [Nat.pow_succ]; omega
theorem takeN_vnum {b : List UInt8} {v : Nat} {r : List UInt8} (h : takeN 0 0 b = some (v, r)) : b = vnum v ++ r ∧ v < 18446744073709551616 := by
  obtain ⟨n, hv, hb, hn, _⟩ := takeN_vnumF 9 0 0 b v r rfl h
  have : (2:Nat) * 128 ^ 9 = 18446744073709551616 := by decide
  have hvn : v = n := by simpa using hv
  subst hvn
  exact ⟨hb, by omega⟩
end Go.Proofs.YtmclpbcipkdmcaaDoor
