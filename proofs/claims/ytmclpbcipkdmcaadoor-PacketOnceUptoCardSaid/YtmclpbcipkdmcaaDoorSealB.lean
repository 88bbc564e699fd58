/- seal.secret, ask, Key, Sign, Good: by value. -/
import Derived.Test.YtmclpbcipkdmcaaDoorSealA
set_option linter.all false
namespace Go.Proofs.YtmclpbcipkdmcaaDoor
open Go Go.Abs Go.RowKit Go.Proofs.YtmclpbcipkdmcaaDoor.Ty

def qN : Nat := 576460752303424853
def pN : Nat := 1152921504606849707
def keyB : List UInt8 := [107, 101, 121]
def onceB : List UInt8 := [111, 110, 99, 101]
def secretF (seed : List UInt8) : Nat := numF (sha (keyB ++ seed)) % (qN - 1) + 1
def askF (r key : Nat) (m : List UInt8) : Nat := numF (sha (be64 r ++ (be64 key ++ m))) % qN
def keyF (seed : List UInt8) : Nat := 4 ^ secretF seed % pN
def onceF (seed m : List UInt8) : Nat := numF (sha (onceB ++ (be64 (secretF seed) ++ m))) % (qN - 1) + 1
def sigR (seed m : List UInt8) : Nat := 4 ^ onceF seed m % pN
def sigS (seed m : List UInt8) : Nat := (onceF seed m + askF (sigR seed m) (keyF seed) m * secretF seed % qN) % qN
def goodF (key : Nat) (m : List UInt8) (r s : Nat) : Bool :=
  decide (1 ≤ key ∧ key < pN ∧ 1 ≤ r ∧ r < pN ∧ s < qN ∧ key ^ qN % pN = 1) && decide (4 ^ s % pN = r * (key ^ askF r key m % pN) % pN)
theorem be64_len (n : Nat) : (be64 n).length = 8 := rfl
theorem tmodN (a b : Nat) : (a : Int).tmod (b : Int) = ((a % b : Nat) : Int) := by rw [Int.tmod_eq_emod_of_nonneg (by omega)]; exact (Int.natCast_emod _ _).symm
theorem secret_lt (seed : List UInt8) : 1 ≤ secretF seed ∧ secretF seed < qN := by
  have := Nat.mod_lt (numF (sha (keyB ++ seed))) (show 0 < qN - 1 by decide)
  simp only [secretF, qN] at *; omega

set_option maxHeartbeats 2000000
end Go.Proofs.YtmclpbcipkdmcaaDoor
