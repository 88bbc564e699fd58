/- Values of strings and numbers in a walk; what a chain's name is. -/
import Derived.Test.YtmclpbcipkdmcaaDoorAbs4
set_option linter.all false
namespace Go.Proofs.YtmclpbcipkdmcaaDoor
open Go Go.Abs
def sI (s : ByteArray) : I := .s (.string s)
def sD (s : ByteArray) : D := .i (.s (.string s))
def wD (n : Nat) : D := .i (.s (.int .u64 n))
def intV (n : Int) : D := .i (.s (.int .i64 n))
def boolV (b : Bool) : D := .i (.s (.bool b))
def inR (lo c : Nat) (b : UInt8) : Bool := decide (lo ≤ b.toNat ∧ b.toNat < c)
def nameB (b : UInt8) : Bool := inR 97 123 b || inR 48 58 b
def nameOk (s : ByteArray) : Bool := decide (1 ≤ s.size) && decide (s.size ≤ 20) && (List.range s.size).all fun k => nameB (byS s k)
end Go.Proofs.YtmclpbcipkdmcaaDoor
