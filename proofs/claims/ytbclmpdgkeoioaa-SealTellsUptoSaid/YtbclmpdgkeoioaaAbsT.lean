/- What operations on plain values yield. -/
import Derived.Test.YtbclmpdgkeoioaaAbsS
import Derived.Laws.BitsLemmas
set_option linter.all false
namespace Go.Abs
open Go Go.RowKit

section
variable {P : Program} {t : TypeId} {x y : Operand} {k : IntKind} {a b : Int}

theorem pv_add : pv P (do eqGuard .add t x y (.int k a) (.int k b); Go.binOp .add t (.int k a) (.int k b)) = some (.int k (k.wrap (a + b))) := by
  simp [eqGuard, Go.binOp, Op.intArith, pv, pure, bind, Sem.bind]
theorem pv_sub : pv P (do eqGuard .sub t x y (.int k a) (.int k b); Go.binOp .sub t (.int k a) (.int k b)) = some (.int k (k.wrap (a - b))) := by
  simp [eqGuard, Go.binOp, Op.intArith, pv, pure, bind, Sem.bind]
theorem pv_mul : pv P (do eqGuard .mul t x y (.int k a) (.int k b); Go.binOp .mul t (.int k a) (.int k b)) = some (.int k (k.wrap (a * b))) := by
  simp [eqGuard, Go.binOp, Op.intArith, pv, pure, bind, Sem.bind]
theorem pv_quo (h : b ≠ 0) : pv P (do eqGuard .quo t x y (.int k a) (.int k b); Go.binOp .quo t (.int k a) (.int k b)) = some (.int k (k.wrap (a.tdiv b))) := by
  simp [eqGuard, Go.binOp, Op.intDiv, pv, pure, bind, Sem.bind, h]
theorem pv_rem (h : b ≠ 0) : pv P (do eqGuard .rem t x y (.int k a) (.int k b); Go.binOp .rem t (.int k a) (.int k b)) = some (.int k (a.tmod b)) := by
  simp [eqGuard, Go.binOp, Op.intDiv, pv, pure, bind, Sem.bind, h]
theorem pv_lss : pv P (do eqGuard .lss t x y (.int k a) (.int k b); Go.binOp .lss t (.int k a) (.int k b)) = some (.bool (decide (a < b))) := by
  simp [eqGuard, Go.binOp, Op.intCmp, pv, pure, bind, Sem.bind]
theorem pv_leq : pv P (do eqGuard .leq t x y (.int k a) (.int k b); Go.binOp .leq t (.int k a) (.int k b)) = some (.bool (decide (a ≤ b))) := by
  simp [eqGuard, Go.binOp, Op.intCmp, pv, pure, bind, Sem.bind]
theorem pv_gtr : pv P (do eqGuard .gtr t x y (.int k a) (.int k b); Go.binOp .gtr t (.int k a) (.int k b)) = some (.bool (decide (b < a))) := by
  simp [eqGuard, Go.binOp, Op.intCmp, pv, pure, bind, Sem.bind]
theorem pv_geq : pv P (do eqGuard .geq t x y (.int k a) (.int k b); Go.binOp .geq t (.int k a) (.int k b)) = some (.bool (decide (b ≤ a))) := by
  simp [eqGuard, Go.binOp, Op.intCmp, pv, pure, bind, Sem.bind]
theorem pv_eql : pv P (do eqGuard .eql t x y (.int k a) (.int k b); Go.binOp .eql t (.int k a) (.int k b)) = some (.bool (decide (a = b))) := by
  simp [eqGuard, Go.binOp, Op.intCmp, pv, pure, bind, Sem.bind]; try exact (Bool.eq_iff_iff.2 (by simp))
theorem pv_neq : pv P (do eqGuard .neq t x y (.int k a) (.int k b); Go.binOp .neq t (.int k a) (.int k b)) = some (.bool (!decide (a = b))) := by
  simp [eqGuard, Go.binOp, Op.intCmp, pv, pure, bind, Sem.bind, bne]; try exact (Bool.eq_iff_iff.2 (by simp))
theorem pv_or : pv P (do eqGuard .or t x y (.int k a) (.int k b); Go.binOp .or t (.int k a) (.int k b)) = some (.int k (bits .or k a b)) := by
  simp [eqGuard, Go.binOp, Op.intBits, pv, pure, bind, Sem.bind, bits]
theorem pv_and : pv P (do eqGuard .and t x y (.int k a) (.int k b); Go.binOp .and t (.int k a) (.int k b)) = some (.int k (bits .and k a b)) := by
  simp [eqGuard, Go.binOp, Op.intBits, pv, pure, bind, Sem.bind, bits]
theorem pv_xor : pv P (do eqGuard .xor t x y (.int k a) (.int k b); Go.binOp .xor t (.int k a) (.int k b)) = some (.int k (bits .xor k a b)) := by
  simp [eqGuard, Go.binOp, Op.intBits, pv, pure, bind, Sem.bind, bits]
theorem pv_shl {k' : IntKind} (h : 0 ≤ b) : pv P (do eqGuard .shl t x y (.int k a) (.int k' b); Go.binOp .shl t (.int k a) (.int k' b)) = some (.int k (k.wrap (a * 2 ^ (min b.toNat k.bits)))) := by
  simp [eqGuard, Go.binOp, Op.shift, pv, pure, bind, Sem.bind, show ¬ b < 0 by omega]
theorem pv_shr {k' : IntKind} (h : 0 ≤ b) : pv P (do eqGuard .shr t x y (.int k a) (.int k' b); Go.binOp .shr t (.int k a) (.int k' b)) = some (.int k (a.fdiv (2 ^ (min b.toNat k.bits)))) := by
  simp [eqGuard, Go.binOp, Op.shift, pv, pure, bind, Sem.bind, show ¬ b < 0 by omega]
theorem pv_not {c : Bool} : pv P (Op.unary .not (.bool c)) = some (.bool !c) := rfl
theorem conv_int {src dst : TypeId} {k' : IntKind} {d0 : TypeDesc} (h1 : undOf P dst = some (.int k')) (h0 : undOf P src = some d0) : pv P (Go.convert src dst (.int k a)) = some (.int k' (k'.wrap a)) := by
  rw [undOf_eq] at h1 h0
  simp [Go.convert, underlying, program, bind, Sem.bind, pv, pure, h1, h0, Conv.intToInt]

theorem wrap64 {n : Int} (h1 : -9223372036854775808 ≤ n) (h2 : n ≤ 9223372036854775807) : IntKind.i64.wrap n = n := by
  rw [IntKind.wrap_i64]; omega
end

/-- Bytes, as a slice's cells. -/
def bI (l : List UInt8) : I := .sl (l.map byteI)
end Go.Abs
