/- Structs that are compared. -/
import Derived.Test.YtbclmpdgkeoioaaAbsX
import Derived.Laws.StructEq
set_option linter.all false
namespace Go.Abs
open Go Go.RowKit

theorem pv_bind' {α β : Type} {P : Program} {s : Sem α} {f : α → Sem β} : pv P (s >>= f) = (pv P s).bind fun a => pv P (f a) := by
  show pv P (Sem.bind s f) = _
  induction s with
  | pure b => rfl
  | program k ih => simp only [Sem.bind, pv]; exact ih P
  | _ => rfl
theorem pv_prog {P : Program} : pv P program = some P := rfl
theorem pv_pure {α : Type} {P : Program} {a : α} : pv P (pure a : Sem α) = some a := rfl

section
variable {P : Program}
theorem pv_equalIn_struct {d : Nat} {t : TypeId} {xs ys : Array Value} {fs : Array Field} (ht : undOf P t = some (.struct fs)) (hp : P.stoodInHeld t = false) :
    pv P (Go.Op.equalIn (d + 1) t (.agg xs) (.agg ys)) = pv P (Go.Op.eqFields d xs ys fs.toList) := by
  simp only [Go.Op.equalIn]
  rw [pv_bind', show pv P (underlying t) = some (.struct fs) from ht]
  simp only [Option.bind_some, pv_bind', pv_prog, hp, Bool.false_eq_true, if_false]
  rw [← Array.forIn_toList]
  generalize fs.toList = fs
  clear ht
  induction fs with
  | nil => simp [Go.Op.eqFields, pv_pure]
  | cons f fs ih =>
    simp only [List.forIn_cons, Go.Op.eqFields, pv_bind']
    split
    · simp only [pv_bind']
      cases pv P (part f.type xs f.offset) with
      | none => simp
      | some a =>
        simp only [Option.bind_some]
        cases pv P (part f.type ys f.offset) with
        | none => simp
        | some b =>
          simp only [Option.bind_some]
          cases pv P (Go.Op.equalIn d f.type a b) with
          | none => simp
          | some r =>
            cases r
            · simp [pv_pure]
            · simpa [pv_pure] using ih
    · simpa [pv_pure] using ih

theorem pv_fields_nil {d : Nat} {xs ys : Array Value} : pv P (Go.Op.eqFields d xs ys []) = some true := rfl
theorem pv_fields_cons {d : Nat} {xs ys : Array Value} {f : Field} {fs : List Field} {a b : Value} {r s : Bool} (hn : f.name ≠ "_") (h1 : pv P (part f.type xs f.offset) = some a) (h2 : pv P (part f.type ys f.offset) = some b) (h3 : pv P (Go.Op.equalIn d f.type a b) = some r)
    (h4 : pv P (Go.Op.eqFields d xs ys fs) = some s) : pv P (Go.Op.eqFields d xs ys (f :: fs)) = some (r && s) := by
  simp only [Go.Op.eqFields, hn, ne_eq, not_false_eq_true, if_true, pv_bind', h1, h2, h3, Option.bind_some]
  cases r
  · rfl
  · simpa using h4
theorem pv_eq_int {d : Nat} {t : TypeId} {k k' : IntKind} {a b : Int} (h : undOf P t = some (.int k')) : pv P (Go.Op.equalIn (d + 1) t (.int k a) (.int k b)) = some (decide (a = b)) := by
  simp only [Go.Op.equalIn]
  rw [pv_bind', show pv P (underlying t) = some (.int k') from h]
  simp [pv_pure]; try exact Bool.eq_iff_iff.2 (by simp)
theorem pv_eq_bool {d : Nat} {t : TypeId} {a b : Bool} (h : undOf P t = some .bool) : pv P (Go.Op.equalIn (d + 1) t (.bool a) (.bool b)) = some (a == b) := by
  simp only [Go.Op.equalIn]
  rw [pv_bind', show pv P (underlying t) = some .bool from h]
  simp [pv_pure]
theorem pv_eq_str {d : Nat} {t : TypeId} {a b : ByteArray} (h : undOf P t = some .string) : pv P (Go.Op.equalIn (d + 1) t (.string a) (.string b)) = some (a == b) := by
  simp only [Go.Op.equalIn]
  rw [pv_bind', show pv P (underlying t) = some .string from h]
  simp [pv_pure]
theorem pv_equal_struct {t : TypeId} {xs ys : Array Value} {fs : Array Field} (ht : undOf P t = some (.struct fs)) (hp : P.stoodInHeld t = false) :
    pv P (Go.Op.equal t (.agg xs) (.agg ys)) = pv P (Go.Op.eqFields 9999 xs ys fs.toList) := pv_equalIn_struct ht hp

/-- whether two values of the type are the same -/
def eqOf (P : Program) (t : TypeId) (x y : Value) : Option Bool := pv P (Go.Op.equal t x y)
theorem bq_eql_agg {t : TypeId} {x y : Operand} {xs ys : Array Value} (h : P.eqGuardType P.depth t = false) : binQ P .eql t x y (some (.agg xs)) (some (.agg ys)) = (eqOf P t (.agg xs) (.agg ys)).map fun b => .i (.s (.bool b)) := by
  simp only [binQ, pv_bind']
  have : pv P (eqGuard .eql t x y (.agg xs) (.agg ys)) = some () := by
    simp [eqGuard, pv_bind', pv_prog, h, pv_pure]
  rw [this]
  simp only [Option.bind_some, Go.binOp, pv_bind', pv_pure, eqOf]
  cases pv P (Go.Op.equal t (.agg xs) (.agg ys)) <;> rfl
theorem bq_neq_agg {t : TypeId} {x y : Operand} {xs ys : Array Value} (h : P.eqGuardType P.depth t = false) : binQ P .neq t x y (some (.agg xs)) (some (.agg ys)) = (eqOf P t (.agg xs) (.agg ys)).map fun b => .i (.s (.bool !b)) := by
  simp only [binQ, pv_bind']
  have : pv P (eqGuard .neq t x y (.agg xs) (.agg ys)) = some () := by
    simp [eqGuard, pv_bind', pv_prog, h, pv_pure]
  rw [this]
  simp only [Option.bind_some, Go.binOp, pv_bind', pv_pure, eqOf]
  cases pv P (Go.Op.equal t (.agg xs) (.agg ys)) <;> rfl
theorem bq_eql_str {t : TypeId} {x y : Operand} {a b : ByteArray} : binQ P .eql t x y (some (.string a)) (some (.string b)) = some (.i (.s (.bool (a == b)))) := by
  simp [binQ, eqGuard, pv_bind', Go.binOp, Op.stringOp, pv_pure, ofV, beq_toListBytes]
theorem bq_neq_str {t : TypeId} {x y : Operand} {a b : ByteArray} : binQ P .neq t x y (some (.string a)) (some (.string b)) = some (.i (.s (.bool (!(a == b))))) := by
  simp [binQ, eqGuard, pv_bind', Go.binOp, Op.stringOp, pv_pure, ofV, beq_toListBytes]
theorem bq_eql_bool {t : TypeId} {x y : Operand} {a b : Bool} (h : undOf P t = some .bool) : binQ P .eql t x y (some (.bool a)) (some (.bool b)) = some (.i (.s (.bool (a == b)))) := by
  simp only [binQ, pv_bind', eqGuard, Go.binOp, Go.Op.equal]
  rw [show Go.Op.maxDepth = 9999 + 1 from rfl, pv_eq_bool h]
  simp [pv_pure, ofV]
theorem bq_neq_bool {t : TypeId} {x y : Operand} {a b : Bool} (h : undOf P t = some .bool) : binQ P .neq t x y (some (.bool a)) (some (.bool b)) = some (.i (.s (.bool (!(a == b))))) := by
  simp only [binQ, pv_bind', eqGuard, Go.binOp, Go.Op.equal]
  rw [show Go.Op.maxDepth = 9999 + 1 from rfl, pv_eq_bool h]
  simp [pv_pure, ofV]
theorem conc_agg {cs : List D} {vs : List Value} (h : cs.mapM concI = some vs) : conc (.agg cs) = some (.agg vs.toArray) := by
  simp [conc, h]
theorem conc_agg' {cs : List D} : conc (.agg cs) = (cs.mapM concI).map fun vs => .agg vs.toArray := rfl
theorem concI_s {v : Value} : concI (.i (.s v)) = some v := rfl
end
end Go.Abs
