/- makeSlice in a walk. -/
import Derived.Test.YtbclmpdgkeoioaaAbsEv
set_option linter.all false
namespace Go.Abs
open Go Go.RowKit
variable {P : Program} {H : Nat → Ob} {sl : Nat → D} {id : Nat}

def mkS (sz : Option Nat) (z : Option (List D)) (by_ : Option Nat) (l c : Int) (H : Nat → Ob) (id : Nat) : Option (D × (Nat → Ob)) :=
  match sz, z, by_ with
      | some (s + 1), some z, some by_ => if 0 ≤ l ∧ l ≤ c ∧ c < 140737488355328 ∧ c * by_ ≤ 140737488355328 ∧ z.length = s + 1 then
          match z.mapM (convI H) with
          | some xs => some (.os id (s + 1) 0 l.toNat, upd H id (.arr (s + 1) (List.replicate l.toNat xs)))
          | none => none
        else none
      | _, _, _ => none
def mkH (P : Program) (u : Option TypeDesc) (l c : Option Value) (H : Nat → Ob) (x : Ob) (id : Nat) : Option (D × (Nat → Ob)) :=
  match u, l, c, x with
    | some (.slice e), some (.int .i64 l), some (.int .i64 c), .fresh => mkS (szOf P e) (zeroCellsD P e) (bytesOfT P e) l c H id
    | _, _, _, _ => none
theorem oH_mk {t : TypeId} {l c : Operand} : opH P sl H id (.makeSlice t l c) = mkH P (undOf P t) (conc (evA sl l)) (conc (evA sl c)) H (H id) id := rfl
theorem mk_fresh {e : TypeId} {l c : Int} : mkH P (some (.slice e)) (some (.int .i64 l)) (some (.int .i64 c)) H .fresh id = mkS (szOf P e) (zeroCellsD P e) (bytesOfT P e) l c H id := rfl
theorem mkS_lit {s by_ : Nat} {z : List D} {xs : List I} {k : Int} (h0 : 0 ≤ k) (h1 : k < 140737488355328) (h2 : k * by_ ≤ 140737488355328) (h3 : z.length = s + 1) (h4 : z.mapM (convI H) = some xs) :
    mkS (some (s + 1)) (some z) (some by_) k k H id = some (.os id (s + 1) 0 k.toNat, upd H id (.arr (s + 1) (List.replicate k.toNat xs))) := by
  show (if _ then (match z.mapM (convI H) with | some xs => _ | none => none) else none) = _
  rw [if_pos ⟨h0, Int.le_refl _, h1, h2, h3⟩, h4]
theorem mkS_ok {s by_ : Nat} {z : List D} {xs : List I} {l : Nat} (h1 : l < 140737488355328) (h2 : l * by_ ≤ 140737488355328) (h3 : z.length = s + 1) (h4 : z.mapM (convI H) = some xs) :
    mkS (some (s + 1)) (some z) (some by_) (l : Int) (l : Int) H id = some (.os id (s + 1) 0 l, upd H id (.arr (s + 1) (List.replicate l xs))) := by
  have h2' : (l : Int) * (by_ : Int) ≤ 140737488355328 := by
    rw [← Int.natCast_mul]; generalize l * by_ = x at h2; omega
  exact mkS_lit (Int.natCast_nonneg _) (by omega) h2' h3 h4
end Go.Abs
