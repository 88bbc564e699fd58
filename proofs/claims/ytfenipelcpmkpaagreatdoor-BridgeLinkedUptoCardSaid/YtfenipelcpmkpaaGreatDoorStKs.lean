/- Strings added; a numeral's length. -/
import Derived.Test.YtfenipelcpmkpaaGreatDoorGWk
import Derived.Lib.ItoaLen
set_option linter.all false
namespace Go.Proofs.YtfenipelcpmkpaaGreatDoor
open Go Go.Abs Go.RowKit
theorem iY {P:Program} {t:TypeId} {x y:Operand} (a b:List UInt8) (h:a.length<=100/\b.length<=100):gz P .add t x y (some (.string ⟨a.toArray⟩)) (some (.string ⟨b.toArray⟩))=some (.i (.s (.string ⟨(a++b).toArray⟩))):=by
 rw [jb (by simp only [ByteArray.size,List.size_toArray]; omega)]
 congr 5
def iG (n:Int):Prop:=-9223372036854775808<=n/\n<=9223372036854775807
theorem jl {n:Int} (h:iG n):(Lib.itoa n).length<=21:=Lib.itoa_length_le n h.1 h.2
end Go.Proofs.YtfenipelcpmkpaaGreatDoor
