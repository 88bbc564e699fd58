/- Strings as bytes. -/
import Derived.Test.YtmclpbcipkdmcaaDoorAbs4
set_option linter.all false
namespace Go.Proofs.YtmclpbcipkdmcaaDoor
open Go Go.Abs
def unB (s : ByteArray) : List UInt8 := s.data.toList
def strB (b : List UInt8) : ByteArray := ⟨b.toArray⟩
theorem strB_un (s : ByteArray) : strB (unB s) = s := by cases s; rfl
theorem un_strB (b : List UInt8) : unB (strB b) = b := rfl
theorem unB_len (s : ByteArray) : (unB s).length = s.size := by cases s; rfl
theorem strI_un (s : ByteArray) : strI s = bI (unB s) := rfl

end Go.Proofs.YtmclpbcipkdmcaaDoor
