/- A state with a client, and what the laws' closed facts ask of it. No program is in sight. -/
import Derived.Test.YtmclpbcipkdmcaaGreatDoorGMk
set_option linter.all false
namespace Go.Proofs.YtmclpbcipkdmcaaGreatDoor
open Go Go.Abs
def d32 : List UInt8 := List.replicate 32 0
def st1 : StateD := ⟨⟨#[97]⟩, 1, 1, [⟨⟨#[98]⟩, 9, false, [⟨1, 1, d32, d32⟩]⟩], [], [], [], [], [], []⟩
theorem d32_map : d32.map byteI = List.replicate 32 (byteI 0) := List.map_replicate
end Go.Proofs.YtmclpbcipkdmcaaGreatDoor
