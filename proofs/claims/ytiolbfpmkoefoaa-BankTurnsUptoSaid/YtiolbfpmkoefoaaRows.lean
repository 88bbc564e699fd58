/-
  No cell of these rows narrows 'for every input' (looked for: loops, veiled, ifaces, maps, wideKeys, modest, calm, conditions, laid).
  DERIVED. THE GIVEN ROWS OF THIS SEAT. 4 by the template 'for every input the law returns true; each argument reads behind the call as it read before'; 0 by the template 'total and deterministic' (their statements: YtiolbfpmkoefoaaTotals.lean).
  GIVEN WITH THE SEED: the statements are not yours to turn. If you find one false, say at which input.
  Laid BY PROGRAM, IN A SANDBOX (cutbox-rows.mjs): the forced cells as the released guide's own fill.sh prints them over the translation 880da9f0743a2e05… (all of the seat's roots in one cut). By AI agents, Wed Nov 11 2026. No macro, syntax, notation, axiom, sorry.
-/
import Derived.Test.YtiolbfpmkoefoaaChecked
import GoSem.Claim
import GoSem.ClaimJoined
import GoSem.ClaimMapViews
import Derived.JoinedTies
import Derived.KernelRfl
namespace Go.Proofs.Ytiolbfpmkoefoaa
/- THE CELL 'sum', in the pinned program and in every row, IS THE sha256 OF THE DUMP (.gsa) THAT YtiolbfpmkoefoaaProg.lean LOADS. Nothing in Lean hashes anything: it is a label: what it is worth is what the hold of that sum in a sandbox is worth. -/
noncomputable def Try.pinned : Pinned := { name := "ytiolbfpmkoefoaa", sum := "880da9f0743a2e05be0986d422a027502b5c0d67203a516bfce80a4aaaffada5", checked := Try.checked }
namespace Rows
def none {H : Type} : Left H := { results := [], args := [] }

/-- 'landlaw12.BankSupply': WHATEVER THE INPUT: true; the input reads as it did. -/
def bankSupplySpec : ChangeSpec := { name := "bankSupply", fn := fun _ => fun
  | [d1, d2, d3, d4, d5, d6] => { results := [.lit (.bool true)], args := [d1, d2, d3, d4, d5, d6] }
  | _ => none }
def bankSupplyRow : OpenClaim := { program := "ytiolbfpmkoefoaa", sum := "880da9f0743a2e05be0986d422a027502b5c0d67203a516bfce80a4aaaffada5", func := "landbridge/landlaw12.BankSupply", spec := "bankSupply", inPlace := ["math/bits.Add64", "internal/bytealg.abigen_runtime_cmpstring", "slices.overlaps[landbridge/api.Purse]"], unfollowed := true, recurses := true, apart := false }
def BankSupplySaid : Prop := bankSupplyRow.holds Try.pinned (OpenSpec.ofChange bankSupplySpec)

/-- ITS FALSE NEIGHBOUR: 'it returns false'. Refute it at one input. -/
def bankSupplyWrong : ChangeSpec := { name := "bankSupply", fn := fun _ => fun
  | [d1, d2, d3, d4, d5, d6] => { results := [.lit (.bool false)], args := [d1, d2, d3, d4, d5, d6] }
  | _ => none }
def BankSupplyWrongFalsely : Prop := bankSupplyRow.holds Try.pinned (OpenSpec.ofChange bankSupplyWrong)

/-- 'landlaw12.BankOrder': WHATEVER THE INPUT: true; the input reads as it did. -/
def bankOrderSpec : ChangeSpec := { name := "bankOrder", fn := fun _ => fun
  | [d1, d2, d3] => { results := [.lit (.bool true)], args := [d1, d2, d3] }
  | _ => none }
def bankOrderRow : OpenClaim := { program := "ytiolbfpmkoefoaa", sum := "880da9f0743a2e05be0986d422a027502b5c0d67203a516bfce80a4aaaffada5", func := "landbridge/landlaw12.BankOrder", spec := "bankOrder", inPlace := ["math/bits.Add64", "internal/bytealg.abigen_runtime_cmpstring", "slices.overlaps[landbridge/api.Purse]"], unfollowed := true, recurses := true, apart := false }
def BankOrderSaid : Prop := bankOrderRow.holds Try.pinned (OpenSpec.ofChange bankOrderSpec)

/-- ITS FALSE NEIGHBOUR: 'it returns false'. Refute it at one input. -/
def bankOrderWrong : ChangeSpec := { name := "bankOrder", fn := fun _ => fun
  | [d1, d2, d3] => { results := [.lit (.bool false)], args := [d1, d2, d3] }
  | _ => none }
def BankOrderWrongFalsely : Prop := bankOrderRow.holds Try.pinned (OpenSpec.ofChange bankOrderWrong)

/-- 'landlaw12.BankMoved': WHATEVER THE INPUT: true; the input reads as it did. -/
def bankMovedSpec : ChangeSpec := { name := "bankMoved", fn := fun _ => fun
  | [d1, d2, d3, d4, d5, d6] => { results := [.lit (.bool true)], args := [d1, d2, d3, d4, d5, d6] }
  | _ => none }
def bankMovedRow : OpenClaim := { program := "ytiolbfpmkoefoaa", sum := "880da9f0743a2e05be0986d422a027502b5c0d67203a516bfce80a4aaaffada5", func := "landbridge/landlaw12.BankMoved", spec := "bankMoved", inPlace := ["math/bits.Add64", "internal/bytealg.abigen_runtime_cmpstring", "slices.overlaps[landbridge/api.Purse]"], unfollowed := true, recurses := true, apart := false }
def BankMovedSaid : Prop := bankMovedRow.holds Try.pinned (OpenSpec.ofChange bankMovedSpec)

/-- ITS FALSE NEIGHBOUR: 'it returns false'. Refute it at one input. -/
def bankMovedWrong : ChangeSpec := { name := "bankMoved", fn := fun _ => fun
  | [d1, d2, d3, d4, d5, d6] => { results := [.lit (.bool false)], args := [d1, d2, d3, d4, d5, d6] }
  | _ => none }
def BankMovedWrongFalsely : Prop := bankMovedRow.holds Try.pinned (OpenSpec.ofChange bankMovedWrong)

/-- 'landlaw12.BankTurns': WHATEVER THE INPUT: true; the input reads as it did. -/
def bankTurnsSpec : ChangeSpec := { name := "bankTurns", fn := fun _ => fun
  | [d1, d2] => { results := [.lit (.bool true)], args := [d1, d2] }
  | _ => none }
def bankTurnsRow : OpenClaim := { program := "ytiolbfpmkoefoaa", sum := "880da9f0743a2e05be0986d422a027502b5c0d67203a516bfce80a4aaaffada5", func := "landbridge/landlaw12.BankTurns", spec := "bankTurns", inPlace := ["math/bits.Add64", "internal/bytealg.abigen_runtime_cmpstring", "slices.overlaps[landbridge/api.Purse]"], unfollowed := true, recurses := true, apart := false }
def BankTurnsSaid : Prop := bankTurnsRow.holds Try.pinned (OpenSpec.ofChange bankTurnsSpec)

/-- ITS FALSE NEIGHBOUR: 'it returns false'. Refute it at one input. -/
def bankTurnsWrong : ChangeSpec := { name := "bankTurns", fn := fun _ => fun
  | [d1, d2] => { results := [.lit (.bool false)], args := [d1, d2] }
  | _ => none }
def BankTurnsWrongFalsely : Prop := bankTurnsRow.holds Try.pinned (OpenSpec.ofChange bankTurnsWrong)

/- THE SECOND FORM. 'bulk': how many values and letters a reading holds, each counted each time it is reached (what is shared counts as often as it is met; a slice's spare places count too). A statement '..UptoSaid' is the law's where the arguments, and the package variables that the reading takes, are together of bulk at most 1048576: NARROWER than '..Said'. Prove '..Said' where nothing that the law and all that it calls make is longer than what came in: it says more and counts as full. Else prove '..UptoSaid'. A law counts once. -/
mutual
def uptoBulk {H : Type} : DataW H → Nat
  | .lit (.string bytes) => bytes.length + 1
  | .lit _ => 1
  | .nil => 1
  | .ptr d => uptoBulk d + 1
  | .slice elems spare => uptoBulkAll elems + uptoBulkAll spare + 1
  | .agg parts => uptoBulkAll parts + 1
  | .iface _ d => uptoBulk d + 1
  | .map entries => uptoBulkEntries entries + 1
  | .held _ => 1
def uptoBulkAll {H : Type} : List (DataW H) → Nat
  | [] => 0
  | d :: r => uptoBulk d + uptoBulkAll r
def uptoBulkEntries {H : Type} : List (Lit × DataW H) → Nat
  | [] => 0
  | x :: r => uptoBulkEntry x + uptoBulkEntries r
def uptoBulkEntry {H : Type} : Lit × DataW H → Nat
  | (.string bytes, d) => bytes.length + uptoBulk d + 1
  | (_, d) => uptoBulk d + 1
 end
def uptoSmall : (H : Type) → List (DataW H) → Bool := fun _ ds => decide (uptoBulkAll ds ≤ 1048576)
def OpenSpec.upto (s : _root_.Go.ChangeSpec) : _root_.Go.OpenSpec := { _root_.Go.OpenSpec.ofChange s with cond := some uptoSmall }

/-- 'landlaw12.BankSupply', WHERE WHAT IT READS IS OF BULK AT MOST 1048576: true; the input reads as it did. -/
def bankSupplyUptoRow : OpenClaim := { program := "ytiolbfpmkoefoaa", sum := "880da9f0743a2e05be0986d422a027502b5c0d67203a516bfce80a4aaaffada5", func := "landbridge/landlaw12.BankSupply", spec := "bankSupply", inPlace := ["math/bits.Add64", "internal/bytealg.abigen_runtime_cmpstring", "slices.overlaps[landbridge/api.Purse]"], unfollowed := true, recurses := true, apart := false, narrowed := true }
def BankSupplyUptoSaid : Prop := bankSupplyUptoRow.holds Try.pinned (OpenSpec.upto bankSupplySpec)

/-- 'landlaw12.BankOrder', WHERE WHAT IT READS IS OF BULK AT MOST 1048576: true; the input reads as it did. -/
def bankOrderUptoRow : OpenClaim := { program := "ytiolbfpmkoefoaa", sum := "880da9f0743a2e05be0986d422a027502b5c0d67203a516bfce80a4aaaffada5", func := "landbridge/landlaw12.BankOrder", spec := "bankOrder", inPlace := ["math/bits.Add64", "internal/bytealg.abigen_runtime_cmpstring", "slices.overlaps[landbridge/api.Purse]"], unfollowed := true, recurses := true, apart := false, narrowed := true }
def BankOrderUptoSaid : Prop := bankOrderUptoRow.holds Try.pinned (OpenSpec.upto bankOrderSpec)

/-- 'landlaw12.BankMoved', WHERE WHAT IT READS IS OF BULK AT MOST 1048576: true; the input reads as it did. -/
def bankMovedUptoRow : OpenClaim := { program := "ytiolbfpmkoefoaa", sum := "880da9f0743a2e05be0986d422a027502b5c0d67203a516bfce80a4aaaffada5", func := "landbridge/landlaw12.BankMoved", spec := "bankMoved", inPlace := ["math/bits.Add64", "internal/bytealg.abigen_runtime_cmpstring", "slices.overlaps[landbridge/api.Purse]"], unfollowed := true, recurses := true, apart := false, narrowed := true }
def BankMovedUptoSaid : Prop := bankMovedUptoRow.holds Try.pinned (OpenSpec.upto bankMovedSpec)

/-- 'landlaw12.BankTurns', WHERE WHAT IT READS IS OF BULK AT MOST 1048576: true; the input reads as it did. -/
def bankTurnsUptoRow : OpenClaim := { program := "ytiolbfpmkoefoaa", sum := "880da9f0743a2e05be0986d422a027502b5c0d67203a516bfce80a4aaaffada5", func := "landbridge/landlaw12.BankTurns", spec := "bankTurns", inPlace := ["math/bits.Add64", "internal/bytealg.abigen_runtime_cmpstring", "slices.overlaps[landbridge/api.Purse]"], unfollowed := true, recurses := true, apart := false, narrowed := true }
def BankTurnsUptoSaid : Prop := bankTurnsUptoRow.holds Try.pinned (OpenSpec.upto bankTurnsSpec)

end Rows
end Go.Proofs.Ytiolbfpmkoefoaa
