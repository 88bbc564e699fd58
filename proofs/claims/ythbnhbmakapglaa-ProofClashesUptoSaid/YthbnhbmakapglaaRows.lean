/-
  No cell of these rows narrows 'for every input' (looked for: loops, veiled, ifaces, maps, wideKeys, modest, calm, conditions, laid).
  DERIVED. THE GIVEN ROWS OF THIS SEAT. 11 by the template 'for every input the law returns true; each argument reads behind the call as it read before'; 0 by the template 'total and deterministic' (their statements: YthbnhbmakapglaaTotals.lean).
  GIVEN WITH THE SEED: the statements are not yours to turn. If you find one false, say at which input.
  Laid BY PROGRAM, IN A SANDBOX (cutbox-rows.mjs): the forced cells as the released guide's own fill.sh prints them over the translation bc06d75f69f99daf… (all of the seat's roots in one cut). By AI agents, Wed Nov 11 2026. No macro, syntax, notation, axiom, sorry.
-/
import Derived.Test.YthbnhbmakapglaaChecked
import GoSem.Claim
import GoSem.ClaimJoined
import GoSem.ClaimMapViews
import Derived.JoinedTies
import Derived.KernelRfl
namespace Go.Proofs.Ythbnhbmakapglaa
/- THE CELL 'sum', in the pinned program and in every row, IS THE sha256 OF THE DUMP (.gsa) THAT YthbnhbmakapglaaProg.lean LOADS. Nothing in Lean hashes anything: it is a label: what it is worth is what the hold of that sum in a sandbox is worth. -/
noncomputable def Try.pinned : Pinned := { name := "ythbnhbmakapglaa", sum := "bc06d75f69f99dafadaaeafaba1caa7fa51922697ee2389ce0a6c7b6b1e2115c", checked := Try.checked }
namespace Rows
def none {H : Type} : Left H := { results := [], args := [] }

/-- 'landlaw5.ProofShort': WHATEVER THE INPUT: true; the input reads as it did. -/
def proofShortSpec : ChangeSpec := { name := "proofShort", fn := fun _ => fun
  | [d1, d2] => { results := [.lit (.bool true)], args := [d1, d2] }
  | _ => none }
def proofShortRow : OpenClaim := { program := "ythbnhbmakapglaa", sum := "bc06d75f69f99dafadaaeafaba1caa7fa51922697ee2389ce0a6c7b6b1e2115c", func := "landbridge/landlaw5.ProofShort", spec := "proofShort", inPlace := ["internal/bytealg.Compare"], unfollowed := true, recurses := true, apart := false }
def ProofShortSaid : Prop := proofShortRow.holds Try.pinned (OpenSpec.ofChange proofShortSpec)

/-- ITS FALSE NEIGHBOUR: 'it returns false'. Refute it at one input. -/
def proofShortWrong : ChangeSpec := { name := "proofShort", fn := fun _ => fun
  | [d1, d2] => { results := [.lit (.bool false)], args := [d1, d2] }
  | _ => none }
def ProofShortWrongFalsely : Prop := proofShortRow.holds Try.pinned (OpenSpec.ofChange proofShortWrong)

/-- 'landlaw5.ProofGood': WHATEVER THE INPUT: true; the input reads as it did. -/
def proofGoodSpec : ChangeSpec := { name := "proofGood", fn := fun _ => fun
  | [d1, d2] => { results := [.lit (.bool true)], args := [d1, d2] }
  | _ => none }
def proofGoodRow : OpenClaim := { program := "ythbnhbmakapglaa", sum := "bc06d75f69f99dafadaaeafaba1caa7fa51922697ee2389ce0a6c7b6b1e2115c", func := "landbridge/landlaw5.ProofGood", spec := "proofGood", inPlace := ["internal/bytealg.Compare"], unfollowed := true, recurses := true, apart := false }
def ProofGoodSaid : Prop := proofGoodRow.holds Try.pinned (OpenSpec.ofChange proofGoodSpec)

/-- ITS FALSE NEIGHBOUR: 'it returns false'. Refute it at one input. -/
def proofGoodWrong : ChangeSpec := { name := "proofGood", fn := fun _ => fun
  | [d1, d2] => { results := [.lit (.bool false)], args := [d1, d2] }
  | _ => none }
def ProofGoodWrongFalsely : Prop := proofGoodRow.holds Try.pinned (OpenSpec.ofChange proofGoodWrong)

/-- 'landlaw5.ProofTells': WHATEVER THE INPUT: true; the input reads as it did. -/
def proofTellsSpec : ChangeSpec := { name := "proofTells", fn := fun _ => fun
  | [d1, d2, d3, d4, d5] => { results := [.lit (.bool true)], args := [d1, d2, d3, d4, d5] }
  | _ => none }
def proofTellsRow : OpenClaim := { program := "ythbnhbmakapglaa", sum := "bc06d75f69f99dafadaaeafaba1caa7fa51922697ee2389ce0a6c7b6b1e2115c", func := "landbridge/landlaw5.ProofTells", spec := "proofTells", inPlace := ["internal/bytealg.Compare", "math/bits.Add64"], unfollowed := true, recurses := true, apart := false }
def ProofTellsSaid : Prop := proofTellsRow.holds Try.pinned (OpenSpec.ofChange proofTellsSpec)

/-- ITS FALSE NEIGHBOUR: 'it returns false'. Refute it at one input. -/
def proofTellsWrong : ChangeSpec := { name := "proofTells", fn := fun _ => fun
  | [d1, d2, d3, d4, d5] => { results := [.lit (.bool false)], args := [d1, d2, d3, d4, d5] }
  | _ => none }
def ProofTellsWrongFalsely : Prop := proofTellsRow.holds Try.pinned (OpenSpec.ofChange proofTellsWrong)

/-- 'landlaw5.ProofClash': WHATEVER THE INPUT: true; the input reads as it did. -/
def proofClashSpec : ChangeSpec := { name := "proofClash", fn := fun _ => fun
  | [d1, d2] => { results := [.lit (.bool true)], args := [d1, d2] }
  | _ => none }
def proofClashRow : OpenClaim := { program := "ythbnhbmakapglaa", sum := "bc06d75f69f99dafadaaeafaba1caa7fa51922697ee2389ce0a6c7b6b1e2115c", func := "landbridge/landlaw5.ProofClash", spec := "proofClash", inPlace := ["internal/bytealg.Compare", "internal/bytealg.MakeNoZero"], unfollowed := true, recurses := true, apart := false }
def ProofClashSaid : Prop := proofClashRow.holds Try.pinned (OpenSpec.ofChange proofClashSpec)

/-- ITS FALSE NEIGHBOUR: 'it returns false'. Refute it at one input. -/
def proofClashWrong : ChangeSpec := { name := "proofClash", fn := fun _ => fun
  | [d1, d2] => { results := [.lit (.bool false)], args := [d1, d2] }
  | _ => none }
def ProofClashWrongFalsely : Prop := proofClashRow.holds Try.pinned (OpenSpec.ofChange proofClashWrong)

/-- 'landlaw5.ProofEdited': WHATEVER THE INPUT: true; the input reads as it did. -/
def proofEditedSpec : ChangeSpec := { name := "proofEdited", fn := fun _ => fun
  | [d1, d2, d3] => { results := [.lit (.bool true)], args := [d1, d2, d3] }
  | _ => none }
def proofEditedRow : OpenClaim := { program := "ythbnhbmakapglaa", sum := "bc06d75f69f99dafadaaeafaba1caa7fa51922697ee2389ce0a6c7b6b1e2115c", func := "landbridge/landlaw5.ProofEdited", spec := "proofEdited", inPlace := ["internal/bytealg.Compare", "internal/bytealg.MakeNoZero"], unfollowed := true, recurses := true, apart := false }
def ProofEditedSaid : Prop := proofEditedRow.holds Try.pinned (OpenSpec.ofChange proofEditedSpec)

/-- ITS FALSE NEIGHBOUR: 'it returns false'. Refute it at one input. -/
def proofEditedWrong : ChangeSpec := { name := "proofEdited", fn := fun _ => fun
  | [d1, d2, d3] => { results := [.lit (.bool false)], args := [d1, d2, d3] }
  | _ => none }
def ProofEditedWrongFalsely : Prop := proofEditedRow.holds Try.pinned (OpenSpec.ofChange proofEditedWrong)

/-- 'landlaw4.BookPast': WHATEVER THE INPUT: true; the input reads as it did. -/
def bookPastSpec : ChangeSpec := { name := "bookPast", fn := fun _ => fun
  | [d1, d2, d3] => { results := [.lit (.bool true)], args := [d1, d2, d3] }
  | _ => none }
def bookPastRow : OpenClaim := { program := "ythbnhbmakapglaa", sum := "bc06d75f69f99dafadaaeafaba1caa7fa51922697ee2389ce0a6c7b6b1e2115c", func := "landbridge/landlaw4.BookPast", spec := "bookPast", inPlace := ["internal/bytealg.Compare", "slices.overlaps[landbridge/api.Pair]"], unfollowed := true, recurses := true, apart := false }
def BookPastSaid : Prop := bookPastRow.holds Try.pinned (OpenSpec.ofChange bookPastSpec)

/-- ITS FALSE NEIGHBOUR: 'it returns false'. Refute it at one input. -/
def bookPastWrong : ChangeSpec := { name := "bookPast", fn := fun _ => fun
  | [d1, d2, d3] => { results := [.lit (.bool false)], args := [d1, d2, d3] }
  | _ => none }
def BookPastWrongFalsely : Prop := bookPastRow.holds Try.pinned (OpenSpec.ofChange bookPastWrong)

/-- 'landlaw4.BookKeeps': WHATEVER THE INPUT: true; the input reads as it did. -/
def bookKeepsSpec : ChangeSpec := { name := "bookKeeps", fn := fun _ => fun
  | [d1, d2, d3] => { results := [.lit (.bool true)], args := [d1, d2, d3] }
  | _ => none }
def bookKeepsRow : OpenClaim := { program := "ythbnhbmakapglaa", sum := "bc06d75f69f99dafadaaeafaba1caa7fa51922697ee2389ce0a6c7b6b1e2115c", func := "landbridge/landlaw4.BookKeeps", spec := "bookKeeps", inPlace := ["internal/bytealg.Compare", "slices.overlaps[landbridge/api.Pair]"], unfollowed := true, recurses := true, apart := false }
def BookKeepsSaid : Prop := bookKeepsRow.holds Try.pinned (OpenSpec.ofChange bookKeepsSpec)

/-- ITS FALSE NEIGHBOUR: 'it returns false'. Refute it at one input. -/
def bookKeepsWrong : ChangeSpec := { name := "bookKeeps", fn := fun _ => fun
  | [d1, d2, d3] => { results := [.lit (.bool false)], args := [d1, d2, d3] }
  | _ => none }
def BookKeepsWrongFalsely : Prop := bookKeepsRow.holds Try.pinned (OpenSpec.ofChange bookKeepsWrong)

/-- 'landlaw5.ProofClashes': WHATEVER THE INPUT: true; the input reads as it did. -/
def proofClashesSpec : ChangeSpec := { name := "proofClashes", fn := fun _ => fun
  | [d1, d2] => { results := [.lit (.bool true)], args := [d1, d2] }
  | _ => none }
def proofClashesRow : OpenClaim := { program := "ythbnhbmakapglaa", sum := "bc06d75f69f99dafadaaeafaba1caa7fa51922697ee2389ce0a6c7b6b1e2115c", func := "landbridge/landlaw5.ProofClashes", spec := "proofClashes", inPlace := ["internal/bytealg.Compare", "internal/bytealg.MakeNoZero", "math/bits.Add64"], unfollowed := true, recurses := true, apart := false }
def ProofClashesSaid : Prop := proofClashesRow.holds Try.pinned (OpenSpec.ofChange proofClashesSpec)

/-- ITS FALSE NEIGHBOUR: 'it returns false'. Refute it at one input. -/
def proofClashesWrong : ChangeSpec := { name := "proofClashes", fn := fun _ => fun
  | [d1, d2] => { results := [.lit (.bool false)], args := [d1, d2] }
  | _ => none }
def ProofClashesWrongFalsely : Prop := proofClashesRow.holds Try.pinned (OpenSpec.ofChange proofClashesWrong)

/-- 'landlaw4.BookRoot': WHATEVER THE INPUT: true; the input reads as it did. -/
def bookRootSpec : ChangeSpec := { name := "bookRoot", fn := fun _ => fun
  | [d] => { results := [.lit (.bool true)], args := [d] }
  | _ => none }
def bookRootRow : OpenClaim := { program := "ythbnhbmakapglaa", sum := "bc06d75f69f99dafadaaeafaba1caa7fa51922697ee2389ce0a6c7b6b1e2115c", func := "landbridge/landlaw4.BookRoot", spec := "bookRoot", inPlace := ["internal/bytealg.Compare", "slices.overlaps[landbridge/api.Pair]", "math/bits.Add64"], unfollowed := true, recurses := true, apart := false }
def BookRootSaid : Prop := bookRootRow.holds Try.pinned (OpenSpec.ofChange bookRootSpec)

/-- ITS FALSE NEIGHBOUR: 'it returns false'. Refute it at one input. -/
def bookRootWrong : ChangeSpec := { name := "bookRoot", fn := fun _ => fun
  | [d] => { results := [.lit (.bool false)], args := [d] }
  | _ => none }
def BookRootWrongFalsely : Prop := bookRootRow.holds Try.pinned (OpenSpec.ofChange bookRootWrong)

/-- 'landlaw4.BookTells': WHATEVER THE INPUT: true; the input reads as it did. -/
def bookTellsSpec : ChangeSpec := { name := "bookTells", fn := fun _ => fun
  | [d1, d2, d3] => { results := [.lit (.bool true)], args := [d1, d2, d3] }
  | _ => none }
def bookTellsRow : OpenClaim := { program := "ythbnhbmakapglaa", sum := "bc06d75f69f99dafadaaeafaba1caa7fa51922697ee2389ce0a6c7b6b1e2115c", func := "landbridge/landlaw4.BookTells", spec := "bookTells", inPlace := ["internal/bytealg.Compare", "slices.overlaps[landbridge/api.Pair]", "math/bits.Add64"], unfollowed := true, recurses := true, apart := false }
def BookTellsSaid : Prop := bookTellsRow.holds Try.pinned (OpenSpec.ofChange bookTellsSpec)

/-- ITS FALSE NEIGHBOUR: 'it returns false'. Refute it at one input. -/
def bookTellsWrong : ChangeSpec := { name := "bookTells", fn := fun _ => fun
  | [d1, d2, d3] => { results := [.lit (.bool false)], args := [d1, d2, d3] }
  | _ => none }
def BookTellsWrongFalsely : Prop := bookTellsRow.holds Try.pinned (OpenSpec.ofChange bookTellsWrong)

/-- 'landlaw5.ProofBoth': WHATEVER THE INPUT: true; the input reads as it did. -/
def proofBothSpec : ChangeSpec := { name := "proofBoth", fn := fun _ => fun
  | [d1, d2, d3] => { results := [.lit (.bool true)], args := [d1, d2, d3] }
  | _ => none }
def proofBothRow : OpenClaim := { program := "ythbnhbmakapglaa", sum := "bc06d75f69f99dafadaaeafaba1caa7fa51922697ee2389ce0a6c7b6b1e2115c", func := "landbridge/landlaw5.ProofBoth", spec := "proofBoth", inPlace := ["internal/bytealg.Compare", "internal/bytealg.MakeNoZero", "math/bits.Add64"], unfollowed := true, recurses := true, apart := false }
def ProofBothSaid : Prop := proofBothRow.holds Try.pinned (OpenSpec.ofChange proofBothSpec)

/-- ITS FALSE NEIGHBOUR: 'it returns false'. Refute it at one input. -/
def proofBothWrong : ChangeSpec := { name := "proofBoth", fn := fun _ => fun
  | [d1, d2, d3] => { results := [.lit (.bool false)], args := [d1, d2, d3] }
  | _ => none }
def ProofBothWrongFalsely : Prop := proofBothRow.holds Try.pinned (OpenSpec.ofChange proofBothWrong)

/- THE SECOND FORM. 'bulk': how many values and letters a reading holds, each counted each time it is reached (what is shared counts as often as it is met; a slice's spare places count too). A statement '..UptoSaid' is the law's where the arguments, and the package variables that the reading takes, are together of bulk at most 1048576: NARROWER than '..Said'. Prove '..Said' where nothing that the law and all that it calls make is longer than what came in: it says more and counts as full. Else prove '..UptoSaid'. A law counts once. -/
mutual
def uptoBulk {H : Type} : DataW H → Nat
  | .lit (.string bytes) => bytes.length + 1
  | .lit _ => 1
  | .nil => 1
  | .ptr d => uptoBulk d + 1
  | .slice elems spare => uptoBulkAll elems + uptoBulkAll spare + 1
  | .agg parts => uptoBulkAll parts + 1
  | .iface _ d => uptoBulk d + 1
  | .map entries => uptoBulkEntries entries + 1
  | .held _ => 1
def uptoBulkAll {H : Type} : List (DataW H) → Nat
  | [] => 0
  | d :: r => uptoBulk d + uptoBulkAll r
def uptoBulkEntries {H : Type} : List (Lit × DataW H) → Nat
  | [] => 0
  | x :: r => uptoBulkEntry x + uptoBulkEntries r
def uptoBulkEntry {H : Type} : Lit × DataW H → Nat
  | (.string bytes, d) => bytes.length + uptoBulk d + 1
  | (_, d) => uptoBulk d + 1
 end
def uptoSmall : (H : Type) → List (DataW H) → Bool := fun _ ds => decide (uptoBulkAll ds ≤ 1048576)
def OpenSpec.upto (s : _root_.Go.ChangeSpec) : _root_.Go.OpenSpec := { _root_.Go.OpenSpec.ofChange s with cond := some uptoSmall }

/-- 'landlaw5.ProofShort', WHERE WHAT IT READS IS OF BULK AT MOST 1048576: true; the input reads as it did. -/
def proofShortUptoRow : OpenClaim := { program := "ythbnhbmakapglaa", sum := "bc06d75f69f99dafadaaeafaba1caa7fa51922697ee2389ce0a6c7b6b1e2115c", func := "landbridge/landlaw5.ProofShort", spec := "proofShort", inPlace := ["internal/bytealg.Compare"], unfollowed := true, recurses := true, apart := false, narrowed := true }
def ProofShortUptoSaid : Prop := proofShortUptoRow.holds Try.pinned (OpenSpec.upto proofShortSpec)

/-- 'landlaw5.ProofGood', WHERE WHAT IT READS IS OF BULK AT MOST 1048576: true; the input reads as it did. -/
def proofGoodUptoRow : OpenClaim := { program := "ythbnhbmakapglaa", sum := "bc06d75f69f99dafadaaeafaba1caa7fa51922697ee2389ce0a6c7b6b1e2115c", func := "landbridge/landlaw5.ProofGood", spec := "proofGood", inPlace := ["internal/bytealg.Compare"], unfollowed := true, recurses := true, apart := false, narrowed := true }
def ProofGoodUptoSaid : Prop := proofGoodUptoRow.holds Try.pinned (OpenSpec.upto proofGoodSpec)

/-- 'landlaw5.ProofTells', WHERE WHAT IT READS IS OF BULK AT MOST 1048576: true; the input reads as it did. -/
def proofTellsUptoRow : OpenClaim := { program := "ythbnhbmakapglaa", sum := "bc06d75f69f99dafadaaeafaba1caa7fa51922697ee2389ce0a6c7b6b1e2115c", func := "landbridge/landlaw5.ProofTells", spec := "proofTells", inPlace := ["internal/bytealg.Compare", "math/bits.Add64"], unfollowed := true, recurses := true, apart := false, narrowed := true }
def ProofTellsUptoSaid : Prop := proofTellsUptoRow.holds Try.pinned (OpenSpec.upto proofTellsSpec)

/-- 'landlaw5.ProofClash', WHERE WHAT IT READS IS OF BULK AT MOST 1048576: true; the input reads as it did. -/
def proofClashUptoRow : OpenClaim := { program := "ythbnhbmakapglaa", sum := "bc06d75f69f99dafadaaeafaba1caa7fa51922697ee2389ce0a6c7b6b1e2115c", func := "landbridge/landlaw5.ProofClash", spec := "proofClash", inPlace := ["internal/bytealg.Compare", "internal/bytealg.MakeNoZero"], unfollowed := true, recurses := true, apart := false, narrowed := true }
def ProofClashUptoSaid : Prop := proofClashUptoRow.holds Try.pinned (OpenSpec.upto proofClashSpec)

/-- 'landlaw5.ProofEdited', WHERE WHAT IT READS IS OF BULK AT MOST 1048576: true; the input reads as it did. -/
def proofEditedUptoRow : OpenClaim := { program := "ythbnhbmakapglaa", sum := "bc06d75f69f99dafadaaeafaba1caa7fa51922697ee2389ce0a6c7b6b1e2115c", func := "landbridge/landlaw5.ProofEdited", spec := "proofEdited", inPlace := ["internal/bytealg.Compare", "internal/bytealg.MakeNoZero"], unfollowed := true, recurses := true, apart := false, narrowed := true }
def ProofEditedUptoSaid : Prop := proofEditedUptoRow.holds Try.pinned (OpenSpec.upto proofEditedSpec)

/-- 'landlaw4.BookPast', WHERE WHAT IT READS IS OF BULK AT MOST 1048576: true; the input reads as it did. -/
def bookPastUptoRow : OpenClaim := { program := "ythbnhbmakapglaa", sum := "bc06d75f69f99dafadaaeafaba1caa7fa51922697ee2389ce0a6c7b6b1e2115c", func := "landbridge/landlaw4.BookPast", spec := "bookPast", inPlace := ["internal/bytealg.Compare", "slices.overlaps[landbridge/api.Pair]"], unfollowed := true, recurses := true, apart := false, narrowed := true }
def BookPastUptoSaid : Prop := bookPastUptoRow.holds Try.pinned (OpenSpec.upto bookPastSpec)

/-- 'landlaw4.BookKeeps', WHERE WHAT IT READS IS OF BULK AT MOST 1048576: true; the input reads as it did. -/
def bookKeepsUptoRow : OpenClaim := { program := "ythbnhbmakapglaa", sum := "bc06d75f69f99dafadaaeafaba1caa7fa51922697ee2389ce0a6c7b6b1e2115c", func := "landbridge/landlaw4.BookKeeps", spec := "bookKeeps", inPlace := ["internal/bytealg.Compare", "slices.overlaps[landbridge/api.Pair]"], unfollowed := true, recurses := true, apart := false, narrowed := true }
def BookKeepsUptoSaid : Prop := bookKeepsUptoRow.holds Try.pinned (OpenSpec.upto bookKeepsSpec)

/-- 'landlaw5.ProofClashes', WHERE WHAT IT READS IS OF BULK AT MOST 1048576: true; the input reads as it did. -/
def proofClashesUptoRow : OpenClaim := { program := "ythbnhbmakapglaa", sum := "bc06d75f69f99dafadaaeafaba1caa7fa51922697ee2389ce0a6c7b6b1e2115c", func := "landbridge/landlaw5.ProofClashes", spec := "proofClashes", inPlace := ["internal/bytealg.Compare", "internal/bytealg.MakeNoZero", "math/bits.Add64"], unfollowed := true, recurses := true, apart := false, narrowed := true }
def ProofClashesUptoSaid : Prop := proofClashesUptoRow.holds Try.pinned (OpenSpec.upto proofClashesSpec)

/-- 'landlaw4.BookRoot', WHERE WHAT IT READS IS OF BULK AT MOST 1048576: true; the input reads as it did. -/
def bookRootUptoRow : OpenClaim := { program := "ythbnhbmakapglaa", sum := "bc06d75f69f99dafadaaeafaba1caa7fa51922697ee2389ce0a6c7b6b1e2115c", func := "landbridge/landlaw4.BookRoot", spec := "bookRoot", inPlace := ["internal/bytealg.Compare", "slices.overlaps[landbridge/api.Pair]", "math/bits.Add64"], unfollowed := true, recurses := true, apart := false, narrowed := true }
def BookRootUptoSaid : Prop := bookRootUptoRow.holds Try.pinned (OpenSpec.upto bookRootSpec)

/-- 'landlaw4.BookTells', WHERE WHAT IT READS IS OF BULK AT MOST 1048576: true; the input reads as it did. -/
def bookTellsUptoRow : OpenClaim := { program := "ythbnhbmakapglaa", sum := "bc06d75f69f99dafadaaeafaba1caa7fa51922697ee2389ce0a6c7b6b1e2115c", func := "landbridge/landlaw4.BookTells", spec := "bookTells", inPlace := ["internal/bytealg.Compare", "slices.overlaps[landbridge/api.Pair]", "math/bits.Add64"], unfollowed := true, recurses := true, apart := false, narrowed := true }
def BookTellsUptoSaid : Prop := bookTellsUptoRow.holds Try.pinned (OpenSpec.upto bookTellsSpec)

/-- 'landlaw5.ProofBoth', WHERE WHAT IT READS IS OF BULK AT MOST 1048576: true; the input reads as it did. -/
def proofBothUptoRow : OpenClaim := { program := "ythbnhbmakapglaa", sum := "bc06d75f69f99dafadaaeafaba1caa7fa51922697ee2389ce0a6c7b6b1e2115c", func := "landbridge/landlaw5.ProofBoth", spec := "proofBoth", inPlace := ["internal/bytealg.Compare", "internal/bytealg.MakeNoZero", "math/bits.Add64"], unfollowed := true, recurses := true, apart := false, narrowed := true }
def ProofBothUptoSaid : Prop := proofBothUptoRow.holds Try.pinned (OpenSpec.upto proofBothSpec)

end Rows
end Go.Proofs.Ythbnhbmakapglaa
