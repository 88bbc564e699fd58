/-
  No cell of these rows narrows 'for every input' (looked for: loops, veiled, ifaces, maps, wideKeys, modest, calm, conditions, laid).
  DERIVED. THE GIVEN ROWS OF THIS SEAT. 13 by the template 'for every input the law returns true; each argument reads behind the call as it read before'; 0 by the template 'total and deterministic' (their statements: YtdpfjmkilbepgaaTotals.lean).
  GIVEN WITH THE SEED: the statements are not yours to turn. If you find one false, say at which input.
  Laid BY PROGRAM, IN A SANDBOX (cutbox-rows.mjs): the forced cells as the released guide's own fill.sh prints them over the translation c52337487e0811ec… (all of the seat's roots in one cut). By AI agents, Wed Nov 11 2026. No macro, syntax, notation, axiom, sorry.
-/
import Derived.Test.YtdpfjmkilbepgaaChecked
import GoSem.Claim
import GoSem.ClaimJoined
import GoSem.ClaimMapViews
import Derived.JoinedTies
import Derived.KernelRfl
namespace Go.Proofs.Ytdpfjmkilbepgaa
/- THE CELL 'sum', in the pinned program and in every row, IS THE sha256 OF THE DUMP (.gsa) THAT YtdpfjmkilbepgaaProg.lean LOADS. Nothing in Lean hashes anything: it is a label: what it is worth is what the hold of that sum in a sandbox is worth. -/
noncomputable def Try.pinned : Pinned := { name := "ytdpfjmkilbepgaa", sum := "c52337487e0811ec5ed02d15252841b343dc796439ced86049260e7c34bf9780", checked := Try.checked }
namespace Rows
def none {H : Type} : Left H := { results := [], args := [] }

/-- 'landlaw7.ClientShown': WHATEVER THE INPUT: true; the input reads as it did. -/
def clientShownSpec : ChangeSpec := { name := "clientShown", fn := fun _ => fun
  | [d1, d2, d3, d4, d5, d6, d7] => { results := [.lit (.bool true)], args := [d1, d2, d3, d4, d5, d6, d7] }
  | _ => none }
def clientShownRow : OpenClaim := { program := "ytdpfjmkilbepgaa", sum := "c52337487e0811ec5ed02d15252841b343dc796439ced86049260e7c34bf9780", func := "landbridge/landlaw7.ClientShown", spec := "clientShown", inPlace := ["math/bits.Add64", "internal/bytealg.Compare"], unfollowed := true, recurses := true, apart := false }
def ClientShownSaid : Prop := clientShownRow.holds Try.pinned (OpenSpec.ofChange clientShownSpec)

/-- ITS FALSE NEIGHBOUR: 'it returns false'. Refute it at one input. -/
def clientShownWrong : ChangeSpec := { name := "clientShown", fn := fun _ => fun
  | [d1, d2, d3, d4, d5, d6, d7] => { results := [.lit (.bool false)], args := [d1, d2, d3, d4, d5, d6, d7] }
  | _ => none }
def ClientShownWrongFalsely : Prop := clientShownRow.holds Try.pinned (OpenSpec.ofChange clientShownWrong)

/-- 'landlaw6.HeaderVoted': WHATEVER THE INPUT: true; the input reads as it did. -/
def headerVotedSpec : ChangeSpec := { name := "headerVoted", fn := fun _ => fun
  | [d1, d2, d3] => { results := [.lit (.bool true)], args := [d1, d2, d3] }
  | _ => none }
def headerVotedRow : OpenClaim := { program := "ytdpfjmkilbepgaa", sum := "c52337487e0811ec5ed02d15252841b343dc796439ced86049260e7c34bf9780", func := "landbridge/landlaw6.HeaderVoted", spec := "headerVoted", inPlace := ["math/bits.Add64"], named := ["math/bits.divideError", "math/bits.overflowError"], apart := false }
def HeaderVotedSaid : Prop := headerVotedRow.holds Try.pinned (OpenSpec.ofChange headerVotedSpec)

/-- ITS FALSE NEIGHBOUR: 'it returns false'. Refute it at one input. -/
def headerVotedWrong : ChangeSpec := { name := "headerVoted", fn := fun _ => fun
  | [d1, d2, d3] => { results := [.lit (.bool false)], args := [d1, d2, d3] }
  | _ => none }
def HeaderVotedWrongFalsely : Prop := headerVotedRow.holds Try.pinned (OpenSpec.ofChange headerVotedWrong)

/-- 'landlaw6.HeaderEdited': WHATEVER THE INPUT: true; the input reads as it did. -/
def headerEditedSpec : ChangeSpec := { name := "headerEdited", fn := fun _ => fun
  | [d1, d2, d3, d4] => { results := [.lit (.bool true)], args := [d1, d2, d3, d4] }
  | _ => none }
def headerEditedRow : OpenClaim := { program := "ytdpfjmkilbepgaa", sum := "c52337487e0811ec5ed02d15252841b343dc796439ced86049260e7c34bf9780", func := "landbridge/landlaw6.HeaderEdited", spec := "headerEdited", inPlace := ["math/bits.Add64"], named := ["math/bits.divideError", "math/bits.overflowError"], apart := false }
def HeaderEditedSaid : Prop := headerEditedRow.holds Try.pinned (OpenSpec.ofChange headerEditedSpec)

/-- ITS FALSE NEIGHBOUR: 'it returns false'. Refute it at one input. -/
def headerEditedWrong : ChangeSpec := { name := "headerEdited", fn := fun _ => fun
  | [d1, d2, d3, d4] => { results := [.lit (.bool false)], args := [d1, d2, d3, d4] }
  | _ => none }
def HeaderEditedWrongFalsely : Prop := headerEditedRow.holds Try.pinned (OpenSpec.ofChange headerEditedWrong)

/-- 'landlaw6.HeaderMore': WHATEVER THE INPUT: true; the input reads as it did. -/
def headerMoreSpec : ChangeSpec := { name := "headerMore", fn := fun _ => fun
  | [d1, d2, d3, d4] => { results := [.lit (.bool true)], args := [d1, d2, d3, d4] }
  | _ => none }
def headerMoreRow : OpenClaim := { program := "ytdpfjmkilbepgaa", sum := "c52337487e0811ec5ed02d15252841b343dc796439ced86049260e7c34bf9780", func := "landbridge/landlaw6.HeaderMore", spec := "headerMore", inPlace := ["math/bits.Add64"], named := ["math/bits.divideError", "math/bits.overflowError"], apart := false }
def HeaderMoreSaid : Prop := headerMoreRow.holds Try.pinned (OpenSpec.ofChange headerMoreSpec)

/-- ITS FALSE NEIGHBOUR: 'it returns false'. Refute it at one input. -/
def headerMoreWrong : ChangeSpec := { name := "headerMore", fn := fun _ => fun
  | [d1, d2, d3, d4] => { results := [.lit (.bool false)], args := [d1, d2, d3, d4] }
  | _ => none }
def HeaderMoreWrongFalsely : Prop := headerMoreRow.holds Try.pinned (OpenSpec.ofChange headerMoreWrong)

/-- 'landlaw6.HeaderUnlike': WHATEVER THE INPUT: true; the input reads as it did. -/
def headerUnlikeSpec : ChangeSpec := { name := "headerUnlike", fn := fun _ => fun
  | [d1, d2] => { results := [.lit (.bool true)], args := [d1, d2] }
  | _ => none }
def headerUnlikeRow : OpenClaim := { program := "ytdpfjmkilbepgaa", sum := "c52337487e0811ec5ed02d15252841b343dc796439ced86049260e7c34bf9780", func := "landbridge/landlaw6.HeaderUnlike", spec := "headerUnlike", inPlace := ["math/bits.Add64"], named := ["math/bits.divideError", "math/bits.overflowError"], apart := false }
def HeaderUnlikeSaid : Prop := headerUnlikeRow.holds Try.pinned (OpenSpec.ofChange headerUnlikeSpec)

/-- ITS FALSE NEIGHBOUR: 'it returns false'. Refute it at one input. -/
def headerUnlikeWrong : ChangeSpec := { name := "headerUnlike", fn := fun _ => fun
  | [d1, d2] => { results := [.lit (.bool false)], args := [d1, d2] }
  | _ => none }
def HeaderUnlikeWrongFalsely : Prop := headerUnlikeRow.holds Try.pinned (OpenSpec.ofChange headerUnlikeWrong)

/-- 'landlaw6.HeaderTells': WHATEVER THE INPUT: true; the input reads as it did. -/
def headerTellsSpec : ChangeSpec := { name := "headerTells", fn := fun _ => fun
  | [d1, d2, d3, d4, d5] => { results := [.lit (.bool true)], args := [d1, d2, d3, d4, d5] }
  | _ => none }
def headerTellsRow : OpenClaim := { program := "ytdpfjmkilbepgaa", sum := "c52337487e0811ec5ed02d15252841b343dc796439ced86049260e7c34bf9780", func := "landbridge/landlaw6.HeaderTells", spec := "headerTells", inPlace := ["math/bits.Add64"], named := ["math/bits.divideError", "math/bits.overflowError"], apart := false }
def HeaderTellsSaid : Prop := headerTellsRow.holds Try.pinned (OpenSpec.ofChange headerTellsSpec)

/-- ITS FALSE NEIGHBOUR: 'it returns false'. Refute it at one input. -/
def headerTellsWrong : ChangeSpec := { name := "headerTells", fn := fun _ => fun
  | [d1, d2, d3, d4, d5] => { results := [.lit (.bool false)], args := [d1, d2, d3, d4, d5] }
  | _ => none }
def HeaderTellsWrongFalsely : Prop := headerTellsRow.holds Try.pinned (OpenSpec.ofChange headerTellsWrong)

/-- 'landlaw6.HeaderMeet': WHATEVER THE INPUT: true; the input reads as it did. -/
def headerMeetSpec : ChangeSpec := { name := "headerMeet", fn := fun _ => fun
  | [d1, d2, d3, d4, d5] => { results := [.lit (.bool true)], args := [d1, d2, d3, d4, d5] }
  | _ => none }
def headerMeetRow : OpenClaim := { program := "ytdpfjmkilbepgaa", sum := "c52337487e0811ec5ed02d15252841b343dc796439ced86049260e7c34bf9780", func := "landbridge/landlaw6.HeaderMeet", spec := "headerMeet", inPlace := ["math/bits.Add64"], named := ["math/bits.divideError", "math/bits.overflowError"], apart := false }
def HeaderMeetSaid : Prop := headerMeetRow.holds Try.pinned (OpenSpec.ofChange headerMeetSpec)

/-- ITS FALSE NEIGHBOUR: 'it returns false'. Refute it at one input. -/
def headerMeetWrong : ChangeSpec := { name := "headerMeet", fn := fun _ => fun
  | [d1, d2, d3, d4, d5] => { results := [.lit (.bool false)], args := [d1, d2, d3, d4, d5] }
  | _ => none }
def HeaderMeetWrongFalsely : Prop := headerMeetRow.holds Try.pinned (OpenSpec.ofChange headerMeetWrong)

/-- 'landlaw7.ClientKeeps': WHATEVER THE INPUT: true; the input reads as it did. -/
def clientKeepsSpec : ChangeSpec := { name := "clientKeeps", fn := fun _ => fun
  | [d1, d2, d3] => { results := [.lit (.bool true)], args := [d1, d2, d3] }
  | _ => none }
def clientKeepsRow : OpenClaim := { program := "ytdpfjmkilbepgaa", sum := "c52337487e0811ec5ed02d15252841b343dc796439ced86049260e7c34bf9780", func := "landbridge/landlaw7.ClientKeeps", spec := "clientKeeps", inPlace := ["slices.overlaps[landbridge/api.Known]"], unfollowed := true, recurses := true, named := ["math/bits.divideError", "math/bits.overflowError"], apart := false }
def ClientKeepsSaid : Prop := clientKeepsRow.holds Try.pinned (OpenSpec.ofChange clientKeepsSpec)

/-- ITS FALSE NEIGHBOUR: 'it returns false'. Refute it at one input. -/
def clientKeepsWrong : ChangeSpec := { name := "clientKeeps", fn := fun _ => fun
  | [d1, d2, d3] => { results := [.lit (.bool false)], args := [d1, d2, d3] }
  | _ => none }
def ClientKeepsWrongFalsely : Prop := clientKeepsRow.holds Try.pinned (OpenSpec.ofChange clientKeepsWrong)

/-- 'landlaw7.ClientTwice': WHATEVER THE INPUT: true; the input reads as it did. -/
def clientTwiceSpec : ChangeSpec := { name := "clientTwice", fn := fun _ => fun
  | [d1, d2, d3] => { results := [.lit (.bool true)], args := [d1, d2, d3] }
  | _ => none }
def clientTwiceRow : OpenClaim := { program := "ytdpfjmkilbepgaa", sum := "c52337487e0811ec5ed02d15252841b343dc796439ced86049260e7c34bf9780", func := "landbridge/landlaw7.ClientTwice", spec := "clientTwice", inPlace := ["slices.overlaps[landbridge/api.Known]"], unfollowed := true, recurses := true, named := ["math/bits.divideError", "math/bits.overflowError"], apart := false }
def ClientTwiceSaid : Prop := clientTwiceRow.holds Try.pinned (OpenSpec.ofChange clientTwiceSpec)

/-- ITS FALSE NEIGHBOUR: 'it returns false'. Refute it at one input. -/
def clientTwiceWrong : ChangeSpec := { name := "clientTwice", fn := fun _ => fun
  | [d1, d2, d3] => { results := [.lit (.bool false)], args := [d1, d2, d3] }
  | _ => none }
def ClientTwiceWrongFalsely : Prop := clientTwiceRow.holds Try.pinned (OpenSpec.ofChange clientTwiceWrong)

/-- 'landlaw7.ClientWays': WHATEVER THE INPUT: true; the input reads as it did. -/
def clientWaysSpec : ChangeSpec := { name := "clientWays", fn := fun _ => fun
  | [d1, d2, d3, d4] => { results := [.lit (.bool true)], args := [d1, d2, d3, d4] }
  | _ => none }
def clientWaysRow : OpenClaim := { program := "ytdpfjmkilbepgaa", sum := "c52337487e0811ec5ed02d15252841b343dc796439ced86049260e7c34bf9780", func := "landbridge/landlaw7.ClientWays", spec := "clientWays", inPlace := ["slices.overlaps[landbridge/api.Known]"], unfollowed := true, recurses := true, named := ["math/bits.divideError", "math/bits.overflowError"], apart := false }
def ClientWaysSaid : Prop := clientWaysRow.holds Try.pinned (OpenSpec.ofChange clientWaysSpec)

/-- ITS FALSE NEIGHBOUR: 'it returns false'. Refute it at one input. -/
def clientWaysWrong : ChangeSpec := { name := "clientWays", fn := fun _ => fun
  | [d1, d2, d3, d4] => { results := [.lit (.bool false)], args := [d1, d2, d3, d4] }
  | _ => none }
def ClientWaysWrongFalsely : Prop := clientWaysRow.holds Try.pinned (OpenSpec.ofChange clientWaysWrong)

/-- 'landlaw7.ClientVoted': WHATEVER THE INPUT: true; the input reads as it did. -/
def clientVotedSpec : ChangeSpec := { name := "clientVoted", fn := fun _ => fun
  | [d1, d2, d3] => { results := [.lit (.bool true)], args := [d1, d2, d3] }
  | _ => none }
def clientVotedRow : OpenClaim := { program := "ytdpfjmkilbepgaa", sum := "c52337487e0811ec5ed02d15252841b343dc796439ced86049260e7c34bf9780", func := "landbridge/landlaw7.ClientVoted", spec := "clientVoted", inPlace := ["slices.overlaps[landbridge/api.Known]", "math/bits.Add64"], unfollowed := true, recurses := true, named := ["math/bits.divideError", "math/bits.overflowError"], apart := false }
def ClientVotedSaid : Prop := clientVotedRow.holds Try.pinned (OpenSpec.ofChange clientVotedSpec)

/-- ITS FALSE NEIGHBOUR: 'it returns false'. Refute it at one input. -/
def clientVotedWrong : ChangeSpec := { name := "clientVoted", fn := fun _ => fun
  | [d1, d2, d3] => { results := [.lit (.bool false)], args := [d1, d2, d3] }
  | _ => none }
def ClientVotedWrongFalsely : Prop := clientVotedRow.holds Try.pinned (OpenSpec.ofChange clientVotedWrong)

/-- 'landlaw7.ClientTells': WHATEVER THE INPUT: true; the input reads as it did. -/
def clientTellsSpec : ChangeSpec := { name := "clientTells", fn := fun _ => fun
  | [d1, d2, d3, d4, d5] => { results := [.lit (.bool true)], args := [d1, d2, d3, d4, d5] }
  | _ => none }
def clientTellsRow : OpenClaim := { program := "ytdpfjmkilbepgaa", sum := "c52337487e0811ec5ed02d15252841b343dc796439ced86049260e7c34bf9780", func := "landbridge/landlaw7.ClientTells", spec := "clientTells", inPlace := ["slices.overlaps[landbridge/api.Known]", "math/bits.Add64"], unfollowed := true, recurses := true, named := ["math/bits.divideError", "math/bits.overflowError"], apart := false }
def ClientTellsSaid : Prop := clientTellsRow.holds Try.pinned (OpenSpec.ofChange clientTellsSpec)

/-- ITS FALSE NEIGHBOUR: 'it returns false'. Refute it at one input. -/
def clientTellsWrong : ChangeSpec := { name := "clientTells", fn := fun _ => fun
  | [d1, d2, d3, d4, d5] => { results := [.lit (.bool false)], args := [d1, d2, d3, d4, d5] }
  | _ => none }
def ClientTellsWrongFalsely : Prop := clientTellsRow.holds Try.pinned (OpenSpec.ofChange clientTellsWrong)

/-- 'landlaw7.ClientFrozen': WHATEVER THE INPUT: true; the input reads as it did. -/
def clientFrozenSpec : ChangeSpec := { name := "clientFrozen", fn := fun _ => fun
  | [d1, d2, d3, d4, d5, d6, d7, d8, d9] => { results := [.lit (.bool true)], args := [d1, d2, d3, d4, d5, d6, d7, d8, d9] }
  | _ => none }
def clientFrozenRow : OpenClaim := { program := "ytdpfjmkilbepgaa", sum := "c52337487e0811ec5ed02d15252841b343dc796439ced86049260e7c34bf9780", func := "landbridge/landlaw7.ClientFrozen", spec := "clientFrozen", inPlace := ["slices.overlaps[landbridge/api.Known]", "internal/bytealg.Compare"], unfollowed := true, recurses := true, named := ["math/bits.divideError", "math/bits.overflowError"], apart := false }
def ClientFrozenSaid : Prop := clientFrozenRow.holds Try.pinned (OpenSpec.ofChange clientFrozenSpec)

/-- ITS FALSE NEIGHBOUR: 'it returns false'. Refute it at one input. -/
def clientFrozenWrong : ChangeSpec := { name := "clientFrozen", fn := fun _ => fun
  | [d1, d2, d3, d4, d5, d6, d7, d8, d9] => { results := [.lit (.bool false)], args := [d1, d2, d3, d4, d5, d6, d7, d8, d9] }
  | _ => none }
def ClientFrozenWrongFalsely : Prop := clientFrozenRow.holds Try.pinned (OpenSpec.ofChange clientFrozenWrong)

/- THE SECOND FORM. 'bulk': how many values and letters a reading holds, each counted each time it is reached (what is shared counts as often as it is met; a slice's spare places count too). A statement '..UptoSaid' is the law's where the arguments, and the package variables that the reading takes, are together of bulk at most 1048576: NARROWER than '..Said'. Prove '..Said' where nothing that the law and all that it calls make is longer than what came in: it says more and counts as full. Else prove '..UptoSaid'. A law counts once. -/
mutual
def uptoBulk {H : Type} : DataW H → Nat
  | .lit (.string bytes) => bytes.length + 1
  | .lit _ => 1
  | .nil => 1
  | .ptr d => uptoBulk d + 1
  | .slice elems spare => uptoBulkAll elems + uptoBulkAll spare + 1
  | .agg parts => uptoBulkAll parts + 1
  | .iface _ d => uptoBulk d + 1
  | .map entries => uptoBulkEntries entries + 1
  | .held _ => 1
def uptoBulkAll {H : Type} : List (DataW H) → Nat
  | [] => 0
  | d :: r => uptoBulk d + uptoBulkAll r
def uptoBulkEntries {H : Type} : List (Lit × DataW H) → Nat
  | [] => 0
  | x :: r => uptoBulkEntry x + uptoBulkEntries r
def uptoBulkEntry {H : Type} : Lit × DataW H → Nat
  | (.string bytes, d) => bytes.length + uptoBulk d + 1
  | (_, d) => uptoBulk d + 1
 end
def uptoSmall : (H : Type) → List (DataW H) → Bool := fun _ ds => decide (uptoBulkAll ds ≤ 1048576)
def OpenSpec.upto (s : _root_.Go.ChangeSpec) : _root_.Go.OpenSpec := { _root_.Go.OpenSpec.ofChange s with cond := some uptoSmall }

/-- 'landlaw7.ClientShown', WHERE WHAT IT READS IS OF BULK AT MOST 1048576: true; the input reads as it did. -/
def clientShownUptoRow : OpenClaim := { program := "ytdpfjmkilbepgaa", sum := "c52337487e0811ec5ed02d15252841b343dc796439ced86049260e7c34bf9780", func := "landbridge/landlaw7.ClientShown", spec := "clientShown", inPlace := ["math/bits.Add64", "internal/bytealg.Compare"], unfollowed := true, recurses := true, apart := false, narrowed := true }
def ClientShownUptoSaid : Prop := clientShownUptoRow.holds Try.pinned (OpenSpec.upto clientShownSpec)

/-- 'landlaw6.HeaderVoted', WHERE WHAT IT READS IS OF BULK AT MOST 1048576: true; the input reads as it did. -/
def headerVotedUptoRow : OpenClaim := { program := "ytdpfjmkilbepgaa", sum := "c52337487e0811ec5ed02d15252841b343dc796439ced86049260e7c34bf9780", func := "landbridge/landlaw6.HeaderVoted", spec := "headerVoted", inPlace := ["math/bits.Add64"], named := ["math/bits.divideError", "math/bits.overflowError"], apart := false, narrowed := true }
def HeaderVotedUptoSaid : Prop := headerVotedUptoRow.holds Try.pinned (OpenSpec.upto headerVotedSpec)

/-- 'landlaw6.HeaderEdited', WHERE WHAT IT READS IS OF BULK AT MOST 1048576: true; the input reads as it did. -/
def headerEditedUptoRow : OpenClaim := { program := "ytdpfjmkilbepgaa", sum := "c52337487e0811ec5ed02d15252841b343dc796439ced86049260e7c34bf9780", func := "landbridge/landlaw6.HeaderEdited", spec := "headerEdited", inPlace := ["math/bits.Add64"], named := ["math/bits.divideError", "math/bits.overflowError"], apart := false, narrowed := true }
def HeaderEditedUptoSaid : Prop := headerEditedUptoRow.holds Try.pinned (OpenSpec.upto headerEditedSpec)

/-- 'landlaw6.HeaderMore', WHERE WHAT IT READS IS OF BULK AT MOST 1048576: true; the input reads as it did. -/
def headerMoreUptoRow : OpenClaim := { program := "ytdpfjmkilbepgaa", sum := "c52337487e0811ec5ed02d15252841b343dc796439ced86049260e7c34bf9780", func := "landbridge/landlaw6.HeaderMore", spec := "headerMore", inPlace := ["math/bits.Add64"], named := ["math/bits.divideError", "math/bits.overflowError"], apart := false, narrowed := true }
def HeaderMoreUptoSaid : Prop := headerMoreUptoRow.holds Try.pinned (OpenSpec.upto headerMoreSpec)

/-- 'landlaw6.HeaderUnlike', WHERE WHAT IT READS IS OF BULK AT MOST 1048576: true; the input reads as it did. -/
def headerUnlikeUptoRow : OpenClaim := { program := "ytdpfjmkilbepgaa", sum := "c52337487e0811ec5ed02d15252841b343dc796439ced86049260e7c34bf9780", func := "landbridge/landlaw6.HeaderUnlike", spec := "headerUnlike", inPlace := ["math/bits.Add64"], named := ["math/bits.divideError", "math/bits.overflowError"], apart := false, narrowed := true }
def HeaderUnlikeUptoSaid : Prop := headerUnlikeUptoRow.holds Try.pinned (OpenSpec.upto headerUnlikeSpec)

/-- 'landlaw6.HeaderTells', WHERE WHAT IT READS IS OF BULK AT MOST 1048576: true; the input reads as it did. -/
def headerTellsUptoRow : OpenClaim := { program := "ytdpfjmkilbepgaa", sum := "c52337487e0811ec5ed02d15252841b343dc796439ced86049260e7c34bf9780", func := "landbridge/landlaw6.HeaderTells", spec := "headerTells", inPlace := ["math/bits.Add64"], named := ["math/bits.divideError", "math/bits.overflowError"], apart := false, narrowed := true }
def HeaderTellsUptoSaid : Prop := headerTellsUptoRow.holds Try.pinned (OpenSpec.upto headerTellsSpec)

/-- 'landlaw6.HeaderMeet', WHERE WHAT IT READS IS OF BULK AT MOST 1048576: true; the input reads as it did. -/
def headerMeetUptoRow : OpenClaim := { program := "ytdpfjmkilbepgaa", sum := "c52337487e0811ec5ed02d15252841b343dc796439ced86049260e7c34bf9780", func := "landbridge/landlaw6.HeaderMeet", spec := "headerMeet", inPlace := ["math/bits.Add64"], named := ["math/bits.divideError", "math/bits.overflowError"], apart := false, narrowed := true }
def HeaderMeetUptoSaid : Prop := headerMeetUptoRow.holds Try.pinned (OpenSpec.upto headerMeetSpec)

/-- 'landlaw7.ClientKeeps', WHERE WHAT IT READS IS OF BULK AT MOST 1048576: true; the input reads as it did. -/
def clientKeepsUptoRow : OpenClaim := { program := "ytdpfjmkilbepgaa", sum := "c52337487e0811ec5ed02d15252841b343dc796439ced86049260e7c34bf9780", func := "landbridge/landlaw7.ClientKeeps", spec := "clientKeeps", inPlace := ["slices.overlaps[landbridge/api.Known]"], unfollowed := true, recurses := true, named := ["math/bits.divideError", "math/bits.overflowError"], apart := false, narrowed := true }
def ClientKeepsUptoSaid : Prop := clientKeepsUptoRow.holds Try.pinned (OpenSpec.upto clientKeepsSpec)

/-- 'landlaw7.ClientTwice', WHERE WHAT IT READS IS OF BULK AT MOST 1048576: true; the input reads as it did. -/
def clientTwiceUptoRow : OpenClaim := { program := "ytdpfjmkilbepgaa", sum := "c52337487e0811ec5ed02d15252841b343dc796439ced86049260e7c34bf9780", func := "landbridge/landlaw7.ClientTwice", spec := "clientTwice", inPlace := ["slices.overlaps[landbridge/api.Known]"], unfollowed := true, recurses := true, named := ["math/bits.divideError", "math/bits.overflowError"], apart := false, narrowed := true }
def ClientTwiceUptoSaid : Prop := clientTwiceUptoRow.holds Try.pinned (OpenSpec.upto clientTwiceSpec)

/-- 'landlaw7.ClientWays', WHERE WHAT IT READS IS OF BULK AT MOST 1048576: true; the input reads as it did. -/
def clientWaysUptoRow : OpenClaim := { program := "ytdpfjmkilbepgaa", sum := "c52337487e0811ec5ed02d15252841b343dc796439ced86049260e7c34bf9780", func := "landbridge/landlaw7.ClientWays", spec := "clientWays", inPlace := ["slices.overlaps[landbridge/api.Known]"], unfollowed := true, recurses := true, named := ["math/bits.divideError", "math/bits.overflowError"], apart := false, narrowed := true }
def ClientWaysUptoSaid : Prop := clientWaysUptoRow.holds Try.pinned (OpenSpec.upto clientWaysSpec)

/-- 'landlaw7.ClientVoted', WHERE WHAT IT READS IS OF BULK AT MOST 1048576: true; the input reads as it did. -/
def clientVotedUptoRow : OpenClaim := { program := "ytdpfjmkilbepgaa", sum := "c52337487e0811ec5ed02d15252841b343dc796439ced86049260e7c34bf9780", func := "landbridge/landlaw7.ClientVoted", spec := "clientVoted", inPlace := ["slices.overlaps[landbridge/api.Known]", "math/bits.Add64"], unfollowed := true, recurses := true, named := ["math/bits.divideError", "math/bits.overflowError"], apart := false, narrowed := true }
def ClientVotedUptoSaid : Prop := clientVotedUptoRow.holds Try.pinned (OpenSpec.upto clientVotedSpec)

/-- 'landlaw7.ClientTells', WHERE WHAT IT READS IS OF BULK AT MOST 1048576: true; the input reads as it did. -/
def clientTellsUptoRow : OpenClaim := { program := "ytdpfjmkilbepgaa", sum := "c52337487e0811ec5ed02d15252841b343dc796439ced86049260e7c34bf9780", func := "landbridge/landlaw7.ClientTells", spec := "clientTells", inPlace := ["slices.overlaps[landbridge/api.Known]", "math/bits.Add64"], unfollowed := true, recurses := true, named := ["math/bits.divideError", "math/bits.overflowError"], apart := false, narrowed := true }
def ClientTellsUptoSaid : Prop := clientTellsUptoRow.holds Try.pinned (OpenSpec.upto clientTellsSpec)

/-- 'landlaw7.ClientFrozen', WHERE WHAT IT READS IS OF BULK AT MOST 1048576: true; the input reads as it did. -/
def clientFrozenUptoRow : OpenClaim := { program := "ytdpfjmkilbepgaa", sum := "c52337487e0811ec5ed02d15252841b343dc796439ced86049260e7c34bf9780", func := "landbridge/landlaw7.ClientFrozen", spec := "clientFrozen", inPlace := ["slices.overlaps[landbridge/api.Known]", "internal/bytealg.Compare"], unfollowed := true, recurses := true, named := ["math/bits.divideError", "math/bits.overflowError"], apart := false, narrowed := true }
def ClientFrozenUptoSaid : Prop := clientFrozenUptoRow.holds Try.pinned (OpenSpec.upto clientFrozenSpec)

end Rows
end Go.Proofs.Ytdpfjmkilbepgaa
