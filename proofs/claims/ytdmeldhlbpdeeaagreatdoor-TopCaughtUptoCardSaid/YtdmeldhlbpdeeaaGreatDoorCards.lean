/-
  DERIVED. GIVEN WITH THE SEED: THE CARDS: each row of YtdmeldhlbpdeeaaGreatDoorRows.lean that lists a variable, with what it lists TIED to the program's text (the seventh form; the later family's looks); each row that meets fmt, with fmt's text TOLD by the authors' own Lean function (tested against real Go, not proved from fmt's source: count such statements apart). THE CARD IS WHAT COUNTS. Prove the row's statement (the work); the ties are given (YtdmeldhlbpdeeaaGreatDoorTie.lean); close each card by the builder's one call (the guide's Derived/Test/ToyasCard.lean, 'card_holds'). Laid BY PROGRAM, IN A SANDBOX (cutbox-door.mjs). By AI agents, Wed Nov 11 2026. No macro, syntax, notation, axiom, sorry.
-/
import Derived.Test.YtdmeldhlbpdeeaaGreatDoorRows
import GoSem.ClaimSeven
namespace Go.Proofs.YtdmeldhlbpdeeaaGreatDoor
namespace Rows

/-- THE TIED CARD OF 'landtop.TopShown'. -/
def topShownCard : Claim7 := { stood := { row := topShownRow, standIns := [], harness := (true, "cfbac2e1b5abc47f4718a0d6b12ae7a6ff6b87c030c497dcef073e671d9b5001"), looks := false }, kinds := [], alts := [], laidByText := true, laidKinds := [.data, .data, .data], laidTests := true, laidLooks := .later }
def TopShownCardSaid : Prop := Claim7.holds Tryz.pinned (.plain (OpenSpec.ofChange topShownSpec)) topShownCard

/-- THE TIED CARD OF 'landtop.TopLie'. -/
def topLieCard : Claim7 := { stood := { row := topLieRow, standIns := [], harness := (true, "cfbac2e1b5abc47f4718a0d6b12ae7a6ff6b87c030c497dcef073e671d9b5001"), looks := false }, kinds := [], alts := [], laidByText := true, laidKinds := [.data, .data, .data], laidTests := true, laidLooks := .later }
def TopLieCardSaid : Prop := Claim7.holds Tryz.pinned (.plain (OpenSpec.ofChange topLieSpec)) topLieCard

/-- THE TIED CARD OF 'landtop.TopCaught'. -/
def topCaughtCard : Claim7 := { stood := { row := topCaughtRow, standIns := [], harness := (true, "cfbac2e1b5abc47f4718a0d6b12ae7a6ff6b87c030c497dcef073e671d9b5001"), looks := false }, kinds := [], alts := [], laidByText := true, laidKinds := [.data, .data, .data], laidTests := true, laidLooks := .later }
def TopCaughtCardSaid : Prop := Claim7.holds Tryz.pinned (.plain (OpenSpec.ofChange topCaughtSpec)) topCaughtCard

/-- THE SECOND FORM's CARD OF 'landtop.TopShown'. -/
def topShownUptoCard : Claim7 := { stood := { row := topShownUptoRow, standIns := [], harness := (true, "cfbac2e1b5abc47f4718a0d6b12ae7a6ff6b87c030c497dcef073e671d9b5001"), looks := false }, kinds := [], alts := [], laidByText := true, laidKinds := [.data, .data, .data], laidTests := true, laidLooks := .later }
def TopShownUptoCardSaid : Prop := Claim7.holds Tryz.pinned (.plain (OpenSpec.upto topShownSpec)) topShownUptoCard

/-- THE SECOND FORM's CARD OF 'landtop.TopLie'. -/
def topLieUptoCard : Claim7 := { stood := { row := topLieUptoRow, standIns := [], harness := (true, "cfbac2e1b5abc47f4718a0d6b12ae7a6ff6b87c030c497dcef073e671d9b5001"), looks := false }, kinds := [], alts := [], laidByText := true, laidKinds := [.data, .data, .data], laidTests := true, laidLooks := .later }
def TopLieUptoCardSaid : Prop := Claim7.holds Tryz.pinned (.plain (OpenSpec.upto topLieSpec)) topLieUptoCard

/-- THE SECOND FORM's CARD OF 'landtop.TopCaught'. -/
def topCaughtUptoCard : Claim7 := { stood := { row := topCaughtUptoRow, standIns := [], harness := (true, "cfbac2e1b5abc47f4718a0d6b12ae7a6ff6b87c030c497dcef073e671d9b5001"), looks := false }, kinds := [], alts := [], laidByText := true, laidKinds := [.data, .data, .data], laidTests := true, laidLooks := .later }
def TopCaughtUptoCardSaid : Prop := Claim7.holds Tryz.pinned (.plain (OpenSpec.upto topCaughtSpec)) topCaughtUptoCard
end Rows
end Go.Proofs.YtdmeldhlbpdeeaaGreatDoor
