/-
  DERIVED. GIVEN WITH THE SEED: THE CARDS: each row of YtoifllbioldomaaGreatDoorRows.lean that lists a variable, with what it lists TIED to the program's text (the seventh form; the later family's looks); each row that meets fmt, with fmt's text TOLD by the authors' own Lean function (tested against real Go, not proved from fmt's source: count such statements apart). THE CARD IS WHAT COUNTS. Prove the row's statement (the work); the ties are given (YtoifllbioldomaaGreatDoorTie.lean); close each card by the builder's one call (the guide's Derived/Test/ToyasCard.lean, 'card_holds'). Laid BY PROGRAM, IN A SANDBOX (cutbox-door.mjs). By AI agents, Wed Nov 11 2026. No macro, syntax, notation, axiom, sorry.
-/
import Derived.Test.YtoifllbioldomaaGreatDoorRows
import GoSem.ClaimSeven
namespace Go.Proofs.YtoifllbioldomaaGreatDoor
namespace Rows

/-- THE TIED CARD OF 'landtop.TopArrives'. -/
def topArrivesCard : Claim7 := { stood := { row := topArrivesRow, standIns := [], harness := (true, "08e6d4d8f101925bd72ec9043f28afc30474f1a076b41ae3af043c10a894ac62"), looks := false }, kinds := [], alts := [], laidByText := true, laidKinds := [.data, .data, .data], laidTests := true, laidLooks := .later }
def TopArrivesCardSaid : Prop := Claim7.holds Tryz.pinned (.plain (OpenSpec.ofChange topArrivesSpec)) topArrivesCard

/-- THE TIED CARD OF 'landtop.TopReturns'. -/
def topReturnsCard : Claim7 := { stood := { row := topReturnsRow, standIns := [], harness := (true, "08e6d4d8f101925bd72ec9043f28afc30474f1a076b41ae3af043c10a894ac62"), looks := false }, kinds := [], alts := [], laidByText := true, laidKinds := [.data, .data, .data], laidTests := true, laidLooks := .later }
def TopReturnsCardSaid : Prop := Claim7.holds Tryz.pinned (.plain (OpenSpec.ofChange topReturnsSpec)) topReturnsCard

/-- THE TIED CARD OF 'landtop.TopLate'. -/
def topLateCard : Claim7 := { stood := { row := topLateRow, standIns := [], harness := (true, "08e6d4d8f101925bd72ec9043f28afc30474f1a076b41ae3af043c10a894ac62"), looks := false }, kinds := [], alts := [], laidByText := true, laidKinds := [.data, .data, .data], laidTests := true, laidLooks := .later }
def TopLateCardSaid : Prop := Claim7.holds Tryz.pinned (.plain (OpenSpec.ofChange topLateSpec)) topLateCard

/-- THE TIED CARD OF 'landtop.TopTwice'. -/
def topTwiceCard : Claim7 := { stood := { row := topTwiceRow, standIns := [], harness := (true, "08e6d4d8f101925bd72ec9043f28afc30474f1a076b41ae3af043c10a894ac62"), looks := false }, kinds := [], alts := [], laidByText := true, laidKinds := [.data, .data, .data], laidTests := true, laidLooks := .later }
def TopTwiceCardSaid : Prop := Claim7.holds Tryz.pinned (.plain (OpenSpec.ofChange topTwiceSpec)) topTwiceCard

/-- THE TIED CARD OF 'landtop.TopOrder'. -/
def topOrderCard : Claim7 := { stood := { row := topOrderRow, standIns := [], harness := (true, "08e6d4d8f101925bd72ec9043f28afc30474f1a076b41ae3af043c10a894ac62"), looks := false }, kinds := [], alts := [], laidByText := true, laidKinds := [.data, .data, .data], laidTests := true, laidLooks := .later }
def TopOrderCardSaid : Prop := Claim7.holds Tryz.pinned (.plain (OpenSpec.ofChange topOrderSpec)) topOrderCard

/-- THE TIED CARD OF 'landtop.TopClosed'. -/
def topClosedCard : Claim7 := { stood := { row := topClosedRow, standIns := [], harness := (true, "08e6d4d8f101925bd72ec9043f28afc30474f1a076b41ae3af043c10a894ac62"), looks := false }, kinds := [], alts := [], laidByText := true, laidKinds := [.data, .data, .data], laidTests := true, laidLooks := .later }
def TopClosedCardSaid : Prop := Claim7.holds Tryz.pinned (.plain (OpenSpec.ofChange topClosedSpec)) topClosedCard

/-- THE SECOND FORM's CARD OF 'landtop.TopArrives'. -/
def topArrivesUptoCard : Claim7 := { stood := { row := topArrivesUptoRow, standIns := [], harness := (true, "08e6d4d8f101925bd72ec9043f28afc30474f1a076b41ae3af043c10a894ac62"), looks := false }, kinds := [], alts := [], laidByText := true, laidKinds := [.data, .data, .data], laidTests := true, laidLooks := .later }
def TopArrivesUptoCardSaid : Prop := Claim7.holds Tryz.pinned (.plain (OpenSpec.upto topArrivesSpec)) topArrivesUptoCard

/-- THE SECOND FORM's CARD OF 'landtop.TopReturns'. -/
def topReturnsUptoCard : Claim7 := { stood := { row := topReturnsUptoRow, standIns := [], harness := (true, "08e6d4d8f101925bd72ec9043f28afc30474f1a076b41ae3af043c10a894ac62"), looks := false }, kinds := [], alts := [], laidByText := true, laidKinds := [.data, .data, .data], laidTests := true, laidLooks := .later }
def TopReturnsUptoCardSaid : Prop := Claim7.holds Tryz.pinned (.plain (OpenSpec.upto topReturnsSpec)) topReturnsUptoCard

/-- THE SECOND FORM's CARD OF 'landtop.TopLate'. -/
def topLateUptoCard : Claim7 := { stood := { row := topLateUptoRow, standIns := [], harness := (true, "08e6d4d8f101925bd72ec9043f28afc30474f1a076b41ae3af043c10a894ac62"), looks := false }, kinds := [], alts := [], laidByText := true, laidKinds := [.data, .data, .data], laidTests := true, laidLooks := .later }
def TopLateUptoCardSaid : Prop := Claim7.holds Tryz.pinned (.plain (OpenSpec.upto topLateSpec)) topLateUptoCard

/-- THE SECOND FORM's CARD OF 'landtop.TopTwice'. -/
def topTwiceUptoCard : Claim7 := { stood := { row := topTwiceUptoRow, standIns := [], harness := (true, "08e6d4d8f101925bd72ec9043f28afc30474f1a076b41ae3af043c10a894ac62"), looks := false }, kinds := [], alts := [], laidByText := true, laidKinds := [.data, .data, .data], laidTests := true, laidLooks := .later }
def TopTwiceUptoCardSaid : Prop := Claim7.holds Tryz.pinned (.plain (OpenSpec.upto topTwiceSpec)) topTwiceUptoCard

/-- THE SECOND FORM's CARD OF 'landtop.TopOrder'. -/
def topOrderUptoCard : Claim7 := { stood := { row := topOrderUptoRow, standIns := [], harness := (true, "08e6d4d8f101925bd72ec9043f28afc30474f1a076b41ae3af043c10a894ac62"), looks := false }, kinds := [], alts := [], laidByText := true, laidKinds := [.data, .data, .data], laidTests := true, laidLooks := .later }
def TopOrderUptoCardSaid : Prop := Claim7.holds Tryz.pinned (.plain (OpenSpec.upto topOrderSpec)) topOrderUptoCard

/-- THE SECOND FORM's CARD OF 'landtop.TopClosed'. -/
def topClosedUptoCard : Claim7 := { stood := { row := topClosedUptoRow, standIns := [], harness := (true, "08e6d4d8f101925bd72ec9043f28afc30474f1a076b41ae3af043c10a894ac62"), looks := false }, kinds := [], alts := [], laidByText := true, laidKinds := [.data, .data, .data], laidTests := true, laidLooks := .later }
def TopClosedUptoCardSaid : Prop := Claim7.holds Tryz.pinned (.plain (OpenSpec.upto topClosedSpec)) topClosedUptoCard
end Rows
end Go.Proofs.YtoifllbioldomaaGreatDoor
