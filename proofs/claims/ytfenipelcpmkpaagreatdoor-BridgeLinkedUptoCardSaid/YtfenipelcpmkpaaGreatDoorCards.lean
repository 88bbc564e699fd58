/-
  DERIVED. GIVEN WITH THE SEED: THE CARDS: each row of YtfenipelcpmkpaaGreatDoorRows.lean that lists a variable, with what it lists TIED to the program's text (the seventh form; the later family's looks); each row that meets fmt, with fmt's text TOLD by the authors' own Lean function (tested against real Go, not proved from fmt's source: count such statements apart). THE CARD IS WHAT COUNTS. Prove the row's statement (the work); the ties are given (YtfenipelcpmkpaaGreatDoorTie.lean); close each card by the builder's one call (the guide's Derived/Test/ToyasCard.lean, 'card_holds'). Laid BY PROGRAM, IN A SANDBOX (cutbox-door.mjs). By AI agents, Wed Nov 11 2026. No macro, syntax, notation, axiom, sorry.
-/
import Derived.Test.YtfenipelcpmkpaaGreatDoorRows
import GoSem.ClaimSeven
namespace Go.Proofs.YtfenipelcpmkpaaGreatDoor
namespace Rows

/-- THE TIED CARD OF 'landtop.TopShown'. -/
def topShownCard : Claim7 := { stood := { row := topShownRow, standIns := [], harness := (true, "fbdac69e87a0e6b89c51b22d547e7a66d6d66e76c871c598d295276928e37a05"), looks := false }, kinds := [], alts := [], laidByText := true, laidKinds := [.data, .data, .data], laidTests := true, laidLooks := .later }
def TopShownCardSaid : Prop := Claim7.holds Tryz.pinned (.plain (OpenSpec.ofChange topShownSpec)) topShownCard

/-- THE TIED CARD OF 'landtop.TopArrives'. -/
def topArrivesCard : Claim7 := { stood := { row := topArrivesRow, standIns := [], harness := (true, "fbdac69e87a0e6b89c51b22d547e7a66d6d66e76c871c598d295276928e37a05"), looks := false }, kinds := [], alts := [], laidByText := true, laidKinds := [.data, .data, .data], laidTests := true, laidLooks := .later }
def TopArrivesCardSaid : Prop := Claim7.holds Tryz.pinned (.plain (OpenSpec.ofChange topArrivesSpec)) topArrivesCard

/-- THE TIED CARD OF 'landlaw14.BridgeTrue'. -/
def bridgeTrueCard : Claim7 := { stood := { row := bridgeTrueRow, standIns := [], harness := (true, "fbdac69e87a0e6b89c51b22d547e7a66d6d66e76c871c598d295276928e37a05"), looks := false }, kinds := [], alts := [], laidByText := true, laidKinds := [.data, .data, .data], laidTests := true, laidLooks := .later }
def BridgeTrueCardSaid : Prop := Claim7.holds Tryz.pinned (.plain (OpenSpec.ofChange bridgeTrueSpec)) bridgeTrueCard

/-- THE TIED CARD OF 'landlaw14.BridgeEnds'. -/
def bridgeEndsCard : Claim7 := { stood := { row := bridgeEndsRow, standIns := [], harness := (true, "fbdac69e87a0e6b89c51b22d547e7a66d6d66e76c871c598d295276928e37a05"), looks := false }, kinds := [], alts := [], laidByText := true, laidKinds := [.data, .data, .data], laidTests := true, laidLooks := .later }
def BridgeEndsCardSaid : Prop := Claim7.holds Tryz.pinned (.plain (OpenSpec.ofChange bridgeEndsSpec)) bridgeEndsCard

/-- THE TIED CARD OF 'landlaw14.BridgeOrdered'. -/
def bridgeOrderedCard : Claim7 := { stood := { row := bridgeOrderedRow, standIns := [], harness := (true, "fbdac69e87a0e6b89c51b22d547e7a66d6d66e76c871c598d295276928e37a05"), looks := false }, kinds := [], alts := [], laidByText := true, laidKinds := [.data, .data, .data], laidTests := true, laidLooks := .later }
def BridgeOrderedCardSaid : Prop := Claim7.holds Tryz.pinned (.plain (OpenSpec.ofChange bridgeOrderedSpec)) bridgeOrderedCard

/-- THE TIED CARD OF 'landlaw14.BridgeLinked'. -/
def bridgeLinkedCard : Claim7 := { stood := { row := bridgeLinkedRow, standIns := [], harness := (true, "fbdac69e87a0e6b89c51b22d547e7a66d6d66e76c871c598d295276928e37a05"), looks := false }, kinds := [], alts := [], laidByText := true, laidKinds := [.data, .data, .data], laidTests := true, laidLooks := .later }
def BridgeLinkedCardSaid : Prop := Claim7.holds Tryz.pinned (.plain (OpenSpec.ofChange bridgeLinkedSpec)) bridgeLinkedCard

/-- THE TIED CARD OF 'landtop.TopReturns'. -/
def topReturnsCard : Claim7 := { stood := { row := topReturnsRow, standIns := [], harness := (true, "fbdac69e87a0e6b89c51b22d547e7a66d6d66e76c871c598d295276928e37a05"), looks := false }, kinds := [], alts := [], laidByText := true, laidKinds := [.data, .data, .data], laidTests := true, laidLooks := .later }
def TopReturnsCardSaid : Prop := Claim7.holds Tryz.pinned (.plain (OpenSpec.ofChange topReturnsSpec)) topReturnsCard

/-- THE TIED CARD OF 'landtop.TopLate'. -/
def topLateCard : Claim7 := { stood := { row := topLateRow, standIns := [], harness := (true, "fbdac69e87a0e6b89c51b22d547e7a66d6d66e76c871c598d295276928e37a05"), looks := false }, kinds := [], alts := [], laidByText := true, laidKinds := [.data, .data, .data], laidTests := true, laidLooks := .later }
def TopLateCardSaid : Prop := Claim7.holds Tryz.pinned (.plain (OpenSpec.ofChange topLateSpec)) topLateCard

/-- THE TIED CARD OF 'landtop.TopTwice'. -/
def topTwiceCard : Claim7 := { stood := { row := topTwiceRow, standIns := [], harness := (true, "fbdac69e87a0e6b89c51b22d547e7a66d6d66e76c871c598d295276928e37a05"), looks := false }, kinds := [], alts := [], laidByText := true, laidKinds := [.data, .data, .data], laidTests := true, laidLooks := .later }
def TopTwiceCardSaid : Prop := Claim7.holds Tryz.pinned (.plain (OpenSpec.ofChange topTwiceSpec)) topTwiceCard

/-- THE TIED CARD OF 'landtop.TopOrder'. -/
def topOrderCard : Claim7 := { stood := { row := topOrderRow, standIns := [], harness := (true, "fbdac69e87a0e6b89c51b22d547e7a66d6d66e76c871c598d295276928e37a05"), looks := false }, kinds := [], alts := [], laidByText := true, laidKinds := [.data, .data, .data], laidTests := true, laidLooks := .later }
def TopOrderCardSaid : Prop := Claim7.holds Tryz.pinned (.plain (OpenSpec.ofChange topOrderSpec)) topOrderCard

/-- THE TIED CARD OF 'landtop.TopClosed'. -/
def topClosedCard : Claim7 := { stood := { row := topClosedRow, standIns := [], harness := (true, "fbdac69e87a0e6b89c51b22d547e7a66d6d66e76c871c598d295276928e37a05"), looks := false }, kinds := [], alts := [], laidByText := true, laidKinds := [.data, .data, .data], laidTests := true, laidLooks := .later }
def TopClosedCardSaid : Prop := Claim7.holds Tryz.pinned (.plain (OpenSpec.ofChange topClosedSpec)) topClosedCard

/-- THE SECOND FORM's CARD OF 'landtop.TopShown'. -/
def topShownUptoCard : Claim7 := { stood := { row := topShownUptoRow, standIns := [], harness := (true, "fbdac69e87a0e6b89c51b22d547e7a66d6d66e76c871c598d295276928e37a05"), looks := false }, kinds := [], alts := [], laidByText := true, laidKinds := [.data, .data, .data], laidTests := true, laidLooks := .later }
def TopShownUptoCardSaid : Prop := Claim7.holds Tryz.pinned (.plain (OpenSpec.upto topShownSpec)) topShownUptoCard

/-- THE SECOND FORM's CARD OF 'landtop.TopArrives'. -/
def topArrivesUptoCard : Claim7 := { stood := { row := topArrivesUptoRow, standIns := [], harness := (true, "fbdac69e87a0e6b89c51b22d547e7a66d6d66e76c871c598d295276928e37a05"), looks := false }, kinds := [], alts := [], laidByText := true, laidKinds := [.data, .data, .data], laidTests := true, laidLooks := .later }
def TopArrivesUptoCardSaid : Prop := Claim7.holds Tryz.pinned (.plain (OpenSpec.upto topArrivesSpec)) topArrivesUptoCard

/-- THE SECOND FORM's CARD OF 'landlaw14.BridgeTrue'. -/
def bridgeTrueUptoCard : Claim7 := { stood := { row := bridgeTrueUptoRow, standIns := [], harness := (true, "fbdac69e87a0e6b89c51b22d547e7a66d6d66e76c871c598d295276928e37a05"), looks := false }, kinds := [], alts := [], laidByText := true, laidKinds := [.data, .data, .data], laidTests := true, laidLooks := .later }
def BridgeTrueUptoCardSaid : Prop := Claim7.holds Tryz.pinned (.plain (OpenSpec.upto bridgeTrueSpec)) bridgeTrueUptoCard

/-- THE SECOND FORM's CARD OF 'landlaw14.BridgeEnds'. -/
def bridgeEndsUptoCard : Claim7 := { stood := { row := bridgeEndsUptoRow, standIns := [], harness := (true, "fbdac69e87a0e6b89c51b22d547e7a66d6d66e76c871c598d295276928e37a05"), looks := false }, kinds := [], alts := [], laidByText := true, laidKinds := [.data, .data, .data], laidTests := true, laidLooks := .later }
def BridgeEndsUptoCardSaid : Prop := Claim7.holds Tryz.pinned (.plain (OpenSpec.upto bridgeEndsSpec)) bridgeEndsUptoCard

/-- THE SECOND FORM's CARD OF 'landlaw14.BridgeOrdered'. -/
def bridgeOrderedUptoCard : Claim7 := { stood := { row := bridgeOrderedUptoRow, standIns := [], harness := (true, "fbdac69e87a0e6b89c51b22d547e7a66d6d66e76c871c598d295276928e37a05"), looks := false }, kinds := [], alts := [], laidByText := true, laidKinds := [.data, .data, .data], laidTests := true, laidLooks := .later }
def BridgeOrderedUptoCardSaid : Prop := Claim7.holds Tryz.pinned (.plain (OpenSpec.upto bridgeOrderedSpec)) bridgeOrderedUptoCard

/-- THE SECOND FORM's CARD OF 'landlaw14.BridgeLinked'. -/
def bridgeLinkedUptoCard : Claim7 := { stood := { row := bridgeLinkedUptoRow, standIns := [], harness := (true, "fbdac69e87a0e6b89c51b22d547e7a66d6d66e76c871c598d295276928e37a05"), looks := false }, kinds := [], alts := [], laidByText := true, laidKinds := [.data, .data, .data], laidTests := true, laidLooks := .later }
def BridgeLinkedUptoCardSaid : Prop := Claim7.holds Tryz.pinned (.plain (OpenSpec.upto bridgeLinkedSpec)) bridgeLinkedUptoCard

/-- THE SECOND FORM's CARD OF 'landtop.TopReturns'. -/
def topReturnsUptoCard : Claim7 := { stood := { row := topReturnsUptoRow, standIns := [], harness := (true, "fbdac69e87a0e6b89c51b22d547e7a66d6d66e76c871c598d295276928e37a05"), looks := false }, kinds := [], alts := [], laidByText := true, laidKinds := [.data, .data, .data], laidTests := true, laidLooks := .later }
def TopReturnsUptoCardSaid : Prop := Claim7.holds Tryz.pinned (.plain (OpenSpec.upto topReturnsSpec)) topReturnsUptoCard

/-- THE SECOND FORM's CARD OF 'landtop.TopLate'. -/
def topLateUptoCard : Claim7 := { stood := { row := topLateUptoRow, standIns := [], harness := (true, "fbdac69e87a0e6b89c51b22d547e7a66d6d66e76c871c598d295276928e37a05"), looks := false }, kinds := [], alts := [], laidByText := true, laidKinds := [.data, .data, .data], laidTests := true, laidLooks := .later }
def TopLateUptoCardSaid : Prop := Claim7.holds Tryz.pinned (.plain (OpenSpec.upto topLateSpec)) topLateUptoCard

/-- THE SECOND FORM's CARD OF 'landtop.TopTwice'. -/
def topTwiceUptoCard : Claim7 := { stood := { row := topTwiceUptoRow, standIns := [], harness := (true, "fbdac69e87a0e6b89c51b22d547e7a66d6d66e76c871c598d295276928e37a05"), looks := false }, kinds := [], alts := [], laidByText := true, laidKinds := [.data, .data, .data], laidTests := true, laidLooks := .later }
def TopTwiceUptoCardSaid : Prop := Claim7.holds Tryz.pinned (.plain (OpenSpec.upto topTwiceSpec)) topTwiceUptoCard

/-- THE SECOND FORM's CARD OF 'landtop.TopOrder'. -/
def topOrderUptoCard : Claim7 := { stood := { row := topOrderUptoRow, standIns := [], harness := (true, "fbdac69e87a0e6b89c51b22d547e7a66d6d66e76c871c598d295276928e37a05"), looks := false }, kinds := [], alts := [], laidByText := true, laidKinds := [.data, .data, .data], laidTests := true, laidLooks := .later }
def TopOrderUptoCardSaid : Prop := Claim7.holds Tryz.pinned (.plain (OpenSpec.upto topOrderSpec)) topOrderUptoCard

/-- THE SECOND FORM's CARD OF 'landtop.TopClosed'. -/
def topClosedUptoCard : Claim7 := { stood := { row := topClosedUptoRow, standIns := [], harness := (true, "fbdac69e87a0e6b89c51b22d547e7a66d6d66e76c871c598d295276928e37a05"), looks := false }, kinds := [], alts := [], laidByText := true, laidKinds := [.data, .data, .data], laidTests := true, laidLooks := .later }
def TopClosedUptoCardSaid : Prop := Claim7.holds Tryz.pinned (.plain (OpenSpec.upto topClosedSpec)) topClosedUptoCard
end Rows
end Go.Proofs.YtfenipelcpmkpaaGreatDoor
