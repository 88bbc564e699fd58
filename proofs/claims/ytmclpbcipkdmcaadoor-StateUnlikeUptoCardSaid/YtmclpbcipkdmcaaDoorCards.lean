/-
  DERIVED. GIVEN WITH THE SEED: THE CARDS: each row of YtmclpbcipkdmcaaDoorRows.lean that lists a variable, with what it lists TIED to the program's text (the seventh form; the later family's looks); each row that meets fmt, with fmt's text TOLD by the authors' own Lean function (tested against real Go, not proved from fmt's source: count such statements apart). THE CARD IS WHAT COUNTS. Prove the row's statement (the work); the ties are given (YtmclpbcipkdmcaaDoorTie.lean); close each card by the builder's one call (the guide's Derived/Test/ToyasCard.lean, 'card_holds'). Laid BY PROGRAM, IN A SANDBOX (cutbox-door.mjs). By AI agents, Wed Nov 11 2026. No macro, syntax, notation, axiom, sorry.
-/
import Derived.Test.YtmclpbcipkdmcaaDoorRows
import GoSem.ClaimSeven
namespace Go.Proofs.YtmclpbcipkdmcaaDoor
namespace Rows

/-- THE TIED CARD OF 'landlaw9.ConnOnce'. -/
def connOnceCard : Claim7 := { stood := { row := connOnceRow, standIns := [], harness := (true, "1f7f35824e9928826bee7982c1d333e647dbf6ed841f9a62d15f1d6393bf9a1e"), looks := false }, kinds := [], alts := [], laidByText := true, laidKinds := [.data, .data, .data], laidTests := true, laidLooks := .later }
def ConnOnceCardSaid : Prop := Claim7.holds Tryd.pinned (.plain (OpenSpec.ofChange connOnceSpec)) connOnceCard

/-- THE TIED CARD OF 'landlaw10.ChansGo'. -/
def chansGoCard : Claim7 := { stood := { row := chansGoRow, standIns := [], harness := (true, "1f7f35824e9928826bee7982c1d333e647dbf6ed841f9a62d15f1d6393bf9a1e"), looks := false }, kinds := [], alts := [], laidByText := true, laidKinds := [.data, .data, .data], laidTests := true, laidLooks := .later }
def ChansGoCardSaid : Prop := Claim7.holds Tryd.pinned (.plain (OpenSpec.ofChange chansGoSpec)) chansGoCard

/-- THE TIED CARD OF 'landlaw8.StateUnlike'. -/
def stateUnlikeCard : Claim7 := { stood := { row := stateUnlikeRow, standIns := [], harness := (true, "1f7f35824e9928826bee7982c1d333e647dbf6ed841f9a62d15f1d6393bf9a1e"), looks := false }, kinds := [], alts := [], laidByText := true, laidKinds := [.data, .data, .data], laidTests := true, laidLooks := .later }
def StateUnlikeCardSaid : Prop := Claim7.holds Tryd.pinned (.plain (OpenSpec.ofChange stateUnlikeSpec)) stateUnlikeCard

/-- THE TIED CARD OF 'landlaw8.StateBook'. -/
def stateBookCard : Claim7 := { stood := { row := stateBookRow, standIns := [], harness := (true, "1f7f35824e9928826bee7982c1d333e647dbf6ed841f9a62d15f1d6393bf9a1e"), looks := false }, kinds := [], alts := [], laidByText := true, laidKinds := [.data, .data, .data], laidTests := true, laidLooks := .later }
def StateBookCardSaid : Prop := Claim7.holds Tryd.pinned (.plain (OpenSpec.ofChange stateBookSpec)) stateBookCard

/-- THE TIED CARD OF 'landlaw11.PacketNumbers'. -/
def packetNumbersCard : Claim7 := { stood := { row := packetNumbersRow, standIns := [], harness := (true, "1f7f35824e9928826bee7982c1d333e647dbf6ed841f9a62d15f1d6393bf9a1e"), looks := false }, kinds := [], alts := [], laidByText := true, laidKinds := [.data, .data, .data], laidTests := true, laidLooks := .later }
def PacketNumbersCardSaid : Prop := Claim7.holds Tryd.pinned (.plain (OpenSpec.ofChange packetNumbersSpec)) packetNumbersCard

/-- THE TIED CARD OF 'landlaw11.PacketOnce'. -/
def packetOnceCard : Claim7 := { stood := { row := packetOnceRow, standIns := [], harness := (true, "1f7f35824e9928826bee7982c1d333e647dbf6ed841f9a62d15f1d6393bf9a1e"), looks := false }, kinds := [], alts := [], laidByText := true, laidKinds := [.data, .data, .data], laidTests := true, laidLooks := .later }
def PacketOnceCardSaid : Prop := Claim7.holds Tryd.pinned (.plain (OpenSpec.ofChange packetOnceSpec)) packetOnceCard

/-- THE TIED CARD OF 'landlaw11.PacketPlaces'. -/
def packetPlacesCard : Claim7 := { stood := { row := packetPlacesRow, standIns := [], harness := (true, "1f7f35824e9928826bee7982c1d333e647dbf6ed841f9a62d15f1d6393bf9a1e"), looks := false }, kinds := [], alts := [], laidByText := true, laidKinds := [.data, .data, .data], laidTests := true, laidLooks := .later }
def PacketPlacesCardSaid : Prop := Claim7.holds Tryd.pinned (.plain (OpenSpec.ofChange packetPlacesSpec)) packetPlacesCard

/-- THE SECOND FORM's CARD OF 'landlaw9.ConnOnce'. -/
def connOnceUptoCard : Claim7 := { stood := { row := connOnceUptoRow, standIns := [], harness := (true, "1f7f35824e9928826bee7982c1d333e647dbf6ed841f9a62d15f1d6393bf9a1e"), looks := false }, kinds := [], alts := [], laidByText := true, laidKinds := [.data, .data, .data], laidTests := true, laidLooks := .later }
def ConnOnceUptoCardSaid : Prop := Claim7.holds Tryd.pinned (.plain (OpenSpec.upto connOnceSpec)) connOnceUptoCard

/-- THE SECOND FORM's CARD OF 'landlaw10.ChansGo'. -/
def chansGoUptoCard : Claim7 := { stood := { row := chansGoUptoRow, standIns := [], harness := (true, "1f7f35824e9928826bee7982c1d333e647dbf6ed841f9a62d15f1d6393bf9a1e"), looks := false }, kinds := [], alts := [], laidByText := true, laidKinds := [.data, .data, .data], laidTests := true, laidLooks := .later }
def ChansGoUptoCardSaid : Prop := Claim7.holds Tryd.pinned (.plain (OpenSpec.upto chansGoSpec)) chansGoUptoCard

/-- THE SECOND FORM's CARD OF 'landlaw8.StateUnlike'. -/
def stateUnlikeUptoCard : Claim7 := { stood := { row := stateUnlikeUptoRow, standIns := [], harness := (true, "1f7f35824e9928826bee7982c1d333e647dbf6ed841f9a62d15f1d6393bf9a1e"), looks := false }, kinds := [], alts := [], laidByText := true, laidKinds := [.data, .data, .data], laidTests := true, laidLooks := .later }
def StateUnlikeUptoCardSaid : Prop := Claim7.holds Tryd.pinned (.plain (OpenSpec.upto stateUnlikeSpec)) stateUnlikeUptoCard

/-- THE SECOND FORM's CARD OF 'landlaw8.StateBook'. -/
def stateBookUptoCard : Claim7 := { stood := { row := stateBookUptoRow, standIns := [], harness := (true, "1f7f35824e9928826bee7982c1d333e647dbf6ed841f9a62d15f1d6393bf9a1e"), looks := false }, kinds := [], alts := [], laidByText := true, laidKinds := [.data, .data, .data], laidTests := true, laidLooks := .later }
def StateBookUptoCardSaid : Prop := Claim7.holds Tryd.pinned (.plain (OpenSpec.upto stateBookSpec)) stateBookUptoCard

/-- THE SECOND FORM's CARD OF 'landlaw11.PacketNumbers'. -/
def packetNumbersUptoCard : Claim7 := { stood := { row := packetNumbersUptoRow, standIns := [], harness := (true, "1f7f35824e9928826bee7982c1d333e647dbf6ed841f9a62d15f1d6393bf9a1e"), looks := false }, kinds := [], alts := [], laidByText := true, laidKinds := [.data, .data, .data], laidTests := true, laidLooks := .later }
def PacketNumbersUptoCardSaid : Prop := Claim7.holds Tryd.pinned (.plain (OpenSpec.upto packetNumbersSpec)) packetNumbersUptoCard

/-- THE SECOND FORM's CARD OF 'landlaw11.PacketOnce'. -/
def packetOnceUptoCard : Claim7 := { stood := { row := packetOnceUptoRow, standIns := [], harness := (true, "1f7f35824e9928826bee7982c1d333e647dbf6ed841f9a62d15f1d6393bf9a1e"), looks := false }, kinds := [], alts := [], laidByText := true, laidKinds := [.data, .data, .data], laidTests := true, laidLooks := .later }
def PacketOnceUptoCardSaid : Prop := Claim7.holds Tryd.pinned (.plain (OpenSpec.upto packetOnceSpec)) packetOnceUptoCard

/-- THE SECOND FORM's CARD OF 'landlaw11.PacketPlaces'. -/
def packetPlacesUptoCard : Claim7 := { stood := { row := packetPlacesUptoRow, standIns := [], harness := (true, "1f7f35824e9928826bee7982c1d333e647dbf6ed841f9a62d15f1d6393bf9a1e"), looks := false }, kinds := [], alts := [], laidByText := true, laidKinds := [.data, .data, .data], laidTests := true, laidLooks := .later }
def PacketPlacesUptoCardSaid : Prop := Claim7.holds Tryd.pinned (.plain (OpenSpec.upto packetPlacesSpec)) packetPlacesUptoCard
end Rows
end Go.Proofs.YtmclpbcipkdmcaaDoor
