/-
  DERIVED. GIVEN WITH THE SEED: THE CARDS: each row of YtmclpbcipkdmcaaGreatDoorRows.lean that lists a variable, with what it lists TIED to the program's text (the seventh form; the later family's looks); each row that meets fmt, with fmt's text TOLD by the authors' own Lean function (tested against real Go, not proved from fmt's source: count such statements apart). THE CARD IS WHAT COUNTS. Prove the row's statement (the work); the ties are given (YtmclpbcipkdmcaaGreatDoorTie.lean); close each card by the builder's one call (the guide's Derived/Test/ToyasCard.lean, 'card_holds'). Laid BY PROGRAM, IN A SANDBOX (cutbox-door.mjs). By AI agents, Wed Nov 11 2026. No macro, syntax, notation, axiom, sorry.
-/
import Derived.Test.YtmclpbcipkdmcaaGreatDoorRows
import GoSem.ClaimSeven
namespace Go.Proofs.YtmclpbcipkdmcaaGreatDoor
namespace Rows

/-- THE TIED CARD OF 'landlaw9.ConnTells'. -/
def connTellsCard : Claim7 := { stood := { row := connTellsRow, standIns := [], harness := (true, "3a735017bb03fa218157f9ef2310a0ecbb6cc727d659ee49c15e1af6441d0207"), looks := false }, kinds := [], alts := [], laidByText := true, laidKinds := [.data, .data, .data], laidTests := true, laidLooks := .later }
def ConnTellsCardSaid : Prop := Claim7.holds Tryz.pinned (.plain (OpenSpec.ofChange connTellsSpec)) connTellsCard

/-- THE TIED CARD OF 'landlaw9.ConnShown'. -/
def connShownCard : Claim7 := { stood := { row := connShownRow, standIns := [], harness := (true, "3a735017bb03fa218157f9ef2310a0ecbb6cc727d659ee49c15e1af6441d0207"), looks := false }, kinds := [], alts := [], laidByText := true, laidKinds := [.data, .data, .data], laidTests := true, laidLooks := .later }
def ConnShownCardSaid : Prop := Claim7.holds Tryz.pinned (.plain (OpenSpec.ofChange connShownSpec)) connShownCard

/-- THE TIED CARD OF 'landlaw10.ChansTell'. -/
def chansTellCard : Claim7 := { stood := { row := chansTellRow, standIns := [], harness := (true, "3a735017bb03fa218157f9ef2310a0ecbb6cc727d659ee49c15e1af6441d0207"), looks := false }, kinds := [], alts := [], laidByText := true, laidKinds := [.data, .data, .data], laidTests := true, laidLooks := .later }
def ChansTellCardSaid : Prop := Claim7.holds Tryz.pinned (.plain (OpenSpec.ofChange chansTellSpec)) chansTellCard

/-- THE TIED CARD OF 'landlaw8.StateTells'. -/
def stateTellsCard : Claim7 := { stood := { row := stateTellsRow, standIns := [], harness := (true, "3a735017bb03fa218157f9ef2310a0ecbb6cc727d659ee49c15e1af6441d0207"), looks := false }, kinds := [], alts := [], laidByText := true, laidKinds := [.data, .data, .data], laidTests := true, laidLooks := .later }
def StateTellsCardSaid : Prop := Claim7.holds Tryz.pinned (.plain (OpenSpec.ofChange stateTellsSpec)) stateTellsCard

/-- THE TIED CARD OF 'landlaw11.PacketTells'. -/
def packetTellsCard : Claim7 := { stood := { row := packetTellsRow, standIns := [], harness := (true, "3a735017bb03fa218157f9ef2310a0ecbb6cc727d659ee49c15e1af6441d0207"), looks := false }, kinds := [], alts := [], laidByText := true, laidKinds := [.data, .data, .data], laidTests := true, laidLooks := .later }
def PacketTellsCardSaid : Prop := Claim7.holds Tryz.pinned (.plain (OpenSpec.ofChange packetTellsSpec)) packetTellsCard

/-- THE SECOND FORM's CARD OF 'landlaw9.ConnTells'. -/
def connTellsUptoCard : Claim7 := { stood := { row := connTellsUptoRow, standIns := [], harness := (true, "3a735017bb03fa218157f9ef2310a0ecbb6cc727d659ee49c15e1af6441d0207"), looks := false }, kinds := [], alts := [], laidByText := true, laidKinds := [.data, .data, .data], laidTests := true, laidLooks := .later }
def ConnTellsUptoCardSaid : Prop := Claim7.holds Tryz.pinned (.plain (OpenSpec.upto connTellsSpec)) connTellsUptoCard

/-- THE SECOND FORM's CARD OF 'landlaw9.ConnShown'. -/
def connShownUptoCard : Claim7 := { stood := { row := connShownUptoRow, standIns := [], harness := (true, "3a735017bb03fa218157f9ef2310a0ecbb6cc727d659ee49c15e1af6441d0207"), looks := false }, kinds := [], alts := [], laidByText := true, laidKinds := [.data, .data, .data], laidTests := true, laidLooks := .later }
def ConnShownUptoCardSaid : Prop := Claim7.holds Tryz.pinned (.plain (OpenSpec.upto connShownSpec)) connShownUptoCard

/-- THE SECOND FORM's CARD OF 'landlaw10.ChansTell'. -/
def chansTellUptoCard : Claim7 := { stood := { row := chansTellUptoRow, standIns := [], harness := (true, "3a735017bb03fa218157f9ef2310a0ecbb6cc727d659ee49c15e1af6441d0207"), looks := false }, kinds := [], alts := [], laidByText := true, laidKinds := [.data, .data, .data], laidTests := true, laidLooks := .later }
def ChansTellUptoCardSaid : Prop := Claim7.holds Tryz.pinned (.plain (OpenSpec.upto chansTellSpec)) chansTellUptoCard

/-- THE SECOND FORM's CARD OF 'landlaw8.StateTells'. -/
def stateTellsUptoCard : Claim7 := { stood := { row := stateTellsUptoRow, standIns := [], harness := (true, "3a735017bb03fa218157f9ef2310a0ecbb6cc727d659ee49c15e1af6441d0207"), looks := false }, kinds := [], alts := [], laidByText := true, laidKinds := [.data, .data, .data], laidTests := true, laidLooks := .later }
def StateTellsUptoCardSaid : Prop := Claim7.holds Tryz.pinned (.plain (OpenSpec.upto stateTellsSpec)) stateTellsUptoCard

/-- THE SECOND FORM's CARD OF 'landlaw11.PacketTells'. -/
def packetTellsUptoCard : Claim7 := { stood := { row := packetTellsUptoRow, standIns := [], harness := (true, "3a735017bb03fa218157f9ef2310a0ecbb6cc727d659ee49c15e1af6441d0207"), looks := false }, kinds := [], alts := [], laidByText := true, laidKinds := [.data, .data, .data], laidTests := true, laidLooks := .later }
def PacketTellsUptoCardSaid : Prop := Claim7.holds Tryz.pinned (.plain (OpenSpec.upto packetTellsSpec)) packetTellsUptoCard
end Rows
end Go.Proofs.YtmclpbcipkdmcaaGreatDoor
