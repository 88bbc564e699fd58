/-
  DERIVED. GIVEN WITH THE SEED: THE CARDS: each row of YtkbbipgjmoanhaaGreatDoorRows.lean that lists a variable, with what it lists TIED to the program's text (the seventh form; the later family's looks); each row that meets fmt, with fmt's text TOLD by the authors' own Lean function (tested against real Go, not proved from fmt's source: count such statements apart). THE CARD IS WHAT COUNTS. Prove the row's statement (the work); the ties are given (YtkbbipgjmoanhaaGreatDoorTie.lean); close each card by the builder's one call (the guide's Derived/Test/ToyasCard.lean, 'card_holds'). Laid BY PROGRAM, IN A SANDBOX (cutbox-door.mjs). By AI agents, Wed Nov 11 2026. No macro, syntax, notation, axiom, sorry.
-/
import Derived.Test.YtkbbipgjmoanhaaGreatDoorRows
import GoSem.ClaimSeven
namespace Go.Proofs.YtkbbipgjmoanhaaGreatDoor
namespace Rows

/-- THE TIED CARD OF 'landlaw14.BridgeClock'. -/
def bridgeClockCard : Claim7 := { stood := { row := bridgeClockRow, standIns := [], harness := (true, "c17fc039d7bf9ca3fbb45afaa677b60aaa384433a1a4d0391a65ab165a0755f0"), looks := false }, kinds := [], alts := [], laidByText := true, laidKinds := [.data, .data, .data], laidTests := true, laidLooks := .later }
def BridgeClockCardSaid : Prop := Claim7.holds Tryz.pinned (.plain (OpenSpec.ofChange bridgeClockSpec)) bridgeClockCard

/-- THE TIED CARD OF 'landlaw14.BridgeSupply'. -/
def bridgeSupplyCard : Claim7 := { stood := { row := bridgeSupplyRow, standIns := [], harness := (true, "c17fc039d7bf9ca3fbb45afaa677b60aaa384433a1a4d0391a65ab165a0755f0"), looks := false }, kinds := [], alts := [], laidByText := true, laidKinds := [.data, .data, .data], laidTests := true, laidLooks := .later }
def BridgeSupplyCardSaid : Prop := Claim7.holds Tryz.pinned (.plain (OpenSpec.ofChange bridgeSupplySpec)) bridgeSupplyCard

/-- THE TIED CARD OF 'landlaw14.BridgeRefused'. -/
def bridgeRefusedCard : Claim7 := { stood := { row := bridgeRefusedRow, standIns := [], harness := (true, "c17fc039d7bf9ca3fbb45afaa677b60aaa384433a1a4d0391a65ab165a0755f0"), looks := false }, kinds := [], alts := [], laidByText := true, laidKinds := [.data, .data, .data], laidTests := true, laidLooks := .later }
def BridgeRefusedCardSaid : Prop := Claim7.holds Tryz.pinned (.plain (OpenSpec.ofChange bridgeRefusedSpec)) bridgeRefusedCard

/-- THE TIED CARD OF 'landlaw14.BridgePast'. -/
def bridgePastCard : Claim7 := { stood := { row := bridgePastRow, standIns := [], harness := (true, "c17fc039d7bf9ca3fbb45afaa677b60aaa384433a1a4d0391a65ab165a0755f0"), looks := false }, kinds := [], alts := [], laidByText := true, laidKinds := [.data, .data, .data], laidTests := true, laidLooks := .later }
def BridgePastCardSaid : Prop := Claim7.holds Tryz.pinned (.plain (OpenSpec.ofChange bridgePastSpec)) bridgePastCard

/-- THE TIED CARD OF 'landlaw14.BridgeSides'. -/
def bridgeSidesCard : Claim7 := { stood := { row := bridgeSidesRow, standIns := [], harness := (true, "c17fc039d7bf9ca3fbb45afaa677b60aaa384433a1a4d0391a65ab165a0755f0"), looks := false }, kinds := [], alts := [], laidByText := true, laidKinds := [.data, .data, .data], laidTests := true, laidLooks := .later }
def BridgeSidesCardSaid : Prop := Claim7.holds Tryz.pinned (.plain (OpenSpec.ofChange bridgeSidesSpec)) bridgeSidesCard

/-- THE TIED CARD OF 'landlaw14.BridgeOrdered'. -/
def bridgeOrderedCard : Claim7 := { stood := { row := bridgeOrderedRow, standIns := [], harness := (true, "c17fc039d7bf9ca3fbb45afaa677b60aaa384433a1a4d0391a65ab165a0755f0"), looks := false }, kinds := [], alts := [], laidByText := true, laidKinds := [.data, .data, .data], laidTests := true, laidLooks := .later }
def BridgeOrderedCardSaid : Prop := Claim7.holds Tryz.pinned (.plain (OpenSpec.ofChange bridgeOrderedSpec)) bridgeOrderedCard

/-- THE SECOND FORM's CARD OF 'landlaw14.BridgeClock'. -/
def bridgeClockUptoCard : Claim7 := { stood := { row := bridgeClockUptoRow, standIns := [], harness := (true, "c17fc039d7bf9ca3fbb45afaa677b60aaa384433a1a4d0391a65ab165a0755f0"), looks := false }, kinds := [], alts := [], laidByText := true, laidKinds := [.data, .data, .data], laidTests := true, laidLooks := .later }
def BridgeClockUptoCardSaid : Prop := Claim7.holds Tryz.pinned (.plain (OpenSpec.upto bridgeClockSpec)) bridgeClockUptoCard

/-- THE SECOND FORM's CARD OF 'landlaw14.BridgeSupply'. -/
def bridgeSupplyUptoCard : Claim7 := { stood := { row := bridgeSupplyUptoRow, standIns := [], harness := (true, "c17fc039d7bf9ca3fbb45afaa677b60aaa384433a1a4d0391a65ab165a0755f0"), looks := false }, kinds := [], alts := [], laidByText := true, laidKinds := [.data, .data, .data], laidTests := true, laidLooks := .later }
def BridgeSupplyUptoCardSaid : Prop := Claim7.holds Tryz.pinned (.plain (OpenSpec.upto bridgeSupplySpec)) bridgeSupplyUptoCard

/-- THE SECOND FORM's CARD OF 'landlaw14.BridgeRefused'. -/
def bridgeRefusedUptoCard : Claim7 := { stood := { row := bridgeRefusedUptoRow, standIns := [], harness := (true, "c17fc039d7bf9ca3fbb45afaa677b60aaa384433a1a4d0391a65ab165a0755f0"), looks := false }, kinds := [], alts := [], laidByText := true, laidKinds := [.data, .data, .data], laidTests := true, laidLooks := .later }
def BridgeRefusedUptoCardSaid : Prop := Claim7.holds Tryz.pinned (.plain (OpenSpec.upto bridgeRefusedSpec)) bridgeRefusedUptoCard

/-- THE SECOND FORM's CARD OF 'landlaw14.BridgePast'. -/
def bridgePastUptoCard : Claim7 := { stood := { row := bridgePastUptoRow, standIns := [], harness := (true, "c17fc039d7bf9ca3fbb45afaa677b60aaa384433a1a4d0391a65ab165a0755f0"), looks := false }, kinds := [], alts := [], laidByText := true, laidKinds := [.data, .data, .data], laidTests := true, laidLooks := .later }
def BridgePastUptoCardSaid : Prop := Claim7.holds Tryz.pinned (.plain (OpenSpec.upto bridgePastSpec)) bridgePastUptoCard

/-- THE SECOND FORM's CARD OF 'landlaw14.BridgeSides'. -/
def bridgeSidesUptoCard : Claim7 := { stood := { row := bridgeSidesUptoRow, standIns := [], harness := (true, "c17fc039d7bf9ca3fbb45afaa677b60aaa384433a1a4d0391a65ab165a0755f0"), looks := false }, kinds := [], alts := [], laidByText := true, laidKinds := [.data, .data, .data], laidTests := true, laidLooks := .later }
def BridgeSidesUptoCardSaid : Prop := Claim7.holds Tryz.pinned (.plain (OpenSpec.upto bridgeSidesSpec)) bridgeSidesUptoCard

/-- THE SECOND FORM's CARD OF 'landlaw14.BridgeOrdered'. -/
def bridgeOrderedUptoCard : Claim7 := { stood := { row := bridgeOrderedUptoRow, standIns := [], harness := (true, "c17fc039d7bf9ca3fbb45afaa677b60aaa384433a1a4d0391a65ab165a0755f0"), looks := false }, kinds := [], alts := [], laidByText := true, laidKinds := [.data, .data, .data], laidTests := true, laidLooks := .later }
def BridgeOrderedUptoCardSaid : Prop := Claim7.holds Tryz.pinned (.plain (OpenSpec.upto bridgeOrderedSpec)) bridgeOrderedUptoCard
end Rows
end Go.Proofs.YtkbbipgjmoanhaaGreatDoor
