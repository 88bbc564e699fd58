/-
  DERIVED. GIVEN WITH THE SEED: THE CARDS: each row of YtadoaljnfeoecaaGreatDoorRows.lean that lists a variable, with what it lists TIED to the program's text (the seventh form; the later family's looks); each row that meets fmt, with fmt's text TOLD by the authors' own Lean function (tested against real Go, not proved from fmt's source: count such statements apart). THE CARD IS WHAT COUNTS. Prove the row's statement (the work); the ties are given (YtadoaljnfeoecaaGreatDoorTie.lean); close each card by the builder's one call (the guide's Derived/Test/ToyasCard.lean, 'card_holds'). Laid BY PROGRAM, IN A SANDBOX (cutbox-door.mjs). By AI agents, Wed Nov 11 2026. No macro, syntax, notation, axiom, sorry.
-/
import Derived.Test.YtadoaljnfeoecaaGreatDoorRows
import GoSem.ClaimSeven
namespace Go.Proofs.YtadoaljnfeoecaaGreatDoor
namespace Rows

/-- THE TIED CARD OF 'landlaw13.AppRefused'. -/
def appRefusedCard : Claim7 := { stood := { row := appRefusedRow, standIns := [], harness := (true, "ffd8d99b3694bd0b5136804d2cb5505314a8152a8b1bb34462cc13a41324fe5c"), looks := false }, kinds := [], alts := [], laidByText := true, laidKinds := [.data, .data, .data], laidTests := true, laidLooks := .later }
def AppRefusedCardSaid : Prop := Claim7.holds Tryz.pinned (.plain (OpenSpec.ofChange appRefusedSpec)) appRefusedCard

/-- THE TIED CARD OF 'landlaw13.AppSupply'. -/
def appSupplyCard : Claim7 := { stood := { row := appSupplyRow, standIns := [], harness := (true, "ffd8d99b3694bd0b5136804d2cb5505314a8152a8b1bb34462cc13a41324fe5c"), looks := false }, kinds := [], alts := [], laidByText := true, laidKinds := [.data, .data, .data], laidTests := true, laidLooks := .later }
def AppSupplyCardSaid : Prop := Claim7.holds Tryz.pinned (.plain (OpenSpec.ofChange appSupplySpec)) appSupplyCard

/-- THE TIED CARD OF 'landlaw13.AppPlaces'. -/
def appPlacesCard : Claim7 := { stood := { row := appPlacesRow, standIns := [], harness := (true, "ffd8d99b3694bd0b5136804d2cb5505314a8152a8b1bb34462cc13a41324fe5c"), looks := false }, kinds := [], alts := [], laidByText := true, laidKinds := [.data, .data, .data], laidTests := true, laidLooks := .later }
def AppPlacesCardSaid : Prop := Claim7.holds Tryz.pinned (.plain (OpenSpec.ofChange appPlacesSpec)) appPlacesCard

/-- THE TIED CARD OF 'landlaw13.AppLate'. -/
def appLateCard : Claim7 := { stood := { row := appLateRow, standIns := [], harness := (true, "ffd8d99b3694bd0b5136804d2cb5505314a8152a8b1bb34462cc13a41324fe5c"), looks := false }, kinds := [], alts := [], laidByText := true, laidKinds := [.data, .data, .data], laidTests := true, laidLooks := .later }
def AppLateCardSaid : Prop := Claim7.holds Tryz.pinned (.plain (OpenSpec.ofChange appLateSpec)) appLateCard

/-- THE SECOND FORM's CARD OF 'landlaw13.AppRefused'. -/
def appRefusedUptoCard : Claim7 := { stood := { row := appRefusedUptoRow, standIns := [], harness := (true, "ffd8d99b3694bd0b5136804d2cb5505314a8152a8b1bb34462cc13a41324fe5c"), looks := false }, kinds := [], alts := [], laidByText := true, laidKinds := [.data, .data, .data], laidTests := true, laidLooks := .later }
def AppRefusedUptoCardSaid : Prop := Claim7.holds Tryz.pinned (.plain (OpenSpec.upto appRefusedSpec)) appRefusedUptoCard

/-- THE SECOND FORM's CARD OF 'landlaw13.AppSupply'. -/
def appSupplyUptoCard : Claim7 := { stood := { row := appSupplyUptoRow, standIns := [], harness := (true, "ffd8d99b3694bd0b5136804d2cb5505314a8152a8b1bb34462cc13a41324fe5c"), looks := false }, kinds := [], alts := [], laidByText := true, laidKinds := [.data, .data, .data], laidTests := true, laidLooks := .later }
def AppSupplyUptoCardSaid : Prop := Claim7.holds Tryz.pinned (.plain (OpenSpec.upto appSupplySpec)) appSupplyUptoCard

/-- THE SECOND FORM's CARD OF 'landlaw13.AppPlaces'. -/
def appPlacesUptoCard : Claim7 := { stood := { row := appPlacesUptoRow, standIns := [], harness := (true, "ffd8d99b3694bd0b5136804d2cb5505314a8152a8b1bb34462cc13a41324fe5c"), looks := false }, kinds := [], alts := [], laidByText := true, laidKinds := [.data, .data, .data], laidTests := true, laidLooks := .later }
def AppPlacesUptoCardSaid : Prop := Claim7.holds Tryz.pinned (.plain (OpenSpec.upto appPlacesSpec)) appPlacesUptoCard

/-- THE SECOND FORM's CARD OF 'landlaw13.AppLate'. -/
def appLateUptoCard : Claim7 := { stood := { row := appLateUptoRow, standIns := [], harness := (true, "ffd8d99b3694bd0b5136804d2cb5505314a8152a8b1bb34462cc13a41324fe5c"), looks := false }, kinds := [], alts := [], laidByText := true, laidKinds := [.data, .data, .data], laidTests := true, laidLooks := .later }
def AppLateUptoCardSaid : Prop := Claim7.holds Tryz.pinned (.plain (OpenSpec.upto appLateSpec)) appLateUptoCard
end Rows
end Go.Proofs.YtadoaljnfeoecaaGreatDoor
