/-
  DERIVED. GIVEN WITH THE SEED: THE CARDS: each row of YtckjpabekmhnhaaDoorRows.lean that lists a variable, with what it lists TIED to the program's text (the seventh form; the later family's looks); each row that meets fmt, with fmt's text TOLD by the authors' own Lean function (tested against real Go, not proved from fmt's source: count such statements apart). THE CARD IS WHAT COUNTS. Prove the row's statement (the work); the ties are given (YtckjpabekmhnhaaDoorTie.lean); close each card by the builder's one call (the guide's Derived/Test/ToyasCard.lean, 'card_holds'). Laid BY PROGRAM, IN A SANDBOX (cutbox-door.mjs). By AI agents, Wed Nov 11 2026. No macro, syntax, notation, axiom, sorry.
-/
import Derived.Test.YtckjpabekmhnhaaDoorRows
import GoSem.ClaimSeven
namespace Go.Proofs.YtckjpabekmhnhaaDoor
namespace Rows

/-- THE TIED CARD OF 'landlaw12.BankBack'. -/
def bankBackCard : Claim7 := { stood := { row := bankBackRow, standIns := [], harness := (true, "7f80212cf1a94ef8b26fe91019d865b8c3e46281ac98be910ae47911267a9313"), looks := false }, kinds := [], alts := [], laidByText := true, laidKinds := [.data, .data, .data], laidTests := true, laidLooks := .later }
def BankBackCardSaid : Prop := Claim7.holds Tryd.pinned (.plain (OpenSpec.ofChange bankBackSpec)) bankBackCard

/-- THE TIED CARD OF 'landlaw12.BankTells'. -/
def bankTellsCard : Claim7 := { stood := { row := bankTellsRow, standIns := [], harness := (true, "7f80212cf1a94ef8b26fe91019d865b8c3e46281ac98be910ae47911267a9313"), looks := false }, kinds := [], alts := [], laidByText := true, laidKinds := [.data, .data, .data], laidTests := true, laidLooks := .later }
def BankTellsCardSaid : Prop := Claim7.holds Tryd.pinned (.plain (OpenSpec.ofChange bankTellsSpec)) bankTellsCard

/-- THE SECOND FORM's CARD OF 'landlaw12.BankBack'. -/
def bankBackUptoCard : Claim7 := { stood := { row := bankBackUptoRow, standIns := [], harness := (true, "7f80212cf1a94ef8b26fe91019d865b8c3e46281ac98be910ae47911267a9313"), looks := false }, kinds := [], alts := [], laidByText := true, laidKinds := [.data, .data, .data], laidTests := true, laidLooks := .later }
def BankBackUptoCardSaid : Prop := Claim7.holds Tryd.pinned (.plain (OpenSpec.upto bankBackSpec)) bankBackUptoCard

/-- THE SECOND FORM's CARD OF 'landlaw12.BankTells'. -/
def bankTellsUptoCard : Claim7 := { stood := { row := bankTellsUptoRow, standIns := [], harness := (true, "7f80212cf1a94ef8b26fe91019d865b8c3e46281ac98be910ae47911267a9313"), looks := false }, kinds := [], alts := [], laidByText := true, laidKinds := [.data, .data, .data], laidTests := true, laidLooks := .later }
def BankTellsUptoCardSaid : Prop := Claim7.holds Tryd.pinned (.plain (OpenSpec.upto bankTellsSpec)) bankTellsUptoCard
end Rows
end Go.Proofs.YtckjpabekmhnhaaDoor
