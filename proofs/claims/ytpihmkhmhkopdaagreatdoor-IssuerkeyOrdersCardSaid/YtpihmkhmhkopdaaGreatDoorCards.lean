/-
  DERIVED. GIVEN WITH THE SEED: THE CARDS: each row of YtpihmkhmhkopdaaGreatDoorRows.lean that lists a variable, with what it lists TIED to the program's text (the seventh form; the later family's looks); each row that meets fmt, with fmt's text TOLD by the authors' own Lean function (tested against real Go, not proved from fmt's source: count such statements apart). THE CARD IS WHAT COUNTS. Prove the row's statement (the work); the ties are given (YtpihmkhmhkopdaaGreatDoorTie.lean); close each card by the builder's one call (the guide's Derived/Test/ToyasCard.lean, 'card_holds'). Laid BY PROGRAM, IN A SANDBOX (cutbox-door.mjs). By AI agents, Wed Nov 11 2026. No macro, syntax, notation, axiom, sorry.
-/
import Derived.Test.YtpihmkhmhkopdaaGreatDoorRows
import GoSem.ClaimSeven
namespace Go.Proofs.YtpihmkhmhkopdaaGreatDoor
namespace Rows

/-- THE TIED CARD OF 'dominolaw29.IssuerkeyOrders'. -/
def issuerkeyOrdersCard : Claim7 := { stood := { row := issuerkeyOrdersRow, standIns := [], harness := (true, "3de016c2f7a0b77aaed38ce689301deb349f6b7e04186598feb254b2b1ac2f11"), looks := false }, kinds := [], alts := [], laidByText := true, laidKinds := [.data, .data, .data], laidTests := true, laidLooks := .later }
def IssuerkeyOrdersCardSaid : Prop := Claim7.holds Tryz.pinned (.plain (OpenSpec.ofChange issuerkeyOrdersSpec)) issuerkeyOrdersCard

/-- THE SECOND FORM's CARD OF 'dominolaw29.IssuerkeyOrders'. -/
def issuerkeyOrdersUptoCard : Claim7 := { stood := { row := issuerkeyOrdersUptoRow, standIns := [], harness := (true, "3de016c2f7a0b77aaed38ce689301deb349f6b7e04186598feb254b2b1ac2f11"), looks := false }, kinds := [], alts := [], laidByText := true, laidKinds := [.data, .data, .data], laidTests := true, laidLooks := .later }
def IssuerkeyOrdersUptoCardSaid : Prop := Claim7.holds Tryz.pinned (.plain (OpenSpec.upto issuerkeyOrdersSpec)) issuerkeyOrdersUptoCard
end Rows
end Go.Proofs.YtpihmkhmhkopdaaGreatDoor
