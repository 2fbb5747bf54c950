/-
  DERIVED. GIVEN WITH THE SEED: THE CARDS: each row of YtmledjfbgjnknaaGreatDoorRows.lean that lists a variable, with what it lists TIED to the program's text (the seventh form; the later family's looks); each row that meets fmt, with fmt's text TOLD by the authors' own Lean function (tested against real Go, not proved from fmt's source: count such statements apart). THE CARD IS WHAT COUNTS. Prove the row's statement (the work); the ties are given (YtmledjfbgjnknaaGreatDoorTie.lean); close each card by the builder's one call (the guide's Derived/Test/ToyasCard.lean, 'card_holds'). Laid BY PROGRAM, IN A SANDBOX (cutbox-door.mjs). By AI agents, Wed Nov 11 2026. No macro, syntax, notation, axiom, sorry.
-/
import Derived.Test.YtmledjfbgjnknaaGreatDoorRows
import GoSem.ClaimSeven
namespace Go.Proofs.YtmledjfbgjnknaaGreatDoor
namespace Rows

/-- THE TIED CARD OF 'dominolaw29.IssuerkeyProves'. -/
def issuerkeyProvesCard : Claim7 := { stood := { row := issuerkeyProvesRow, standIns := [], harness := (true, "d69b44d82594d8f93a936877d3e476187970d8c447ecc0949189965bfcfb4864"), looks := true }, kinds := [], alts := [], laidByText := true, laidKinds := [.data, .data, .data], laidTests := true, laidLooks := .later }
def IssuerkeyProvesCardSaid : Prop := Claim7.holds Tryz.pinned (.plain (OpenSpec.ofChange issuerkeyProvesSpec)) issuerkeyProvesCard

/-- THE TIED CARD OF 'dominolaw29.IssuerkeyConvinces'. -/
def issuerkeyConvincesCard : Claim7 := { stood := { row := issuerkeyConvincesRow, standIns := [], harness := (true, "d69b44d82594d8f93a936877d3e476187970d8c447ecc0949189965bfcfb4864"), looks := true }, kinds := [], alts := [], laidByText := true, laidKinds := [.data, .data, .data], laidTests := true, laidLooks := .later }
def IssuerkeyConvincesCardSaid : Prop := Claim7.holds Tryz.pinned (.plain (OpenSpec.ofChange issuerkeyConvincesSpec)) issuerkeyConvincesCard

/-- THE SECOND FORM's CARD OF 'dominolaw29.IssuerkeyProves'. -/
def issuerkeyProvesUptoCard : Claim7 := { stood := { row := issuerkeyProvesUptoRow, standIns := [], harness := (true, "d69b44d82594d8f93a936877d3e476187970d8c447ecc0949189965bfcfb4864"), looks := true }, kinds := [], alts := [], laidByText := true, laidKinds := [.data, .data, .data], laidTests := true, laidLooks := .later }
def IssuerkeyProvesUptoCardSaid : Prop := Claim7.holds Tryz.pinned (.plain (OpenSpec.upto issuerkeyProvesSpec)) issuerkeyProvesUptoCard

/-- THE SECOND FORM's CARD OF 'dominolaw29.IssuerkeyConvinces'. -/
def issuerkeyConvincesUptoCard : Claim7 := { stood := { row := issuerkeyConvincesUptoRow, standIns := [], harness := (true, "d69b44d82594d8f93a936877d3e476187970d8c447ecc0949189965bfcfb4864"), looks := true }, kinds := [], alts := [], laidByText := true, laidKinds := [.data, .data, .data], laidTests := true, laidLooks := .later }
def IssuerkeyConvincesUptoCardSaid : Prop := Claim7.holds Tryz.pinned (.plain (OpenSpec.upto issuerkeyConvincesSpec)) issuerkeyConvincesUptoCard
end Rows
end Go.Proofs.YtmledjfbgjnknaaGreatDoor
