/-
  DERIVED. GIVEN WITH THE SEED: THE CARDS: each row of YthbognfeadopjaaGreatDoorRows.lean that lists a variable, with what it lists TIED to the program's text (the seventh form; the later family's looks); each row that meets fmt, with fmt's text TOLD by the authors' own Lean function (tested against real Go, not proved from fmt's source: count such statements apart). THE CARD IS WHAT COUNTS. Prove the row's statement (the work); the ties are given (YthbognfeadopjaaGreatDoorTie.lean); close each card by the builder's one call (the guide's Derived/Test/ToyasCard.lean, 'card_holds'). Laid BY PROGRAM, IN A SANDBOX (cutbox-door.mjs). By AI agents, Wed Nov 11 2026. No macro, syntax, notation, axiom, sorry.
-/
import Derived.Test.YthbognfeadopjaaGreatDoorRows
import GoSem.ClaimSeven
namespace Go.Proofs.YthbognfeadopjaaGreatDoor
namespace Rows

/-- THE TIED CARD OF 'dominolaw29.IssuerkeyVerifies'. -/
def issuerkeyVerifiesCard : Claim7 := { stood := { row := issuerkeyVerifiesRow, standIns := [], harness := (true, "650e55ec86f05ecb0bab772cdeccac48c8a872fb38669bbcb15539b24d11fbf1"), looks := false }, kinds := [], alts := [], laidByText := true, laidKinds := [.data, .data, .data], laidTests := true, laidLooks := .later }
def IssuerkeyVerifiesCardSaid : Prop := Claim7.holds Tryz.pinned (.plain (OpenSpec.ofChange issuerkeyVerifiesSpec)) issuerkeyVerifiesCard

/-- THE SECOND FORM's CARD OF 'dominolaw29.IssuerkeyVerifies'. -/
def issuerkeyVerifiesUptoCard : Claim7 := { stood := { row := issuerkeyVerifiesUptoRow, standIns := [], harness := (true, "650e55ec86f05ecb0bab772cdeccac48c8a872fb38669bbcb15539b24d11fbf1"), looks := false }, kinds := [], alts := [], laidByText := true, laidKinds := [.data, .data, .data], laidTests := true, laidLooks := .later }
def IssuerkeyVerifiesUptoCardSaid : Prop := Claim7.holds Tryz.pinned (.plain (OpenSpec.upto issuerkeyVerifiesSpec)) issuerkeyVerifiesUptoCard
end Rows
end Go.Proofs.YthbognfeadopjaaGreatDoor
