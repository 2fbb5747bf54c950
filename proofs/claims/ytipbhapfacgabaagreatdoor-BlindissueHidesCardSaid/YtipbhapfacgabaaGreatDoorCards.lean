/-
  DERIVED. GIVEN WITH THE SEED: THE CARDS: each row of YtipbhapfacgabaaGreatDoorRows.lean that lists a variable, with what it lists TIED to the program's text (the seventh form; the later family's looks); each row that meets fmt, with fmt's text TOLD by the authors' own Lean function (tested against real Go, not proved from fmt's source: count such statements apart). THE CARD IS WHAT COUNTS. Prove the row's statement (the work); the ties are given (YtipbhapfacgabaaGreatDoorTie.lean); close each card by the builder's one call (the guide's Derived/Test/ToyasCard.lean, 'card_holds'). Laid BY PROGRAM, IN A SANDBOX (cutbox-door.mjs). By AI agents, Wed Nov 11 2026. No macro, syntax, notation, axiom, sorry.
-/
import Derived.Test.YtipbhapfacgabaaGreatDoorRows
import GoSem.ClaimSeven
namespace Go.Proofs.YtipbhapfacgabaaGreatDoor
namespace Rows

/-- THE TIED CARD OF 'dominolaw31.BlindissueHides'. -/
def blindissueHidesCard : Claim7 := { stood := { row := blindissueHidesRow, standIns := [], harness := (true, "7e5ed791ae10874a99752aac1b861a210bd0f7778125de0ddc314c200d1dbf9d"), looks := true }, kinds := [], alts := [], laidByText := true, laidKinds := [.data, .data, .data], laidTests := true, laidLooks := .later }
def BlindissueHidesCardSaid : Prop := Claim7.holds Tryz.pinned (.plain (OpenSpec.ofChange blindissueHidesSpec)) blindissueHidesCard

/-- THE SECOND FORM's CARD OF 'dominolaw31.BlindissueHides'. -/
def blindissueHidesUptoCard : Claim7 := { stood := { row := blindissueHidesUptoRow, standIns := [], harness := (true, "7e5ed791ae10874a99752aac1b861a210bd0f7778125de0ddc314c200d1dbf9d"), looks := true }, kinds := [], alts := [], laidByText := true, laidKinds := [.data, .data, .data], laidTests := true, laidLooks := .later }
def BlindissueHidesUptoCardSaid : Prop := Claim7.holds Tryz.pinned (.plain (OpenSpec.upto blindissueHidesSpec)) blindissueHidesUptoCard
end Rows
end Go.Proofs.YtipbhapfacgabaaGreatDoor
