/-
  DERIVED. GIVEN WITH THE SEED: THE CARDS: each row of YtnhhajlcpjgkjaaGreatDoorRows.lean that lists a variable, with what it lists TIED to the program's text (the seventh form; the later family's looks); each row that meets fmt, with fmt's text TOLD by the authors' own Lean function (tested against real Go, not proved from fmt's source: count such statements apart). THE CARD IS WHAT COUNTS. Prove the row's statement (the work); the ties are given (YtnhhajlcpjgkjaaGreatDoorTie.lean); close each card by the builder's one call (the guide's Derived/Test/ToyasCard.lean, 'card_holds'). Laid BY PROGRAM, IN A SANDBOX (cutbox-door.mjs). By AI agents, Wed Nov 11 2026. No macro, syntax, notation, axiom, sorry.
-/
import Derived.Test.YtnhhajlcpjgkjaaGreatDoorRows
import GoSem.ClaimSeven
namespace Go.Proofs.YtnhhajlcpjgkjaaGreatDoor
namespace Rows

/-- THE TIED CARD OF 'dominolaw31.BlindissueRequests'. -/
def blindissueRequestsCard : Claim7 := { stood := { row := blindissueRequestsRow, standIns := [], harness := (true, "77beff54d2787c8818b662481d357043d84f45d7e0e910d28b49b4fdcf74be33"), looks := true }, kinds := [], alts := [], laidByText := true, laidKinds := [.data, .data, .data], laidTests := true, laidLooks := .later }
def BlindissueRequestsCardSaid : Prop := Claim7.holds Tryz.pinned (.plain (OpenSpec.ofChange blindissueRequestsSpec)) blindissueRequestsCard

/-- THE TIED CARD OF 'dominolaw31.BlindissueFinishes'. -/
def blindissueFinishesCard : Claim7 := { stood := { row := blindissueFinishesRow, standIns := [], harness := (true, "77beff54d2787c8818b662481d357043d84f45d7e0e910d28b49b4fdcf74be33"), looks := true }, kinds := [], alts := [], laidByText := true, laidKinds := [.data, .data, .data], laidTests := true, laidLooks := .later }
def BlindissueFinishesCardSaid : Prop := Claim7.holds Tryz.pinned (.plain (OpenSpec.ofChange blindissueFinishesSpec)) blindissueFinishesCard

/-- THE TIED CARD OF 'dominolaw31.BlindissueChecks'. -/
def blindissueChecksCard : Claim7 := { stood := { row := blindissueChecksRow, standIns := [], harness := (true, "77beff54d2787c8818b662481d357043d84f45d7e0e910d28b49b4fdcf74be33"), looks := true }, kinds := [], alts := [], laidByText := true, laidKinds := [.data, .data, .data], laidTests := true, laidLooks := .later }
def BlindissueChecksCardSaid : Prop := Claim7.holds Tryz.pinned (.plain (OpenSpec.ofChange blindissueChecksSpec)) blindissueChecksCard

/-- THE SECOND FORM's CARD OF 'dominolaw31.BlindissueRequests'. -/
def blindissueRequestsUptoCard : Claim7 := { stood := { row := blindissueRequestsUptoRow, standIns := [], harness := (true, "77beff54d2787c8818b662481d357043d84f45d7e0e910d28b49b4fdcf74be33"), looks := true }, kinds := [], alts := [], laidByText := true, laidKinds := [.data, .data, .data], laidTests := true, laidLooks := .later }
def BlindissueRequestsUptoCardSaid : Prop := Claim7.holds Tryz.pinned (.plain (OpenSpec.upto blindissueRequestsSpec)) blindissueRequestsUptoCard

/-- THE SECOND FORM's CARD OF 'dominolaw31.BlindissueFinishes'. -/
def blindissueFinishesUptoCard : Claim7 := { stood := { row := blindissueFinishesUptoRow, standIns := [], harness := (true, "77beff54d2787c8818b662481d357043d84f45d7e0e910d28b49b4fdcf74be33"), looks := true }, kinds := [], alts := [], laidByText := true, laidKinds := [.data, .data, .data], laidTests := true, laidLooks := .later }
def BlindissueFinishesUptoCardSaid : Prop := Claim7.holds Tryz.pinned (.plain (OpenSpec.upto blindissueFinishesSpec)) blindissueFinishesUptoCard

/-- THE SECOND FORM's CARD OF 'dominolaw31.BlindissueChecks'. -/
def blindissueChecksUptoCard : Claim7 := { stood := { row := blindissueChecksUptoRow, standIns := [], harness := (true, "77beff54d2787c8818b662481d357043d84f45d7e0e910d28b49b4fdcf74be33"), looks := true }, kinds := [], alts := [], laidByText := true, laidKinds := [.data, .data, .data], laidTests := true, laidLooks := .later }
def BlindissueChecksUptoCardSaid : Prop := Claim7.holds Tryz.pinned (.plain (OpenSpec.upto blindissueChecksSpec)) blindissueChecksUptoCard
end Rows
end Go.Proofs.YtnhhajlcpjgkjaaGreatDoor
