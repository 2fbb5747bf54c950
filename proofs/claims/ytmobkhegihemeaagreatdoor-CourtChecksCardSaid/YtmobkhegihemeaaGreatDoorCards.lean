/-
  DERIVED. GIVEN WITH THE SEED: THE CARDS: each row of YtmobkhegihemeaaGreatDoorRows.lean that lists a variable, with what it lists TIED to the program's text (the seventh form; the later family's looks); each row that meets fmt, with fmt's text TOLD by the authors' own Lean function (tested against real Go, not proved from fmt's source: count such statements apart). THE CARD IS WHAT COUNTS. Prove the row's statement (the work); the ties are given (YtmobkhegihemeaaGreatDoorTie.lean); close each card by the builder's one call (the guide's Derived/Test/ToyasCard.lean, 'card_holds'). Laid BY PROGRAM, IN A SANDBOX (cutbox-door.mjs). By AI agents, Wed Nov 11 2026. No macro, syntax, notation, axiom, sorry.
-/
import Derived.Test.YtmobkhegihemeaaGreatDoorRows
import GoSem.ClaimSeven
namespace Go.Proofs.YtmobkhegihemeaaGreatDoor
namespace Rows

/-- THE TIED CARD OF 'dominolaw51.CourtChecks'. -/
def courtChecksCard : Claim7 := { stood := { row := courtChecksRow, standIns := [], harness := (true, "ec263a7426f25a38c0cc00825d344c78f5c2533f833e596e80ab7a447b9a6bf4"), looks := true }, kinds := [], alts := [], laidByText := true, laidKinds := [.data, .data, .data], laidTests := true, laidLooks := .later }
def CourtChecksCardSaid : Prop := Claim7.holds Tryz.pinned (.plain (OpenSpec.ofChange courtChecksSpec)) courtChecksCard

/-- THE TIED CARD OF 'dominolaw51.CourtBinds'. -/
def courtBindsCard : Claim7 := { stood := { row := courtBindsRow, standIns := [], harness := (true, "ec263a7426f25a38c0cc00825d344c78f5c2533f833e596e80ab7a447b9a6bf4"), looks := true }, kinds := [], alts := [], laidByText := true, laidKinds := [.data, .data, .data], laidTests := true, laidLooks := .later }
def CourtBindsCardSaid : Prop := Claim7.holds Tryz.pinned (.plain (OpenSpec.ofChange courtBindsSpec)) courtBindsCard

/-- THE TIED CARD OF 'dominolaw51.CourtHides'. -/
def courtHidesCard : Claim7 := { stood := { row := courtHidesRow, standIns := [], harness := (true, "ec263a7426f25a38c0cc00825d344c78f5c2533f833e596e80ab7a447b9a6bf4"), looks := true }, kinds := [], alts := [], laidByText := true, laidKinds := [.data, .data, .data], laidTests := true, laidLooks := .later }
def CourtHidesCardSaid : Prop := Claim7.holds Tryz.pinned (.plain (OpenSpec.ofChange courtHidesSpec)) courtHidesCard

/-- THE TIED CARD OF 'dominolaw51.CourtRestores'. -/
def courtRestoresCard : Claim7 := { stood := { row := courtRestoresRow, standIns := [], harness := (true, "ec263a7426f25a38c0cc00825d344c78f5c2533f833e596e80ab7a447b9a6bf4"), looks := true }, kinds := [], alts := [], laidByText := true, laidKinds := [.data, .data, .data], laidTests := true, laidLooks := .later }
def CourtRestoresCardSaid : Prop := Claim7.holds Tryz.pinned (.plain (OpenSpec.ofChange courtRestoresSpec)) courtRestoresCard

/-- THE SECOND FORM's CARD OF 'dominolaw51.CourtChecks'. -/
def courtChecksUptoCard : Claim7 := { stood := { row := courtChecksUptoRow, standIns := [], harness := (true, "ec263a7426f25a38c0cc00825d344c78f5c2533f833e596e80ab7a447b9a6bf4"), looks := true }, kinds := [], alts := [], laidByText := true, laidKinds := [.data, .data, .data], laidTests := true, laidLooks := .later }
def CourtChecksUptoCardSaid : Prop := Claim7.holds Tryz.pinned (.plain (OpenSpec.upto courtChecksSpec)) courtChecksUptoCard

/-- THE SECOND FORM's CARD OF 'dominolaw51.CourtBinds'. -/
def courtBindsUptoCard : Claim7 := { stood := { row := courtBindsUptoRow, standIns := [], harness := (true, "ec263a7426f25a38c0cc00825d344c78f5c2533f833e596e80ab7a447b9a6bf4"), looks := true }, kinds := [], alts := [], laidByText := true, laidKinds := [.data, .data, .data], laidTests := true, laidLooks := .later }
def CourtBindsUptoCardSaid : Prop := Claim7.holds Tryz.pinned (.plain (OpenSpec.upto courtBindsSpec)) courtBindsUptoCard

/-- THE SECOND FORM's CARD OF 'dominolaw51.CourtHides'. -/
def courtHidesUptoCard : Claim7 := { stood := { row := courtHidesUptoRow, standIns := [], harness := (true, "ec263a7426f25a38c0cc00825d344c78f5c2533f833e596e80ab7a447b9a6bf4"), looks := true }, kinds := [], alts := [], laidByText := true, laidKinds := [.data, .data, .data], laidTests := true, laidLooks := .later }
def CourtHidesUptoCardSaid : Prop := Claim7.holds Tryz.pinned (.plain (OpenSpec.upto courtHidesSpec)) courtHidesUptoCard

/-- THE SECOND FORM's CARD OF 'dominolaw51.CourtRestores'. -/
def courtRestoresUptoCard : Claim7 := { stood := { row := courtRestoresUptoRow, standIns := [], harness := (true, "ec263a7426f25a38c0cc00825d344c78f5c2533f833e596e80ab7a447b9a6bf4"), looks := true }, kinds := [], alts := [], laidByText := true, laidKinds := [.data, .data, .data], laidTests := true, laidLooks := .later }
def CourtRestoresUptoCardSaid : Prop := Claim7.holds Tryz.pinned (.plain (OpenSpec.upto courtRestoresSpec)) courtRestoresUptoCard
end Rows
end Go.Proofs.YtmobkhegihemeaaGreatDoor
