/-
  DERIVED. GIVEN WITH THE SEED: THE CARDS: each row of YtkmahpcpmgedkaaGreatDoorRows.lean that lists a variable, with what it lists TIED to the program's text (the seventh form; the later family's looks); each row that meets fmt, with fmt's text TOLD by the authors' own Lean function (tested against real Go, not proved from fmt's source: count such statements apart). THE CARD IS WHAT COUNTS. Prove the row's statement (the work); the ties are given (YtkmahpcpmgedkaaGreatDoorTie.lean); close each card by the builder's one call (the guide's Derived/Test/ToyasCard.lean, 'card_holds'). Laid BY PROGRAM, IN A SANDBOX (cutbox-door.mjs). By AI agents, Wed Nov 11 2026. No macro, syntax, notation, axiom, sorry.
-/
import Derived.Test.YtkmahpcpmgedkaaGreatDoorRows
import GoSem.ClaimSeven
namespace Go.Proofs.YtkmahpcpmgedkaaGreatDoor
namespace Rows

/-- THE TIED CARD OF 'dominolaw51.CourtShares'. -/
def courtSharesCard : Claim7 := { stood := { row := courtSharesRow, standIns := [], harness := (true, "748a24b6ebef30b6caefd9cb63a9fbfc8ad91bbce3cb4df07f53d3c8ebbbc142"), looks := true }, kinds := [], alts := [], laidByText := true, laidKinds := [.data, .data, .data], laidTests := true, laidLooks := .later }
def CourtSharesCardSaid : Prop := Claim7.holds Tryz.pinned (.plain (OpenSpec.ofChange courtSharesSpec)) courtSharesCard

/-- THE TIED CARD OF 'dominolaw51.CourtOpens'. -/
def courtOpensCard : Claim7 := { stood := { row := courtOpensRow, standIns := [], harness := (true, "748a24b6ebef30b6caefd9cb63a9fbfc8ad91bbce3cb4df07f53d3c8ebbbc142"), looks := true }, kinds := [], alts := [], laidByText := true, laidKinds := [.data, .data, .data], laidTests := true, laidLooks := .later }
def CourtOpensCardSaid : Prop := Claim7.holds Tryz.pinned (.plain (OpenSpec.ofChange courtOpensSpec)) courtOpensCard

/-- THE SECOND FORM's CARD OF 'dominolaw51.CourtShares'. -/
def courtSharesUptoCard : Claim7 := { stood := { row := courtSharesUptoRow, standIns := [], harness := (true, "748a24b6ebef30b6caefd9cb63a9fbfc8ad91bbce3cb4df07f53d3c8ebbbc142"), looks := true }, kinds := [], alts := [], laidByText := true, laidKinds := [.data, .data, .data], laidTests := true, laidLooks := .later }
def CourtSharesUptoCardSaid : Prop := Claim7.holds Tryz.pinned (.plain (OpenSpec.upto courtSharesSpec)) courtSharesUptoCard

/-- THE SECOND FORM's CARD OF 'dominolaw51.CourtOpens'. -/
def courtOpensUptoCard : Claim7 := { stood := { row := courtOpensUptoRow, standIns := [], harness := (true, "748a24b6ebef30b6caefd9cb63a9fbfc8ad91bbce3cb4df07f53d3c8ebbbc142"), looks := true }, kinds := [], alts := [], laidByText := true, laidKinds := [.data, .data, .data], laidTests := true, laidLooks := .later }
def CourtOpensUptoCardSaid : Prop := Claim7.holds Tryz.pinned (.plain (OpenSpec.upto courtOpensSpec)) courtOpensUptoCard
end Rows
end Go.Proofs.YtkmahpcpmgedkaaGreatDoor
