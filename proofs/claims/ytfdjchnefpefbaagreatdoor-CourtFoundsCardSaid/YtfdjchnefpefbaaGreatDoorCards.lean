/-
  DERIVED. GIVEN WITH THE SEED: THE CARDS: each row of YtfdjchnefpefbaaGreatDoorRows.lean that lists a variable, with what it lists TIED to the program's text (the seventh form; the later family's looks); each row that meets fmt, with fmt's text TOLD by the authors' own Lean function (tested against real Go, not proved from fmt's source: count such statements apart). THE CARD IS WHAT COUNTS. Prove the row's statement (the work); the ties are given (YtfdjchnefpefbaaGreatDoorTie.lean); close each card by the builder's one call (the guide's Derived/Test/ToyasCard.lean, 'card_holds'). Laid BY PROGRAM, IN A SANDBOX (cutbox-door.mjs). By AI agents, Wed Nov 11 2026. No macro, syntax, notation, axiom, sorry.
-/
import Derived.Test.YtfdjchnefpefbaaGreatDoorRows
import GoSem.ClaimSeven
namespace Go.Proofs.YtfdjchnefpefbaaGreatDoor
namespace Rows

/-- THE TIED CARD OF 'dominolaw51.CourtFounds'. -/
def courtFoundsCard : Claim7 := { stood := { row := courtFoundsRow, standIns := [], harness := (true, "b57db203abd6080b11f3863691c75e6d19df508da4916a0a925f2636466f5d2b"), looks := true }, kinds := [], alts := [], laidByText := true, laidKinds := [.data, .data, .data], laidTests := true, laidLooks := .later }
def CourtFoundsCardSaid : Prop := Claim7.holds Tryz.pinned (.plain (OpenSpec.ofChange courtFoundsSpec)) courtFoundsCard

/-- THE TIED CARD OF 'dominolaw51.CourtShares'. -/
def courtSharesCard : Claim7 := { stood := { row := courtSharesRow, standIns := [], harness := (true, "b57db203abd6080b11f3863691c75e6d19df508da4916a0a925f2636466f5d2b"), looks := true }, kinds := [], alts := [], laidByText := true, laidKinds := [.data, .data, .data], laidTests := true, laidLooks := .later }
def CourtSharesCardSaid : Prop := Claim7.holds Tryz.pinned (.plain (OpenSpec.ofChange courtSharesSpec)) courtSharesCard

/-- THE TIED CARD OF 'dominolaw51.CourtOpens'. -/
def courtOpensCard : Claim7 := { stood := { row := courtOpensRow, standIns := [], harness := (true, "b57db203abd6080b11f3863691c75e6d19df508da4916a0a925f2636466f5d2b"), looks := true }, kinds := [], alts := [], laidByText := true, laidKinds := [.data, .data, .data], laidTests := true, laidLooks := .later }
def CourtOpensCardSaid : Prop := Claim7.holds Tryz.pinned (.plain (OpenSpec.ofChange courtOpensSpec)) courtOpensCard

/-- THE SECOND FORM's CARD OF 'dominolaw51.CourtFounds'. -/
def courtFoundsUptoCard : Claim7 := { stood := { row := courtFoundsUptoRow, standIns := [], harness := (true, "b57db203abd6080b11f3863691c75e6d19df508da4916a0a925f2636466f5d2b"), looks := true }, kinds := [], alts := [], laidByText := true, laidKinds := [.data, .data, .data], laidTests := true, laidLooks := .later }
def CourtFoundsUptoCardSaid : Prop := Claim7.holds Tryz.pinned (.plain (OpenSpec.upto courtFoundsSpec)) courtFoundsUptoCard

/-- THE SECOND FORM's CARD OF 'dominolaw51.CourtShares'. -/
def courtSharesUptoCard : Claim7 := { stood := { row := courtSharesUptoRow, standIns := [], harness := (true, "b57db203abd6080b11f3863691c75e6d19df508da4916a0a925f2636466f5d2b"), looks := true }, kinds := [], alts := [], laidByText := true, laidKinds := [.data, .data, .data], laidTests := true, laidLooks := .later }
def CourtSharesUptoCardSaid : Prop := Claim7.holds Tryz.pinned (.plain (OpenSpec.upto courtSharesSpec)) courtSharesUptoCard

/-- THE SECOND FORM's CARD OF 'dominolaw51.CourtOpens'. -/
def courtOpensUptoCard : Claim7 := { stood := { row := courtOpensUptoRow, standIns := [], harness := (true, "b57db203abd6080b11f3863691c75e6d19df508da4916a0a925f2636466f5d2b"), looks := true }, kinds := [], alts := [], laidByText := true, laidKinds := [.data, .data, .data], laidTests := true, laidLooks := .later }
def CourtOpensUptoCardSaid : Prop := Claim7.holds Tryz.pinned (.plain (OpenSpec.upto courtOpensSpec)) courtOpensUptoCard
end Rows
end Go.Proofs.YtfdjchnefpefbaaGreatDoor
