/-
  DERIVED. GIVEN WITH THE SEED: THE CARDS: each row of YthlapgdhjcddkaaGreatDoorRows.lean that lists a variable, with what it lists TIED to the program's text (the seventh form; the later family's looks); each row that meets fmt, with fmt's text TOLD by the authors' own Lean function (tested against real Go, not proved from fmt's source: count such statements apart). THE CARD IS WHAT COUNTS. Prove the row's statement (the work); the ties are given (YthlapgdhjcddkaaGreatDoorTie.lean); close each card by the builder's one call (the guide's Derived/Test/ToyasCard.lean, 'card_holds'). Laid BY PROGRAM, IN A SANDBOX (cutbox-door.mjs). By AI agents, Wed Nov 11 2026. No macro, syntax, notation, axiom, sorry.
-/
import Derived.Test.YthlapgdhjcddkaaGreatDoorRows
import GoSem.ClaimSeven
namespace Go.Proofs.YthlapgdhjcddkaaGreatDoor
namespace Rows

/-- THE TIED CARD OF 'dominolaw22.FiatshamirChallenges'. -/
def fiatshamirChallengesCard : Claim7 := { stood := { row := fiatshamirChallengesRow, standIns := [], harness := (true, "7fb35bf65a42bc11d058d17a4437978064d8d44886223f6f65b9e740a0a8e80a"), looks := true }, kinds := [], alts := [], laidByText := true, laidKinds := [.data, .data, .data], laidTests := true, laidLooks := .later }
def FiatshamirChallengesCardSaid : Prop := Claim7.holds Tryz.pinned (.plain (OpenSpec.ofChange fiatshamirChallengesSpec)) fiatshamirChallengesCard

/-- THE TIED CARD OF 'dominolaw22.FiatshamirContexts'. -/
def fiatshamirContextsCard : Claim7 := { stood := { row := fiatshamirContextsRow, standIns := [], harness := (true, "7fb35bf65a42bc11d058d17a4437978064d8d44886223f6f65b9e740a0a8e80a"), looks := true }, kinds := [], alts := [], laidByText := true, laidKinds := [.data, .data, .data], laidTests := true, laidLooks := .later }
def FiatshamirContextsCardSaid : Prop := Claim7.holds Tryz.pinned (.plain (OpenSpec.ofChange fiatshamirContextsSpec)) fiatshamirContextsCard

/-- THE TIED CARD OF 'dominolaw22.FiatshamirOpens'. -/
def fiatshamirOpensCard : Claim7 := { stood := { row := fiatshamirOpensRow, standIns := [], harness := (true, "7fb35bf65a42bc11d058d17a4437978064d8d44886223f6f65b9e740a0a8e80a"), looks := true }, kinds := [], alts := [], laidByText := true, laidKinds := [.data, .data, .data], laidTests := true, laidLooks := .later }
def FiatshamirOpensCardSaid : Prop := Claim7.holds Tryz.pinned (.plain (OpenSpec.ofChange fiatshamirOpensSpec)) fiatshamirOpensCard

/-- THE TIED CARD OF 'dominolaw22.FiatshamirVerifies'. -/
def fiatshamirVerifiesCard : Claim7 := { stood := { row := fiatshamirVerifiesRow, standIns := [], harness := (true, "7fb35bf65a42bc11d058d17a4437978064d8d44886223f6f65b9e740a0a8e80a"), looks := true }, kinds := [], alts := [], laidByText := true, laidKinds := [.data, .data, .data], laidTests := true, laidLooks := .later }
def FiatshamirVerifiesCardSaid : Prop := Claim7.holds Tryz.pinned (.plain (OpenSpec.ofChange fiatshamirVerifiesSpec)) fiatshamirVerifiesCard

/-- THE SECOND FORM's CARD OF 'dominolaw22.FiatshamirChallenges'. -/
def fiatshamirChallengesUptoCard : Claim7 := { stood := { row := fiatshamirChallengesUptoRow, standIns := [], harness := (true, "7fb35bf65a42bc11d058d17a4437978064d8d44886223f6f65b9e740a0a8e80a"), looks := true }, kinds := [], alts := [], laidByText := true, laidKinds := [.data, .data, .data], laidTests := true, laidLooks := .later }
def FiatshamirChallengesUptoCardSaid : Prop := Claim7.holds Tryz.pinned (.plain (OpenSpec.upto fiatshamirChallengesSpec)) fiatshamirChallengesUptoCard

/-- THE SECOND FORM's CARD OF 'dominolaw22.FiatshamirContexts'. -/
def fiatshamirContextsUptoCard : Claim7 := { stood := { row := fiatshamirContextsUptoRow, standIns := [], harness := (true, "7fb35bf65a42bc11d058d17a4437978064d8d44886223f6f65b9e740a0a8e80a"), looks := true }, kinds := [], alts := [], laidByText := true, laidKinds := [.data, .data, .data], laidTests := true, laidLooks := .later }
def FiatshamirContextsUptoCardSaid : Prop := Claim7.holds Tryz.pinned (.plain (OpenSpec.upto fiatshamirContextsSpec)) fiatshamirContextsUptoCard

/-- THE SECOND FORM's CARD OF 'dominolaw22.FiatshamirOpens'. -/
def fiatshamirOpensUptoCard : Claim7 := { stood := { row := fiatshamirOpensUptoRow, standIns := [], harness := (true, "7fb35bf65a42bc11d058d17a4437978064d8d44886223f6f65b9e740a0a8e80a"), looks := true }, kinds := [], alts := [], laidByText := true, laidKinds := [.data, .data, .data], laidTests := true, laidLooks := .later }
def FiatshamirOpensUptoCardSaid : Prop := Claim7.holds Tryz.pinned (.plain (OpenSpec.upto fiatshamirOpensSpec)) fiatshamirOpensUptoCard

/-- THE SECOND FORM's CARD OF 'dominolaw22.FiatshamirVerifies'. -/
def fiatshamirVerifiesUptoCard : Claim7 := { stood := { row := fiatshamirVerifiesUptoRow, standIns := [], harness := (true, "7fb35bf65a42bc11d058d17a4437978064d8d44886223f6f65b9e740a0a8e80a"), looks := true }, kinds := [], alts := [], laidByText := true, laidKinds := [.data, .data, .data], laidTests := true, laidLooks := .later }
def FiatshamirVerifiesUptoCardSaid : Prop := Claim7.holds Tryz.pinned (.plain (OpenSpec.upto fiatshamirVerifiesSpec)) fiatshamirVerifiesUptoCard
end Rows
end Go.Proofs.YthlapgdhjcddkaaGreatDoor
