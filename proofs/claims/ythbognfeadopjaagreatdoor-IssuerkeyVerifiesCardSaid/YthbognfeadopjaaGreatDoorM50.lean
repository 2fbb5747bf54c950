/-
  Part of the proof, part 50. Own work.
-/
import Derived.Test.YthbognfeadopjaaGreatDoorRows
import Derived.Test.YthbognfeadopjaaGreatDoorCards
import Derived.Test.YthbognfeadopjaaGreatDoorTie
import Derived.ProofKit
import Derived.ChangeSame
import Derived.SevenTiedAt
import Derived.JoinedOf
set_option linter.all false
namespace Go.Proofs.YthbognfeadopjaaGreatDoor
open Go Go.RowKit
set_option maxRecDepth 100000
theorem jf20 : (Tryz.f3.resultTypes.all (fun t => Tryz.pinned.checked.prog.readableRec t && decide (t < Tryz.pinned.checked.prog.types.size))) = true := by kernel_rfl
theorem jf21 : ((Rows.issuerkeyVerifiesRow.ifacesOut == Tryz.f3.resultTypes.toList.any (Tryz.pinned.checked.prog.ifacesRec ·))) = true := by kernel_rfl
theorem jf22 : ((Rows.issuerkeyVerifiesRow.loopsOut == Tryz.f3.resultTypes.toList.any (Tryz.pinned.checked.prog.loopsFrom ·))) = true := by kernel_rfl
theorem jf23 : ((Rows.issuerkeyVerifiesRow.plainKeys == Tryz.pinned.checked.prog.plainKeys)) = true := by kernel_rfl
theorem jf24 : (Rows.issuerkeyVerifiesRow.shortTexts.isNone) = true := by kernel_rfl
theorem jf25 : (Tryz.pinned.checked.prog.stopsHeard) = true := by kernel_rfl
theorem jf26 : (Tryz.pinned.checked.prog.mayEnter) = true := by kernel_rfl
theorem jf27 : ((Rows.issuerkeyVerifiesRow.lifted == Tryz.pinned.checked.prog.liftsFinal)) = true := by kernel_rfl
theorem jf28 : ((Tryz.pinned.checked.prog.make == some Rows.issuerkeyVerifiesRow.make)) = true := by kernel_rfl
theorem jf29 : ((Rows.issuerkeyVerifiesRow.kinds == (if Rows.issuerkeyVerifiesRow.domain.isEmpty then [] else Tryz.f3.params.toList.map fun t => match Tryz.pinned.checked.prog.underlying t with | some (.int k) => some k | _ => none))) = true := by kernel_rfl
theorem jf30 : ((Rows.issuerkeyVerifiesRow.pinned == Rows.issuerkeyVerifiesRow.pinnedBy)) = true := by kernel_rfl
theorem jf31 : ((Rows.issuerkeyVerifiesRow.veiled == (Tryz.f3.params.toList ++ Rows.issuerkeyVerifiesSpec.plain.varTypes Tryz.pinned.checked.prog ++ Tryz.f3.resultTypes.toList).any (Tryz.pinned.checked.prog.veiledRec ·))) = true := by kernel_rfl
theorem jf32 : (Rows.issuerkeyVerifiesRow.veiledFits Tryz.pinned.checked.prog Tryz.f3.params.toList (Tryz.f3.params.toList ++ Rows.issuerkeyVerifiesSpec.plain.varTypes Tryz.pinned.checked.prog ++ Tryz.f3.resultTypes.toList)) = true := by kernel_rfl
end Go.Proofs.YthbognfeadopjaaGreatDoor
