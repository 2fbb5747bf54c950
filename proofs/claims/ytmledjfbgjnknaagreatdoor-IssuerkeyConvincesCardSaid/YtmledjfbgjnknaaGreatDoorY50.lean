/-
  Part of the proof, part Y50. Own work.
-/
import Derived.Test.YtmledjfbgjnknaaGreatDoorRows
import Derived.Test.YtmledjfbgjnknaaGreatDoorCards
import Derived.Test.YtmledjfbgjnknaaGreatDoorTie
import Derived.ProofKit
import Derived.ChangeSame
import Derived.SevenTiedAt
import Derived.JoinedOf
set_option linter.all false
namespace Go.Proofs.YtmledjfbgjnknaaGreatDoor
open Go Go.RowKit
set_option maxRecDepth 100000
theorem jf20:(Tryz.f4.resultTypes.all (fun t=>Tryz.pinned.checked.prog.readableRec t&&decide (t<Tryz.pinned.checked.prog.types.size)))=true:=by kernel_rfl
theorem jf21:((Rows.issuerkeyConvincesRow.ifacesOut==Tryz.f4.resultTypes.toList.any (Tryz.pinned.checked.prog.ifacesRec ·)))=true:=by kernel_rfl
theorem jf22:((Rows.issuerkeyConvincesRow.loopsOut==Tryz.f4.resultTypes.toList.any (Tryz.pinned.checked.prog.loopsFrom ·)))=true:=by kernel_rfl
theorem jf23:((Rows.issuerkeyConvincesRow.plainKeys==Tryz.pinned.checked.prog.plainKeys))=true:=by kernel_rfl
theorem jf24:(Rows.issuerkeyConvincesRow.shortTexts.isNone)=true:=by kernel_rfl
theorem jf25:(Tryz.pinned.checked.prog.stopsHeard)=true:=by kernel_rfl
theorem jf26:(Tryz.pinned.checked.prog.mayEnter)=true:=by kernel_rfl
theorem jf27:((Rows.issuerkeyConvincesRow.lifted==Tryz.pinned.checked.prog.liftsFinal))=true:=by kernel_rfl
theorem jf28:((Tryz.pinned.checked.prog.make==some Rows.issuerkeyConvincesRow.make))=true:=by kernel_rfl
theorem jf29:((Rows.issuerkeyConvincesRow.kinds==(if Rows.issuerkeyConvincesRow.domain.isEmpty then[]else Tryz.f4.params.toList.map fun t=>match Tryz.pinned.checked.prog.underlying t with|some (.int k)=>some k| _=>none)))=true:=by kernel_rfl
theorem jf30:((Rows.issuerkeyConvincesRow.pinned==Rows.issuerkeyConvincesRow.pinnedBy))=true:=by kernel_rfl
theorem jf31:((Rows.issuerkeyConvincesRow.veiled==(Tryz.f4.params.toList++Rows.issuerkeyConvincesSpec.plain.varTypes Tryz.pinned.checked.prog++Tryz.f4.resultTypes.toList).any (Tryz.pinned.checked.prog.veiledRec ·)))=true:=by kernel_rfl
theorem jf32:(Rows.issuerkeyConvincesRow.veiledFits Tryz.pinned.checked.prog Tryz.f4.params.toList (Tryz.f4.params.toList++Rows.issuerkeyConvincesSpec.plain.varTypes Tryz.pinned.checked.prog++Tryz.f4.resultTypes.toList))=true:=by kernel_rfl
end Go.Proofs.YtmledjfbgjnknaaGreatDoor
