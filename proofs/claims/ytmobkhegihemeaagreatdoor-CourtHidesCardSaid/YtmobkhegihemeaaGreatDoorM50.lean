/-
  Part of the proof, part 50. Own work.
-/
import Derived.Test.YtmobkhegihemeaaGreatDoorRows
import Derived.Test.YtmobkhegihemeaaGreatDoorCards
import Derived.Test.YtmobkhegihemeaaGreatDoorTie
import Derived.ProofKit
import Derived.ChangeSame
import Derived.SevenTiedAt
import Derived.JoinedOf
set_option linter.all false
namespace Go.Proofs.YtmobkhegihemeaaGreatDoor
open Go Go.RowKit
set_option maxRecDepth 100000
theorem jf20:(Tryz.f5.resultTypes.all (fun t=>Tryz.pinned.checked.prog.readableRec t&&decide (t<Tryz.pinned.checked.prog.types.size)))=true:=by kernel_rfl
theorem jf21:((Rows.courtHidesRow.ifacesOut==Tryz.f5.resultTypes.toList.any (Tryz.pinned.checked.prog.ifacesRec ·)))=true:=by kernel_rfl
theorem jf22:((Rows.courtHidesRow.loopsOut==Tryz.f5.resultTypes.toList.any (Tryz.pinned.checked.prog.loopsFrom ·)))=true:=by kernel_rfl
theorem jf23:((Rows.courtHidesRow.plainKeys==Tryz.pinned.checked.prog.plainKeys))=true:=by kernel_rfl
theorem jf24:(Rows.courtHidesRow.shortTexts.isNone)=true:=by kernel_rfl
theorem jf25:(Tryz.pinned.checked.prog.stopsHeard)=true:=by kernel_rfl
theorem jf26:(Tryz.pinned.checked.prog.mayEnter)=true:=by kernel_rfl
theorem jf27:((Rows.courtHidesRow.lifted==Tryz.pinned.checked.prog.liftsFinal))=true:=by kernel_rfl
theorem jf28:((Tryz.pinned.checked.prog.make==some Rows.courtHidesRow.make))=true:=by kernel_rfl
theorem jf29:((Rows.courtHidesRow.kinds==(if Rows.courtHidesRow.domain.isEmpty then[]else Tryz.f5.params.toList.map fun t=>match Tryz.pinned.checked.prog.underlying t with|some (.int k)=>some k| _=>none)))=true:=by kernel_rfl
theorem jf30:((Rows.courtHidesRow.pinned==Rows.courtHidesRow.pinnedBy))=true:=by kernel_rfl
theorem jf31:((Rows.courtHidesRow.veiled==(Tryz.f5.params.toList++Rows.courtHidesSpec.plain.varTypes Tryz.pinned.checked.prog++Tryz.f5.resultTypes.toList).any (Tryz.pinned.checked.prog.veiledRec ·)))=true:=by kernel_rfl
theorem jf32:(Rows.courtHidesRow.veiledFits Tryz.pinned.checked.prog Tryz.f5.params.toList (Tryz.f5.params.toList++Rows.courtHidesSpec.plain.varTypes Tryz.pinned.checked.prog++Tryz.f5.resultTypes.toList))=true:=by kernel_rfl
end Go.Proofs.YtmobkhegihemeaaGreatDoor
