/-
  Part of the proof, part KR51. Own work.
-/
import Derived.Test.YtmobkhegihemeaaGreatDoorRows
import Derived.Test.YtmobkhegihemeaaGreatDoorCards
import Derived.Test.YtmobkhegihemeaaGreatDoorTie
import Derived.ProofKit
import Derived.ChangeSame
import Derived.SevenTiedAt
import Derived.JoinedOf
set_option linter.all false
namespace Go.Proofs.YtmobkhegihemeaaGreatDoor
open Go Go.RowKit
set_option maxRecDepth 100000
theorem QO:(Tryz.f6.resultTypes.all (fun t=>Tryz.pinned.checked.prog.readableRec t&&decide (t<Tryz.pinned.checked.prog.types.size)))=true:=by kernel_rfl
theorem QP:((Rows.courtRestoresRow.ifacesOut==Tryz.f6.resultTypes.toList.any (Tryz.pinned.checked.prog.ifacesRec ·)))=true:=by kernel_rfl
theorem QQ:((Rows.courtRestoresRow.loopsOut==Tryz.f6.resultTypes.toList.any (Tryz.pinned.checked.prog.loopsFrom ·)))=true:=by kernel_rfl
theorem QR:((Rows.courtRestoresRow.plainKeys==Tryz.pinned.checked.prog.plainKeys))=true:=by kernel_rfl
theorem QS:(Rows.courtRestoresRow.shortTexts.isNone)=true:=by kernel_rfl
theorem QT:(Tryz.pinned.checked.prog.stopsHeard)=true:=by kernel_rfl
theorem QU:(Tryz.pinned.checked.prog.mayEnter)=true:=by kernel_rfl
theorem QV:((Rows.courtRestoresRow.lifted==Tryz.pinned.checked.prog.liftsFinal))=true:=by kernel_rfl
theorem QW:((Tryz.pinned.checked.prog.make==some Rows.courtRestoresRow.make))=true:=by kernel_rfl
theorem QX:((Rows.courtRestoresRow.kinds==(if Rows.courtRestoresRow.domain.isEmpty then[]else Tryz.f6.params.toList.map fun t=>match Tryz.pinned.checked.prog.underlying t with|some (.int k)=>some k| _=>none)))=true:=by kernel_rfl
theorem QY:((Rows.courtRestoresRow.pinned==Rows.courtRestoresRow.pinnedBy))=true:=by kernel_rfl
theorem QZ:((Rows.courtRestoresRow.veiled==(Tryz.f6.params.toList++Rows.courtRestoresSpec.plain.varTypes Tryz.pinned.checked.prog++Tryz.f6.resultTypes.toList).any (Tryz.pinned.checked.prog.veiledRec ·)))=true:=by kernel_rfl
theorem Q0:(Rows.courtRestoresRow.veiledFits Tryz.pinned.checked.prog Tryz.f6.params.toList (Tryz.f6.params.toList++Rows.courtRestoresSpec.plain.varTypes Tryz.pinned.checked.prog++Tryz.f6.resultTypes.toList))=true:=by kernel_rfl
end Go.Proofs.YtmobkhegihemeaaGreatDoor
