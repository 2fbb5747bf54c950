/-
  Part of the proof, part KC51. Own work.
-/
import Derived.Test.YtmobkhegihemeaaGreatDoorRows
import Derived.Test.YtmobkhegihemeaaGreatDoorCards
import Derived.Test.YtmobkhegihemeaaGreatDoorTie
import Derived.ProofKit
import Derived.ChangeSame
import Derived.SevenTiedAt
import Derived.JoinedOf
set_option linter.all false
namespace Go.Proofs.YtmobkhegihemeaaGreatDoor
open Go Go.RowKit
set_option maxRecDepth 100000
theorem VF:(Tryz.f3.resultTypes.all (fun t=>Tryz.pinned.checked.prog.readableRec t&&decide (t<Tryz.pinned.checked.prog.types.size)))=true:=by kernel_rfl
theorem VG:((Rows.courtChecksRow.ifacesOut==Tryz.f3.resultTypes.toList.any (Tryz.pinned.checked.prog.ifacesRec ·)))=true:=by kernel_rfl
theorem VH:((Rows.courtChecksRow.loopsOut==Tryz.f3.resultTypes.toList.any (Tryz.pinned.checked.prog.loopsFrom ·)))=true:=by kernel_rfl
theorem VI:((Rows.courtChecksRow.plainKeys==Tryz.pinned.checked.prog.plainKeys))=true:=by kernel_rfl
theorem VJ:(Rows.courtChecksRow.shortTexts.isNone)=true:=by kernel_rfl
theorem VK:(Tryz.pinned.checked.prog.stopsHeard)=true:=by kernel_rfl
theorem VL:(Tryz.pinned.checked.prog.mayEnter)=true:=by kernel_rfl
theorem VM:((Rows.courtChecksRow.lifted==Tryz.pinned.checked.prog.liftsFinal))=true:=by kernel_rfl
theorem VN:((Tryz.pinned.checked.prog.make==some Rows.courtChecksRow.make))=true:=by kernel_rfl
theorem VO:((Rows.courtChecksRow.kinds==(if Rows.courtChecksRow.domain.isEmpty then[]else Tryz.f3.params.toList.map fun t=>match Tryz.pinned.checked.prog.underlying t with|some (.int k)=>some k| _=>none)))=true:=by kernel_rfl
theorem VP:((Rows.courtChecksRow.pinned==Rows.courtChecksRow.pinnedBy))=true:=by kernel_rfl
theorem VQ:((Rows.courtChecksRow.veiled==(Tryz.f3.params.toList++Rows.courtChecksSpec.plain.varTypes Tryz.pinned.checked.prog++Tryz.f3.resultTypes.toList).any (Tryz.pinned.checked.prog.veiledRec ·)))=true:=by kernel_rfl
theorem VR:(Rows.courtChecksRow.veiledFits Tryz.pinned.checked.prog Tryz.f3.params.toList (Tryz.f3.params.toList++Rows.courtChecksSpec.plain.varTypes Tryz.pinned.checked.prog++Tryz.f3.resultTypes.toList))=true:=by kernel_rfl
end Go.Proofs.YtmobkhegihemeaaGreatDoor
