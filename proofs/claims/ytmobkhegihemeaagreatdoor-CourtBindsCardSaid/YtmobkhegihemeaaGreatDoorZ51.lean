/-
  Part of the proof, part Z51. Own work.
-/
import Derived.Test.YtmobkhegihemeaaGreatDoorRows
import Derived.Test.YtmobkhegihemeaaGreatDoorCards
import Derived.Test.YtmobkhegihemeaaGreatDoorTie
import Derived.ProofKit
import Derived.ChangeSame
import Derived.SevenTiedAt
import Derived.JoinedOf
set_option linter.all false
namespace Go.Proofs.YtmobkhegihemeaaGreatDoor
open Go Go.RowKit
set_option maxRecDepth 100000
theorem Ru:(Tryz.f4.resultTypes.all (fun t=>Tryz.pinned.checked.prog.readableRec t&&decide (t<Tryz.pinned.checked.prog.types.size)))=true:=by kernel_rfl
theorem Q7:((Rows.courtBindsRow.ifacesOut==Tryz.f4.resultTypes.toList.any (Tryz.pinned.checked.prog.ifacesRec ·)))=true:=by kernel_rfl
theorem Rk:((Rows.courtBindsRow.loopsOut==Tryz.f4.resultTypes.toList.any (Tryz.pinned.checked.prog.loopsFrom ·)))=true:=by kernel_rfl
theorem Rv:((Rows.courtBindsRow.plainKeys==Tryz.pinned.checked.prog.plainKeys))=true:=by kernel_rfl
theorem R5:(Rows.courtBindsRow.shortTexts.isNone)=true:=by kernel_rfl
theorem Re:(Tryz.pinned.checked.prog.stopsHeard)=true:=by kernel_rfl
theorem RN:(Tryz.pinned.checked.prog.mayEnter)=true:=by kernel_rfl
theorem RK:((Rows.courtBindsRow.lifted==Tryz.pinned.checked.prog.liftsFinal))=true:=by kernel_rfl
theorem Rc:((Tryz.pinned.checked.prog.make==some Rows.courtBindsRow.make))=true:=by kernel_rfl
theorem R7:((Rows.courtBindsRow.kinds==(if Rows.courtBindsRow.domain.isEmpty then[]else Tryz.f4.params.toList.map fun t=>match Tryz.pinned.checked.prog.underlying t with|some (.int k)=>some k| _=>none)))=true:=by kernel_rfl
theorem Q4:((Rows.courtBindsRow.pinned==Rows.courtBindsRow.pinnedBy))=true:=by kernel_rfl
theorem Rp:((Rows.courtBindsRow.veiled==(Tryz.f4.params.toList++Rows.courtBindsSpec.plain.varTypes Tryz.pinned.checked.prog++Tryz.f4.resultTypes.toList).any (Tryz.pinned.checked.prog.veiledRec ·)))=true:=by kernel_rfl
theorem RS:(Rows.courtBindsRow.veiledFits Tryz.pinned.checked.prog Tryz.f4.params.toList (Tryz.f4.params.toList++Rows.courtBindsSpec.plain.varTypes Tryz.pinned.checked.prog++Tryz.f4.resultTypes.toList))=true:=by kernel_rfl
end Go.Proofs.YtmobkhegihemeaaGreatDoor
