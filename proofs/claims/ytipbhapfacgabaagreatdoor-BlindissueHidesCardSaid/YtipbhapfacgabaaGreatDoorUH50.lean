/- Part of the proof. -/
import Derived.Test.YtipbhapfacgabaaGreatDoorRows
import Derived.Test.YtipbhapfacgabaaGreatDoorCards
import Derived.Test.YtipbhapfacgabaaGreatDoorTie
import Derived.ProofKit
import Derived.ChangeSame
import Derived.SevenTiedAt
import Derived.JoinedOf
set_option linter.all false
set_option maxRecDepth 100000
namespace Go.Proofs.YtipbhapfacgabaaGreatDoor
open Go Go.RowKit Go.Proofs.Tryz
theorem ZI:(Tryz.f3.resultTypes.all (fun t=>Tryz.pinned.checked.prog.readableRec t&&decide (t<Tryz.pinned.checked.prog.types.size)))=true:=by kernel_rfl
theorem ZJ:((Rows.blindissueHidesRow.ifacesOut==Tryz.f3.resultTypes.toList.any (Tryz.pinned.checked.prog.ifacesRec ·)))=true:=by kernel_rfl
theorem ZK:((Rows.blindissueHidesRow.loopsOut==Tryz.f3.resultTypes.toList.any (Tryz.pinned.checked.prog.loopsFrom ·)))=true:=by kernel_rfl
theorem ZL:((Rows.blindissueHidesRow.plainKeys==Tryz.pinned.checked.prog.plainKeys))=true:=by kernel_rfl
theorem ZM:(Rows.blindissueHidesRow.shortTexts.isNone)=true:=by kernel_rfl
theorem ZN:(Tryz.pinned.checked.prog.stopsHeard)=true:=by kernel_rfl
theorem ZO:(Tryz.pinned.checked.prog.mayEnter)=true:=by kernel_rfl
theorem ZP:((Rows.blindissueHidesRow.lifted==Tryz.pinned.checked.prog.liftsFinal))=true:=by kernel_rfl
theorem ZQ:((Tryz.pinned.checked.prog.make==some Rows.blindissueHidesRow.make))=true:=by kernel_rfl
theorem ZR:((Rows.blindissueHidesRow.kinds==(if Rows.blindissueHidesRow.domain.isEmpty then[]else Tryz.f3.params.toList.map fun t=>match Tryz.pinned.checked.prog.underlying t with|some (.int k)=>some k| _=>none)))=true:=by kernel_rfl
theorem ZS:((Rows.blindissueHidesRow.pinned==Rows.blindissueHidesRow.pinnedBy))=true:=by kernel_rfl
theorem ZT:((Rows.blindissueHidesRow.veiled==(Tryz.f3.params.toList++Rows.blindissueHidesSpec.plain.varTypes Tryz.pinned.checked.prog++Tryz.f3.resultTypes.toList).any (Tryz.pinned.checked.prog.veiledRec ·)))=true:=by kernel_rfl
theorem ZU:(Rows.blindissueHidesRow.veiledFits Tryz.pinned.checked.prog Tryz.f3.params.toList (Tryz.f3.params.toList++Rows.blindissueHidesSpec.plain.varTypes Tryz.pinned.checked.prog++Tryz.f3.resultTypes.toList))=true:=by kernel_rfl
