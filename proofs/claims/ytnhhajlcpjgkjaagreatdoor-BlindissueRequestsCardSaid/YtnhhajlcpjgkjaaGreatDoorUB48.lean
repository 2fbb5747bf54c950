/- Part of the proof. -/
import Derived.Test.YtnhhajlcpjgkjaaGreatDoorRows
import Derived.Test.YtnhhajlcpjgkjaaGreatDoorCards
import Derived.Test.YtnhhajlcpjgkjaaGreatDoorTie
import Derived.ProofKit
import Derived.ChangeSame
import Derived.SevenTiedAt
import Derived.JoinedOf
set_option linter.all false
set_option maxRecDepth 100000
namespace Go.Proofs.YtnhhajlcpjgkjaaGreatDoor
open Go Go.RowKit Go.Proofs.Tryz
theorem NW:(Tryz.f3.resultTypes.all (fun t=>Tryz.pinned.checked.prog.readableRec t&&decide (t<Tryz.pinned.checked.prog.types.size)))=true:=by kernel_rfl
theorem NX:((Rows.blindissueRequestsRow.ifacesOut==Tryz.f3.resultTypes.toList.any (Tryz.pinned.checked.prog.ifacesRec ·)))=true:=by kernel_rfl
theorem NY:((Rows.blindissueRequestsRow.loopsOut==Tryz.f3.resultTypes.toList.any (Tryz.pinned.checked.prog.loopsFrom ·)))=true:=by kernel_rfl
theorem NZ:((Rows.blindissueRequestsRow.plainKeys==Tryz.pinned.checked.prog.plainKeys))=true:=by kernel_rfl
theorem N0:(Rows.blindissueRequestsRow.shortTexts.isNone)=true:=by kernel_rfl
theorem N1:(Tryz.pinned.checked.prog.stopsHeard)=true:=by kernel_rfl
theorem N2:(Tryz.pinned.checked.prog.mayEnter)=true:=by kernel_rfl
theorem N3:((Rows.blindissueRequestsRow.lifted==Tryz.pinned.checked.prog.liftsFinal))=true:=by kernel_rfl
theorem N4:((Tryz.pinned.checked.prog.make==some Rows.blindissueRequestsRow.make))=true:=by kernel_rfl
theorem N5:((Rows.blindissueRequestsRow.kinds==(if Rows.blindissueRequestsRow.domain.isEmpty then[]else Tryz.f3.params.toList.map fun t=>match Tryz.pinned.checked.prog.underlying t with|some (.int k)=>some k| _=>none)))=true:=by kernel_rfl
theorem N6:((Rows.blindissueRequestsRow.pinned==Rows.blindissueRequestsRow.pinnedBy))=true:=by kernel_rfl
theorem N7:((Rows.blindissueRequestsRow.veiled==(Tryz.f3.params.toList++Rows.blindissueRequestsSpec.plain.varTypes Tryz.pinned.checked.prog++Tryz.f3.resultTypes.toList).any (Tryz.pinned.checked.prog.veiledRec ·)))=true:=by kernel_rfl
theorem N8:(Rows.blindissueRequestsRow.veiledFits Tryz.pinned.checked.prog Tryz.f3.params.toList (Tryz.f3.params.toList++Rows.blindissueRequestsSpec.plain.varTypes Tryz.pinned.checked.prog++Tryz.f3.resultTypes.toList))=true:=by kernel_rfl
