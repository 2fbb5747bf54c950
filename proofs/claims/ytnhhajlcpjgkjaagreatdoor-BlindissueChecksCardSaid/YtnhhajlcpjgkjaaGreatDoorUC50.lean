/- Part of the proof. -/
import Derived.Test.YtnhhajlcpjgkjaaGreatDoorRows
import Derived.Test.YtnhhajlcpjgkjaaGreatDoorCards
import Derived.Test.YtnhhajlcpjgkjaaGreatDoorTie
import Derived.ProofKit
import Derived.ChangeSame
import Derived.SevenTiedAt
import Derived.JoinedOf
set_option linter.all false
set_option maxRecDepth 100000
namespace Go.Proofs.YtnhhajlcpjgkjaaGreatDoor
open Go Go.RowKit Go.Proofs.Tryz
theorem T9:(Tryz.f5.resultTypes.all (fun t=>Tryz.pinned.checked.prog.readableRec t&&decide (t<Tryz.pinned.checked.prog.types.size)))=true:=by kernel_rfl
theorem Ua:((Rows.blindissueChecksRow.ifacesOut==Tryz.f5.resultTypes.toList.any (Tryz.pinned.checked.prog.ifacesRec ·)))=true:=by kernel_rfl
theorem Ub:((Rows.blindissueChecksRow.loopsOut==Tryz.f5.resultTypes.toList.any (Tryz.pinned.checked.prog.loopsFrom ·)))=true:=by kernel_rfl
theorem Uc:((Rows.blindissueChecksRow.plainKeys==Tryz.pinned.checked.prog.plainKeys))=true:=by kernel_rfl
theorem Ud:(Rows.blindissueChecksRow.shortTexts.isNone)=true:=by kernel_rfl
theorem Ue:(Tryz.pinned.checked.prog.stopsHeard)=true:=by kernel_rfl
theorem Uf:(Tryz.pinned.checked.prog.mayEnter)=true:=by kernel_rfl
theorem Ug:((Rows.blindissueChecksRow.lifted==Tryz.pinned.checked.prog.liftsFinal))=true:=by kernel_rfl
theorem Uh:((Tryz.pinned.checked.prog.make==some Rows.blindissueChecksRow.make))=true:=by kernel_rfl
theorem Ui:((Rows.blindissueChecksRow.kinds==(if Rows.blindissueChecksRow.domain.isEmpty then[]else Tryz.f5.params.toList.map fun t=>match Tryz.pinned.checked.prog.underlying t with|some (.int k)=>some k| _=>none)))=true:=by kernel_rfl
theorem Uj:((Rows.blindissueChecksRow.pinned==Rows.blindissueChecksRow.pinnedBy))=true:=by kernel_rfl
theorem Uk:((Rows.blindissueChecksRow.veiled==(Tryz.f5.params.toList++Rows.blindissueChecksSpec.plain.varTypes Tryz.pinned.checked.prog++Tryz.f5.resultTypes.toList).any (Tryz.pinned.checked.prog.veiledRec ·)))=true:=by kernel_rfl
theorem Ul:(Rows.blindissueChecksRow.veiledFits Tryz.pinned.checked.prog Tryz.f5.params.toList (Tryz.f5.params.toList++Rows.blindissueChecksSpec.plain.varTypes Tryz.pinned.checked.prog++Tryz.f5.resultTypes.toList))=true:=by kernel_rfl
