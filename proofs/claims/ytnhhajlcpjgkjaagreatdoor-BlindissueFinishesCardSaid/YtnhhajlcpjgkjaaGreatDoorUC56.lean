/- Part of the proof. -/
import Derived.Test.YtnhhajlcpjgkjaaGreatDoorRows
import Derived.Test.YtnhhajlcpjgkjaaGreatDoorCards
import Derived.Test.YtnhhajlcpjgkjaaGreatDoorTie
import Derived.ProofKit
import Derived.ChangeSame
import Derived.SevenTiedAt
import Derived.JoinedOf
set_option linter.all false
set_option maxRecDepth 100000
namespace Go.Proofs.YtnhhajlcpjgkjaaGreatDoor
open Go Go.RowKit Go.Proofs.Tryz
theorem T9:(Tryz.f4.resultTypes.all (fun t=>Tryz.pinned.checked.prog.readableRec t&&decide (t<Tryz.pinned.checked.prog.types.size)))=true:=by kernel_rfl
theorem Ua:((Rows.blindissueFinishesRow.ifacesOut==Tryz.f4.resultTypes.toList.any (Tryz.pinned.checked.prog.ifacesRec ·)))=true:=by kernel_rfl
theorem Ub:((Rows.blindissueFinishesRow.loopsOut==Tryz.f4.resultTypes.toList.any (Tryz.pinned.checked.prog.loopsFrom ·)))=true:=by kernel_rfl
theorem Uc:((Rows.blindissueFinishesRow.plainKeys==Tryz.pinned.checked.prog.plainKeys))=true:=by kernel_rfl
theorem Ud:(Rows.blindissueFinishesRow.shortTexts.isNone)=true:=by kernel_rfl
theorem Ue:(Tryz.pinned.checked.prog.stopsHeard)=true:=by kernel_rfl
theorem Uf:(Tryz.pinned.checked.prog.mayEnter)=true:=by kernel_rfl
theorem Ug:((Rows.blindissueFinishesRow.lifted==Tryz.pinned.checked.prog.liftsFinal))=true:=by kernel_rfl
theorem Uh:((Tryz.pinned.checked.prog.make==some Rows.blindissueFinishesRow.make))=true:=by kernel_rfl
theorem Ui:((Rows.blindissueFinishesRow.kinds==(if Rows.blindissueFinishesRow.domain.isEmpty then[]else Tryz.f4.params.toList.map fun t=>match Tryz.pinned.checked.prog.underlying t with|some (.int k)=>some k| _=>none)))=true:=by kernel_rfl
theorem Uj:((Rows.blindissueFinishesRow.pinned==Rows.blindissueFinishesRow.pinnedBy))=true:=by kernel_rfl
theorem Uk:((Rows.blindissueFinishesRow.veiled==(Tryz.f4.params.toList++Rows.blindissueFinishesSpec.plain.varTypes Tryz.pinned.checked.prog++Tryz.f4.resultTypes.toList).any (Tryz.pinned.checked.prog.veiledRec ·)))=true:=by kernel_rfl
theorem Ul:(Rows.blindissueFinishesRow.veiledFits Tryz.pinned.checked.prog Tryz.f4.params.toList (Tryz.f4.params.toList++Rows.blindissueFinishesSpec.plain.varTypes Tryz.pinned.checked.prog++Tryz.f4.resultTypes.toList))=true:=by kernel_rfl
