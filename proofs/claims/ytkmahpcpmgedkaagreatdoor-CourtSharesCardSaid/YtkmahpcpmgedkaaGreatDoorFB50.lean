/- Part of the proof. -/
import Derived.Test.YtkmahpcpmgedkaaGreatDoorRows
import Derived.Test.YtkmahpcpmgedkaaGreatDoorCards
import Derived.Test.YtkmahpcpmgedkaaGreatDoorTie
import Derived.ProofKit
import Derived.ChangeSame
import Derived.SevenTiedAt
import Derived.JoinedOf
set_option linter.all false
set_option maxRecDepth 100000
namespace Go.Proofs.YtkmahpcpmgedkaaGreatDoor
open Go Go.RowKit Tryz
theorem ZZ:(Tryz.f3.resultTypes.all (fun t=>Tryz.pinned.checked.prog.readableRec t&&decide (t<Tryz.pinned.checked.prog.types.size)))=true:=by kernel_rfl
theorem Z0:((Rows.courtSharesRow.ifacesOut==Tryz.f3.resultTypes.toList.any (Tryz.pinned.checked.prog.ifacesRec ·)))=true:=by kernel_rfl
theorem Z1:((Rows.courtSharesRow.loopsOut==Tryz.f3.resultTypes.toList.any (Tryz.pinned.checked.prog.loopsFrom ·)))=true:=by kernel_rfl
theorem Z3:((Rows.courtSharesRow.plainKeys==Tryz.pinned.checked.prog.plainKeys))=true:=by kernel_rfl
theorem Z4:(Rows.courtSharesRow.shortTexts.isNone)=true:=by kernel_rfl
theorem Z5:(Tryz.pinned.checked.prog.stopsHeard)=true:=by kernel_rfl
theorem Z6:(Tryz.pinned.checked.prog.mayEnter)=true:=by kernel_rfl
theorem Z7:((Rows.courtSharesRow.lifted==Tryz.pinned.checked.prog.liftsFinal))=true:=by kernel_rfl
theorem Z8:((Tryz.pinned.checked.prog.make==some Rows.courtSharesRow.make))=true:=by kernel_rfl
theorem Z9:((Rows.courtSharesRow.kinds==(if Rows.courtSharesRow.domain.isEmpty then[]else Tryz.f3.params.toList.map fun t=>match Tryz.pinned.checked.prog.underlying t with|some (.int k)=>some k| _=>none)))=true:=by kernel_rfl
theorem aaa:((Rows.courtSharesRow.pinned==Rows.courtSharesRow.pinnedBy))=true:=by kernel_rfl
theorem aab:((Rows.courtSharesRow.veiled==(Tryz.f3.params.toList++Rows.courtSharesSpec.plain.varTypes Tryz.pinned.checked.prog++Tryz.f3.resultTypes.toList).any (Tryz.pinned.checked.prog.veiledRec ·)))=true:=by kernel_rfl
theorem aac:(Rows.courtSharesRow.veiledFits Tryz.pinned.checked.prog Tryz.f3.params.toList (Tryz.f3.params.toList++Rows.courtSharesSpec.plain.varTypes Tryz.pinned.checked.prog++Tryz.f3.resultTypes.toList))=true:=by kernel_rfl
