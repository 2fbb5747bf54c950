/-
  Part of the proof, part FA50. Own work.
-/
import Derived.Test.YtfdjchnefpefbaaGreatDoorRows
import Derived.Test.YtfdjchnefpefbaaGreatDoorCards
import Derived.Test.YtfdjchnefpefbaaGreatDoorTie
import Derived.ProofKit
import Derived.ChangeSame
import Derived.SevenTiedAt
import Derived.JoinedOf
set_option linter.all false
namespace Go.Proofs.YtfdjchnefpefbaaGreatDoor
open Go Go.RowKit
set_option maxRecDepth 100000
theorem Yu:(Tryz.f3.resultTypes.all (fun t=>Tryz.pinned.checked.prog.readableRec t&&decide (t<Tryz.pinned.checked.prog.types.size)))=true:=by kernel_rfl
theorem Yv:((Rows.courtFoundsRow.ifacesOut==Tryz.f3.resultTypes.toList.any (Tryz.pinned.checked.prog.ifacesRec ·)))=true:=by kernel_rfl
theorem Yw:((Rows.courtFoundsRow.loopsOut==Tryz.f3.resultTypes.toList.any (Tryz.pinned.checked.prog.loopsFrom ·)))=true:=by kernel_rfl
theorem Yx:((Rows.courtFoundsRow.plainKeys==Tryz.pinned.checked.prog.plainKeys))=true:=by kernel_rfl
theorem Yy:(Rows.courtFoundsRow.shortTexts.isNone)=true:=by kernel_rfl
theorem Yz:(Tryz.pinned.checked.prog.stopsHeard)=true:=by kernel_rfl
theorem YA:(Tryz.pinned.checked.prog.mayEnter)=true:=by kernel_rfl
theorem YC:((Rows.courtFoundsRow.lifted==Tryz.pinned.checked.prog.liftsFinal))=true:=by kernel_rfl
theorem YD:((Tryz.pinned.checked.prog.make==some Rows.courtFoundsRow.make))=true:=by kernel_rfl
theorem YE:((Rows.courtFoundsRow.kinds==(if Rows.courtFoundsRow.domain.isEmpty then[]else Tryz.f3.params.toList.map fun t=>match Tryz.pinned.checked.prog.underlying t with|some (.int k)=>some k| _=>none)))=true:=by kernel_rfl
theorem YF:((Rows.courtFoundsRow.pinned==Rows.courtFoundsRow.pinnedBy))=true:=by kernel_rfl
theorem YG:((Rows.courtFoundsRow.veiled==(Tryz.f3.params.toList++Rows.courtFoundsSpec.plain.varTypes Tryz.pinned.checked.prog++Tryz.f3.resultTypes.toList).any (Tryz.pinned.checked.prog.veiledRec ·)))=true:=by kernel_rfl
theorem YH:(Rows.courtFoundsRow.veiledFits Tryz.pinned.checked.prog Tryz.f3.params.toList (Tryz.f3.params.toList++Rows.courtFoundsSpec.plain.varTypes Tryz.pinned.checked.prog++Tryz.f3.resultTypes.toList))=true:=by kernel_rfl
end Go.Proofs.YtfdjchnefpefbaaGreatDoor
