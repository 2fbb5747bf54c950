/-
  Part of the proof, part KR50. Own work.
-/
import Derived.Test.YtmobkhegihemeaaGreatDoorRows
import Derived.Test.YtmobkhegihemeaaGreatDoorCards
import Derived.Test.YtmobkhegihemeaaGreatDoorTie
import Derived.ProofKit
import Derived.ChangeSame
import Derived.SevenTiedAt
import Derived.JoinedOf
set_option linter.all false
namespace Go.Proofs.YtmobkhegihemeaaGreatDoor
open Go Go.RowKit
set_option maxRecDepth 100000
theorem QG:((Rows.courtRestoresRow.named==Tryz.pinned.checked.prog.varsNamed 6))=true:=by kernel_rfl
theorem QH:((Rows.courtRestoresRow.maps==(Tryz.f6.params.toList++Rows.courtRestoresSpec.plain.varTypes Tryz.pinned.checked.prog).any (Tryz.pinned.checked.prog.mapsRec ·)))=true:=by kernel_rfl
theorem QI:((Rows.courtRestoresRow.ifaces==(Tryz.f6.params.toList++Rows.courtRestoresSpec.plain.varTypes Tryz.pinned.checked.prog).any (Tryz.pinned.checked.prog.ifacesRec ·)))=true:=by kernel_rfl
theorem QJ:((Rows.courtRestoresRow.mapsOut==Tryz.pinned.checked.prog.mapsAmong Tryz.f6.resultTypes.toList))=true:=by kernel_rfl
theorem QK:((Rows.courtRestoresRow.loops==(Tryz.f6.params.toList++Rows.courtRestoresSpec.plain.varTypes Tryz.pinned.checked.prog).any (Tryz.pinned.checked.prog.loopsFrom ·)))=true:=by kernel_rfl
theorem QL:((Rows.courtRestoresRow.wideKeys==(Tryz.f6.params.toList++Rows.courtRestoresSpec.plain.varTypes Tryz.pinned.checked.prog++Tryz.f6.resultTypes.toList).any (Tryz.pinned.checked.prog.wideKeysFrom ·)))=true:=by kernel_rfl
theorem QM:(Rows.courtRestoresSpec.vars.all (Tryz.pinned.checked.prog.varReadable ·))=true:=by kernel_rfl
end Go.Proofs.YtmobkhegihemeaaGreatDoor
