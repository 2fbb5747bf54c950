/-
  Part of the proof, part 49. Own work.
-/
import Derived.Test.YtmobkhegihemeaaGreatDoorRows
import Derived.Test.YtmobkhegihemeaaGreatDoorCards
import Derived.Test.YtmobkhegihemeaaGreatDoorTie
import Derived.ProofKit
import Derived.ChangeSame
import Derived.SevenTiedAt
import Derived.JoinedOf
set_option linter.all false
namespace Go.Proofs.YtmobkhegihemeaaGreatDoor
open Go Go.RowKit
set_option maxRecDepth 100000
theorem jf13:((Rows.courtHidesRow.named==Tryz.pinned.checked.prog.varsNamed 5))=true:=by kernel_rfl
theorem jf14:((Rows.courtHidesRow.maps==(Tryz.f5.params.toList++Rows.courtHidesSpec.plain.varTypes Tryz.pinned.checked.prog).any (Tryz.pinned.checked.prog.mapsRec ·)))=true:=by kernel_rfl
theorem jf15:((Rows.courtHidesRow.ifaces==(Tryz.f5.params.toList++Rows.courtHidesSpec.plain.varTypes Tryz.pinned.checked.prog).any (Tryz.pinned.checked.prog.ifacesRec ·)))=true:=by kernel_rfl
theorem jf16:((Rows.courtHidesRow.mapsOut==Tryz.pinned.checked.prog.mapsAmong Tryz.f5.resultTypes.toList))=true:=by kernel_rfl
theorem jf17:((Rows.courtHidesRow.loops==(Tryz.f5.params.toList++Rows.courtHidesSpec.plain.varTypes Tryz.pinned.checked.prog).any (Tryz.pinned.checked.prog.loopsFrom ·)))=true:=by kernel_rfl
theorem jf18:((Rows.courtHidesRow.wideKeys==(Tryz.f5.params.toList++Rows.courtHidesSpec.plain.varTypes Tryz.pinned.checked.prog++Tryz.f5.resultTypes.toList).any (Tryz.pinned.checked.prog.wideKeysFrom ·)))=true:=by kernel_rfl
theorem jf19:(Rows.courtHidesSpec.vars.all (Tryz.pinned.checked.prog.varReadable ·))=true:=by kernel_rfl
end Go.Proofs.YtmobkhegihemeaaGreatDoor
