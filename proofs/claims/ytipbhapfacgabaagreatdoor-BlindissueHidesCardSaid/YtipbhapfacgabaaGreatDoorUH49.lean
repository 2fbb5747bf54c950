/- Part of the proof. -/
import Derived.Test.YtipbhapfacgabaaGreatDoorRows
import Derived.Test.YtipbhapfacgabaaGreatDoorCards
import Derived.Test.YtipbhapfacgabaaGreatDoorTie
import Derived.ProofKit
import Derived.ChangeSame
import Derived.SevenTiedAt
import Derived.JoinedOf
set_option linter.all false
set_option maxRecDepth 100000
namespace Go.Proofs.YtipbhapfacgabaaGreatDoor
open Go Go.RowKit Go.Proofs.Tryz
theorem ZB:((Rows.blindissueHidesRow.named==Tryz.pinned.checked.prog.varsNamed 3))=true:=by kernel_rfl
theorem ZC:((Rows.blindissueHidesRow.maps==(Tryz.f3.params.toList++Rows.blindissueHidesSpec.plain.varTypes Tryz.pinned.checked.prog).any (Tryz.pinned.checked.prog.mapsRec ·)))=true:=by kernel_rfl
theorem ZD:((Rows.blindissueHidesRow.ifaces==(Tryz.f3.params.toList++Rows.blindissueHidesSpec.plain.varTypes Tryz.pinned.checked.prog).any (Tryz.pinned.checked.prog.ifacesRec ·)))=true:=by kernel_rfl
theorem ZE:((Rows.blindissueHidesRow.mapsOut==Tryz.pinned.checked.prog.mapsAmong Tryz.f3.resultTypes.toList))=true:=by kernel_rfl
theorem ZF:((Rows.blindissueHidesRow.loops==(Tryz.f3.params.toList++Rows.blindissueHidesSpec.plain.varTypes Tryz.pinned.checked.prog).any (Tryz.pinned.checked.prog.loopsFrom ·)))=true:=by kernel_rfl
theorem ZG:((Rows.blindissueHidesRow.wideKeys==(Tryz.f3.params.toList++Rows.blindissueHidesSpec.plain.varTypes Tryz.pinned.checked.prog++Tryz.f3.resultTypes.toList).any (Tryz.pinned.checked.prog.wideKeysFrom ·)))=true:=by kernel_rfl
theorem ZH:(Rows.blindissueHidesSpec.vars.all (Tryz.pinned.checked.prog.varReadable ·))=true:=by kernel_rfl
