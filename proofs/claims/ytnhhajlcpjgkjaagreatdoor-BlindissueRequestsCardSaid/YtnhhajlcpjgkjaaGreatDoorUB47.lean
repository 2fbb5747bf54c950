/- Part of the proof. -/
import Derived.Test.YtnhhajlcpjgkjaaGreatDoorRows
import Derived.Test.YtnhhajlcpjgkjaaGreatDoorCards
import Derived.Test.YtnhhajlcpjgkjaaGreatDoorTie
import Derived.ProofKit
import Derived.ChangeSame
import Derived.SevenTiedAt
import Derived.JoinedOf
set_option linter.all false
set_option maxRecDepth 100000
namespace Go.Proofs.YtnhhajlcpjgkjaaGreatDoor
open Go Go.RowKit Go.Proofs.Tryz
theorem NP:((Rows.blindissueRequestsRow.named==Tryz.pinned.checked.prog.varsNamed 3))=true:=by kernel_rfl
theorem NQ:((Rows.blindissueRequestsRow.maps==(Tryz.f3.params.toList++Rows.blindissueRequestsSpec.plain.varTypes Tryz.pinned.checked.prog).any (Tryz.pinned.checked.prog.mapsRec ·)))=true:=by kernel_rfl
theorem NR:((Rows.blindissueRequestsRow.ifaces==(Tryz.f3.params.toList++Rows.blindissueRequestsSpec.plain.varTypes Tryz.pinned.checked.prog).any (Tryz.pinned.checked.prog.ifacesRec ·)))=true:=by kernel_rfl
theorem NS:((Rows.blindissueRequestsRow.mapsOut==Tryz.pinned.checked.prog.mapsAmong Tryz.f3.resultTypes.toList))=true:=by kernel_rfl
theorem NT:((Rows.blindissueRequestsRow.loops==(Tryz.f3.params.toList++Rows.blindissueRequestsSpec.plain.varTypes Tryz.pinned.checked.prog).any (Tryz.pinned.checked.prog.loopsFrom ·)))=true:=by kernel_rfl
theorem NU:((Rows.blindissueRequestsRow.wideKeys==(Tryz.f3.params.toList++Rows.blindissueRequestsSpec.plain.varTypes Tryz.pinned.checked.prog++Tryz.f3.resultTypes.toList).any (Tryz.pinned.checked.prog.wideKeysFrom ·)))=true:=by kernel_rfl
theorem NV:(Rows.blindissueRequestsSpec.vars.all (Tryz.pinned.checked.prog.varReadable ·))=true:=by kernel_rfl
