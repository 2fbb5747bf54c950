/- Part of the proof. -/
import Derived.Test.YtkmahpcpmgedkaaGreatDoorRows
import Derived.Test.YtkmahpcpmgedkaaGreatDoorCards
import Derived.Test.YtkmahpcpmgedkaaGreatDoorTie
import Derived.ProofKit
import Derived.ChangeSame
import Derived.SevenTiedAt
import Derived.JoinedOf
set_option linter.all false
set_option maxRecDepth 100000
namespace Go.Proofs.YtkmahpcpmgedkaaGreatDoor
open Go Go.RowKit Tryz
theorem ZS:((Rows.courtOpensRow.named==Tryz.pinned.checked.prog.varsNamed 4))=true:=by kernel_rfl
theorem ZT:((Rows.courtOpensRow.maps==(Tryz.f4.params.toList++Rows.courtOpensSpec.plain.varTypes Tryz.pinned.checked.prog).any (Tryz.pinned.checked.prog.mapsRec ·)))=true:=by kernel_rfl
theorem ZU:((Rows.courtOpensRow.ifaces==(Tryz.f4.params.toList++Rows.courtOpensSpec.plain.varTypes Tryz.pinned.checked.prog).any (Tryz.pinned.checked.prog.ifacesRec ·)))=true:=by kernel_rfl
theorem ZV:((Rows.courtOpensRow.mapsOut==Tryz.pinned.checked.prog.mapsAmong Tryz.f4.resultTypes.toList))=true:=by kernel_rfl
theorem ZW:((Rows.courtOpensRow.loops==(Tryz.f4.params.toList++Rows.courtOpensSpec.plain.varTypes Tryz.pinned.checked.prog).any (Tryz.pinned.checked.prog.loopsFrom ·)))=true:=by kernel_rfl
theorem ZX:((Rows.courtOpensRow.wideKeys==(Tryz.f4.params.toList++Rows.courtOpensSpec.plain.varTypes Tryz.pinned.checked.prog++Tryz.f4.resultTypes.toList).any (Tryz.pinned.checked.prog.wideKeysFrom ·)))=true:=by kernel_rfl
theorem ZY:(Rows.courtOpensSpec.vars.all (Tryz.pinned.checked.prog.varReadable ·))=true:=by kernel_rfl
