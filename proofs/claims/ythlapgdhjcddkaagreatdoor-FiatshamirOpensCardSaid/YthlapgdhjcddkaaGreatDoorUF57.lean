/- Part of the proof. -/
import Derived.Test.YthlapgdhjcddkaaGreatDoorRows
import Derived.Test.YthlapgdhjcddkaaGreatDoorCards
import Derived.Test.YthlapgdhjcddkaaGreatDoorTie
import Derived.ProofKit
import Derived.ChangeSame
import Derived.SevenTiedAt
import Derived.JoinedOf
set_option linter.all false
set_option maxRecDepth 100000
namespace Go.Proofs.YthlapgdhjcddkaaGreatDoor
open Go Go.RowKit Go.Proofs.Tryz
theorem Od:((Rows.fiatshamirOpensRow.named==Tryz.pinned.checked.prog.varsNamed 5))=true:=by kernel_rfl
theorem Oe:((Rows.fiatshamirOpensRow.maps==(Tryz.f5.params.toList++Rows.fiatshamirOpensSpec.plain.varTypes Tryz.pinned.checked.prog).any (Tryz.pinned.checked.prog.mapsRec ·)))=true:=by kernel_rfl
theorem Of:((Rows.fiatshamirOpensRow.ifaces==(Tryz.f5.params.toList++Rows.fiatshamirOpensSpec.plain.varTypes Tryz.pinned.checked.prog).any (Tryz.pinned.checked.prog.ifacesRec ·)))=true:=by kernel_rfl
theorem Og:((Rows.fiatshamirOpensRow.mapsOut==Tryz.pinned.checked.prog.mapsAmong Tryz.f5.resultTypes.toList))=true:=by kernel_rfl
theorem Oh:((Rows.fiatshamirOpensRow.loops==(Tryz.f5.params.toList++Rows.fiatshamirOpensSpec.plain.varTypes Tryz.pinned.checked.prog).any (Tryz.pinned.checked.prog.loopsFrom ·)))=true:=by kernel_rfl
theorem Oi:((Rows.fiatshamirOpensRow.wideKeys==(Tryz.f5.params.toList++Rows.fiatshamirOpensSpec.plain.varTypes Tryz.pinned.checked.prog++Tryz.f5.resultTypes.toList).any (Tryz.pinned.checked.prog.wideKeysFrom ·)))=true:=by kernel_rfl
theorem Oj:(Rows.fiatshamirOpensSpec.vars.all (Tryz.pinned.checked.prog.varReadable ·))=true:=by kernel_rfl
