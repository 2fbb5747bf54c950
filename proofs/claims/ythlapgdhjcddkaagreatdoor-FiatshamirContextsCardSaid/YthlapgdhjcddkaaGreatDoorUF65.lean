/- Part of the proof. -/
import Derived.Test.YthlapgdhjcddkaaGreatDoorRows
import Derived.Test.YthlapgdhjcddkaaGreatDoorCards
import Derived.Test.YthlapgdhjcddkaaGreatDoorTie
import Derived.ProofKit
import Derived.ChangeSame
import Derived.SevenTiedAt
import Derived.JoinedOf
set_option linter.all false
set_option maxRecDepth 100000
namespace Go.Proofs.YthlapgdhjcddkaaGreatDoor
open Go Go.RowKit Go.Proofs.Tryz
theorem Od:((Rows.fiatshamirContextsRow.named==Tryz.pinned.checked.prog.varsNamed 4))=true:=by kernel_rfl
theorem Oe:((Rows.fiatshamirContextsRow.maps==(Tryz.f4.params.toList++Rows.fiatshamirContextsSpec.plain.varTypes Tryz.pinned.checked.prog).any (Tryz.pinned.checked.prog.mapsRec ·)))=true:=by kernel_rfl
theorem Of:((Rows.fiatshamirContextsRow.ifaces==(Tryz.f4.params.toList++Rows.fiatshamirContextsSpec.plain.varTypes Tryz.pinned.checked.prog).any (Tryz.pinned.checked.prog.ifacesRec ·)))=true:=by kernel_rfl
theorem Og:((Rows.fiatshamirContextsRow.mapsOut==Tryz.pinned.checked.prog.mapsAmong Tryz.f4.resultTypes.toList))=true:=by kernel_rfl
theorem Oh:((Rows.fiatshamirContextsRow.loops==(Tryz.f4.params.toList++Rows.fiatshamirContextsSpec.plain.varTypes Tryz.pinned.checked.prog).any (Tryz.pinned.checked.prog.loopsFrom ·)))=true:=by kernel_rfl
theorem Oi:((Rows.fiatshamirContextsRow.wideKeys==(Tryz.f4.params.toList++Rows.fiatshamirContextsSpec.plain.varTypes Tryz.pinned.checked.prog++Tryz.f4.resultTypes.toList).any (Tryz.pinned.checked.prog.wideKeysFrom ·)))=true:=by kernel_rfl
theorem Oj:(Rows.fiatshamirContextsSpec.vars.all (Tryz.pinned.checked.prog.varReadable ·))=true:=by kernel_rfl
