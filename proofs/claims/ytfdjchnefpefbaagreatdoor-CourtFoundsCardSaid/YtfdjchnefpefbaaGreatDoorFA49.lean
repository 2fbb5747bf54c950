/-
  Part of the proof, part FA49. Own work.
-/
import Derived.Test.YtfdjchnefpefbaaGreatDoorRows
import Derived.Test.YtfdjchnefpefbaaGreatDoorCards
import Derived.Test.YtfdjchnefpefbaaGreatDoorTie
import Derived.ProofKit
import Derived.ChangeSame
import Derived.SevenTiedAt
import Derived.JoinedOf
set_option linter.all false
namespace Go.Proofs.YtfdjchnefpefbaaGreatDoor
open Go Go.RowKit
set_option maxRecDepth 100000
theorem Yn:((Rows.courtFoundsRow.named==Tryz.pinned.checked.prog.varsNamed 3))=true:=by kernel_rfl
theorem Yo:((Rows.courtFoundsRow.maps==(Tryz.f3.params.toList++Rows.courtFoundsSpec.plain.varTypes Tryz.pinned.checked.prog).any (Tryz.pinned.checked.prog.mapsRec ·)))=true:=by kernel_rfl
theorem Yp:((Rows.courtFoundsRow.ifaces==(Tryz.f3.params.toList++Rows.courtFoundsSpec.plain.varTypes Tryz.pinned.checked.prog).any (Tryz.pinned.checked.prog.ifacesRec ·)))=true:=by kernel_rfl
theorem Yq:((Rows.courtFoundsRow.mapsOut==Tryz.pinned.checked.prog.mapsAmong Tryz.f3.resultTypes.toList))=true:=by kernel_rfl
theorem Yr:((Rows.courtFoundsRow.loops==(Tryz.f3.params.toList++Rows.courtFoundsSpec.plain.varTypes Tryz.pinned.checked.prog).any (Tryz.pinned.checked.prog.loopsFrom ·)))=true:=by kernel_rfl
theorem Ys:((Rows.courtFoundsRow.wideKeys==(Tryz.f3.params.toList++Rows.courtFoundsSpec.plain.varTypes Tryz.pinned.checked.prog++Tryz.f3.resultTypes.toList).any (Tryz.pinned.checked.prog.wideKeysFrom ·)))=true:=by kernel_rfl
theorem Yt:(Rows.courtFoundsSpec.vars.all (Tryz.pinned.checked.prog.varReadable ·))=true:=by kernel_rfl
end Go.Proofs.YtfdjchnefpefbaaGreatDoor
