/-
  Part of the proof, part FA48. Own work.
-/
import Derived.Test.YtfdjchnefpefbaaGreatDoorRows
import Derived.Test.YtfdjchnefpefbaaGreatDoorCards
import Derived.Test.YtfdjchnefpefbaaGreatDoorTie
import Derived.ProofKit
import Derived.ChangeSame
import Derived.SevenTiedAt
import Derived.JoinedOf
set_option linter.all false
namespace Go.Proofs.YtfdjchnefpefbaaGreatDoor
open Go Go.RowKit
set_option maxRecDepth 100000
theorem jf1:(Rows.courtFoundsRow.wf (OpenSpec.ofChange Rows.courtFoundsSpec))=true:=by kernel_rfl
theorem jf2:(laidOutB Tryz.pinned.checked.prog)=true:=by kernel_rfl
theorem jf3:(mapsRowed Tryz.pinned.checked.prog)=true:=by kernel_rfl
theorem jf4:(Tryz.f3.params.all (Tryz.pinned.checked.prog.readableRec ·))=true:=by kernel_rfl
theorem jf5:(namedTie Tryz.pinned.checked.prog Rows.courtFoundsRow.named Rows.courtFoundsSpec.vars)=true:=by kernel_rfl
theorem jf6:((Rows.courtFoundsRow.stops==[]))=true:=by kernel_rfl
theorem jf7:((Tryz.pinned.checked.prog.stops==[]))=true:=by kernel_rfl
theorem jf8:((Rows.courtFoundsRow.knobs==[]))=true:=by kernel_rfl
theorem jf9:((Tryz.pinned.checked.prog.stopKnobs==[]))=true:=by kernel_rfl
theorem Yk:((Rows.courtFoundsRow.inPlace==Tryz.pinned.checked.prog.inPlace 3))=true:=by kernel_rfl
theorem Yl:((Rows.courtFoundsRow.unfollowed==Tryz.pinned.checked.prog.unfollowed 3))=true:=by kernel_rfl
theorem Ym:((Rows.courtFoundsRow.recurses==Tryz.pinned.checked.prog.recurses 3))=true:=by kernel_rfl
end Go.Proofs.YtfdjchnefpefbaaGreatDoor
