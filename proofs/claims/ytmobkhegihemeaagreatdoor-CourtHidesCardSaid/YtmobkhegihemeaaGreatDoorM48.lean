/-
  Part of the proof, part 48. Own work.
-/
import Derived.Test.YtmobkhegihemeaaGreatDoorRows
import Derived.Test.YtmobkhegihemeaaGreatDoorCards
import Derived.Test.YtmobkhegihemeaaGreatDoorTie
import Derived.ProofKit
import Derived.ChangeSame
import Derived.SevenTiedAt
import Derived.JoinedOf
set_option linter.all false
namespace Go.Proofs.YtmobkhegihemeaaGreatDoor
open Go Go.RowKit
set_option maxRecDepth 100000
theorem jf1:(Rows.courtHidesRow.wf (OpenSpec.ofChange Rows.courtHidesSpec))=true:=by kernel_rfl
theorem jf2:(laidOutB Tryz.pinned.checked.prog)=true:=by kernel_rfl
theorem jf3:(mapsRowed Tryz.pinned.checked.prog)=true:=by kernel_rfl
theorem jf4:(Tryz.f5.params.all (Tryz.pinned.checked.prog.readableRec ·))=true:=by kernel_rfl
theorem jf5:(namedTie Tryz.pinned.checked.prog Rows.courtHidesRow.named Rows.courtHidesSpec.vars)=true:=by kernel_rfl
theorem jf6:((Rows.courtHidesRow.stops==[]))=true:=by kernel_rfl
theorem jf7:((Tryz.pinned.checked.prog.stops==[]))=true:=by kernel_rfl
theorem jf8:((Rows.courtHidesRow.knobs==[]))=true:=by kernel_rfl
theorem jf9:((Tryz.pinned.checked.prog.stopKnobs==[]))=true:=by kernel_rfl
theorem jf10:((Rows.courtHidesRow.inPlace==Tryz.pinned.checked.prog.inPlace 5))=true:=by kernel_rfl
theorem jf11:((Rows.courtHidesRow.unfollowed==Tryz.pinned.checked.prog.unfollowed 5))=true:=by kernel_rfl
theorem jf12:((Rows.courtHidesRow.recurses==Tryz.pinned.checked.prog.recurses 5))=true:=by kernel_rfl
end Go.Proofs.YtmobkhegihemeaaGreatDoor
