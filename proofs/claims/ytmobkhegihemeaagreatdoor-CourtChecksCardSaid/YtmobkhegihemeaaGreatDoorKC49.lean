/-
  Part of the proof, part KC49. Own work.
-/
import Derived.Test.YtmobkhegihemeaaGreatDoorRows
import Derived.Test.YtmobkhegihemeaaGreatDoorCards
import Derived.Test.YtmobkhegihemeaaGreatDoorTie
import Derived.ProofKit
import Derived.ChangeSame
import Derived.SevenTiedAt
import Derived.JoinedOf
set_option linter.all false
namespace Go.Proofs.YtmobkhegihemeaaGreatDoor
open Go Go.RowKit
set_option maxRecDepth 100000
theorem Xd:(Rows.courtChecksRow.wf (OpenSpec.ofChange Rows.courtChecksSpec))=true:=by kernel_rfl
theorem Xe:(laidOutB Tryz.pinned.checked.prog)=true:=by kernel_rfl
theorem Xf:(mapsRowed Tryz.pinned.checked.prog)=true:=by kernel_rfl
theorem Xg:(Tryz.f3.params.all (Tryz.pinned.checked.prog.readableRec ·))=true:=by kernel_rfl
theorem Xh:(namedTie Tryz.pinned.checked.prog Rows.courtChecksRow.named Rows.courtChecksSpec.vars)=true:=by kernel_rfl
theorem Xi:((Rows.courtChecksRow.stops==[]))=true:=by kernel_rfl
theorem Xj:((Tryz.pinned.checked.prog.stops==[]))=true:=by kernel_rfl
theorem Xk:((Rows.courtChecksRow.knobs==[]))=true:=by kernel_rfl
theorem Xl:((Tryz.pinned.checked.prog.stopKnobs==[]))=true:=by kernel_rfl
theorem Vv:((Rows.courtChecksRow.inPlace==Tryz.pinned.checked.prog.inPlace 3))=true:=by kernel_rfl
theorem Vw:((Rows.courtChecksRow.unfollowed==Tryz.pinned.checked.prog.unfollowed 3))=true:=by kernel_rfl
theorem Vx:((Rows.courtChecksRow.recurses==Tryz.pinned.checked.prog.recurses 3))=true:=by kernel_rfl
end Go.Proofs.YtmobkhegihemeaaGreatDoor
