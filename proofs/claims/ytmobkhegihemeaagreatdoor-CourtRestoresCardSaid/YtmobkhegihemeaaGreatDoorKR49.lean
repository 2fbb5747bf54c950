/-
  Part of the proof, part KR49. Own work.
-/
import Derived.Test.YtmobkhegihemeaaGreatDoorRows
import Derived.Test.YtmobkhegihemeaaGreatDoorCards
import Derived.Test.YtmobkhegihemeaaGreatDoorTie
import Derived.ProofKit
import Derived.ChangeSame
import Derived.SevenTiedAt
import Derived.JoinedOf
set_option linter.all false
namespace Go.Proofs.YtmobkhegihemeaaGreatDoor
open Go Go.RowKit
set_option maxRecDepth 100000
theorem Sr:(Rows.courtRestoresRow.wf (OpenSpec.ofChange Rows.courtRestoresSpec))=true:=by kernel_rfl
theorem Ss:(laidOutB Tryz.pinned.checked.prog)=true:=by kernel_rfl
theorem St:(mapsRowed Tryz.pinned.checked.prog)=true:=by kernel_rfl
theorem Su:(Tryz.f6.params.all (Tryz.pinned.checked.prog.readableRec ·))=true:=by kernel_rfl
theorem Sv:(namedTie Tryz.pinned.checked.prog Rows.courtRestoresRow.named Rows.courtRestoresSpec.vars)=true:=by kernel_rfl
theorem Sw:((Rows.courtRestoresRow.stops==[]))=true:=by kernel_rfl
theorem Sx:((Tryz.pinned.checked.prog.stops==[]))=true:=by kernel_rfl
theorem Sy:((Rows.courtRestoresRow.knobs==[]))=true:=by kernel_rfl
theorem Sz:((Tryz.pinned.checked.prog.stopKnobs==[]))=true:=by kernel_rfl
theorem QD:((Rows.courtRestoresRow.inPlace==Tryz.pinned.checked.prog.inPlace 6))=true:=by kernel_rfl
theorem QE:((Rows.courtRestoresRow.unfollowed==Tryz.pinned.checked.prog.unfollowed 6))=true:=by kernel_rfl
theorem QF:((Rows.courtRestoresRow.recurses==Tryz.pinned.checked.prog.recurses 6))=true:=by kernel_rfl
end Go.Proofs.YtmobkhegihemeaaGreatDoor
