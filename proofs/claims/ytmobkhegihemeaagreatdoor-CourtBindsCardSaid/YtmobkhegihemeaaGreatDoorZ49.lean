/-
  Part of the proof, part Z49. Own work.
-/
import Derived.Test.YtmobkhegihemeaaGreatDoorRows
import Derived.Test.YtmobkhegihemeaaGreatDoorCards
import Derived.Test.YtmobkhegihemeaaGreatDoorTie
import Derived.ProofKit
import Derived.ChangeSame
import Derived.SevenTiedAt
import Derived.JoinedOf
set_option linter.all false
namespace Go.Proofs.YtmobkhegihemeaaGreatDoor
open Go Go.RowKit
set_option maxRecDepth 100000
theorem Ti:(Rows.courtBindsRow.wf (OpenSpec.ofChange Rows.courtBindsSpec))=true:=by kernel_rfl
theorem SQ:(laidOutB Tryz.pinned.checked.prog)=true:=by kernel_rfl
theorem S4:(mapsRowed Tryz.pinned.checked.prog)=true:=by kernel_rfl
theorem SS:(Tryz.f4.params.all (Tryz.pinned.checked.prog.readableRec ·))=true:=by kernel_rfl
theorem Tu:(namedTie Tryz.pinned.checked.prog Rows.courtBindsRow.named Rows.courtBindsSpec.vars)=true:=by kernel_rfl
theorem Ts:((Rows.courtBindsRow.stops==[]))=true:=by kernel_rfl
theorem SP:((Tryz.pinned.checked.prog.stops==[]))=true:=by kernel_rfl
theorem Tt:((Rows.courtBindsRow.knobs==[]))=true:=by kernel_rfl
theorem Tp:((Tryz.pinned.checked.prog.stopKnobs==[]))=true:=by kernel_rfl
theorem R9:((Rows.courtBindsRow.inPlace==Tryz.pinned.checked.prog.inPlace 4))=true:=by kernel_rfl
theorem Q2:((Rows.courtBindsRow.unfollowed==Tryz.pinned.checked.prog.unfollowed 4))=true:=by kernel_rfl
theorem RX:((Rows.courtBindsRow.recurses==Tryz.pinned.checked.prog.recurses 4))=true:=by kernel_rfl
end Go.Proofs.YtmobkhegihemeaaGreatDoor
