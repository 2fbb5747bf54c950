/- Part of the proof. -/
import Derived.Test.YtkmahpcpmgedkaaGreatDoorRows
import Derived.Test.YtkmahpcpmgedkaaGreatDoorCards
import Derived.Test.YtkmahpcpmgedkaaGreatDoorTie
import Derived.ProofKit
import Derived.ChangeSame
import Derived.SevenTiedAt
import Derived.JoinedOf
set_option linter.all false
set_option maxRecDepth 100000
namespace Go.Proofs.YtkmahpcpmgedkaaGreatDoor
open Go Go.RowKit Tryz
theorem jf1:(Rows.courtSharesRow.wf (OpenSpec.ofChange Rows.courtSharesSpec))=true:=by kernel_rfl
theorem jf2:(laidOutB Tryz.pinned.checked.prog)=true:=by kernel_rfl
theorem jf3:(mapsRowed Tryz.pinned.checked.prog)=true:=by kernel_rfl
theorem jf4:(Tryz.f3.params.all (Tryz.pinned.checked.prog.readableRec ·))=true:=by kernel_rfl
theorem jf5:(namedTie Tryz.pinned.checked.prog Rows.courtSharesRow.named Rows.courtSharesSpec.vars)=true:=by kernel_rfl
theorem jf6:((Rows.courtSharesRow.stops==[]))=true:=by kernel_rfl
theorem jf7:((Tryz.pinned.checked.prog.stops==[]))=true:=by kernel_rfl
theorem jf8:((Rows.courtSharesRow.knobs==[]))=true:=by kernel_rfl
theorem jf9:((Tryz.pinned.checked.prog.stopKnobs==[]))=true:=by kernel_rfl
theorem ZP:((Rows.courtSharesRow.inPlace==Tryz.pinned.checked.prog.inPlace 3))=true:=by kernel_rfl
theorem ZQ:((Rows.courtSharesRow.unfollowed==Tryz.pinned.checked.prog.unfollowed 3))=true:=by kernel_rfl
theorem ZR:((Rows.courtSharesRow.recurses==Tryz.pinned.checked.prog.recurses 3))=true:=by kernel_rfl
