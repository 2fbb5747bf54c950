/- Part of the proof. -/
import Derived.Test.YtnhhajlcpjgkjaaGreatDoorRows
import Derived.Test.YtnhhajlcpjgkjaaGreatDoorCards
import Derived.Test.YtnhhajlcpjgkjaaGreatDoorTie
import Derived.ProofKit
import Derived.ChangeSame
import Derived.SevenTiedAt
import Derived.JoinedOf
set_option linter.all false
set_option maxRecDepth 100000
namespace Go.Proofs.YtnhhajlcpjgkjaaGreatDoor
open Go Go.RowKit Go.Proofs.Tryz
theorem Zu:(Rows.blindissueFinishesRow.wf (OpenSpec.ofChange Rows.blindissueFinishesSpec))=true:=by kernel_rfl
theorem Zv:(laidOutB Tryz.pinned.checked.prog)=true:=by kernel_rfl
theorem Zw:(mapsRowed Tryz.pinned.checked.prog)=true:=by kernel_rfl
theorem Zx:(Tryz.f4.params.all (Tryz.pinned.checked.prog.readableRec ·))=true:=by kernel_rfl
theorem Zy:(namedTie Tryz.pinned.checked.prog Rows.blindissueFinishesRow.named Rows.blindissueFinishesSpec.vars)=true:=by kernel_rfl
theorem Zz:((Rows.blindissueFinishesRow.stops==[]))=true:=by kernel_rfl
theorem ZA:((Tryz.pinned.checked.prog.stops==[]))=true:=by kernel_rfl
theorem ZB:((Rows.blindissueFinishesRow.knobs==[]))=true:=by kernel_rfl
theorem ZC:((Tryz.pinned.checked.prog.stopKnobs==[]))=true:=by kernel_rfl
theorem TZ:((Rows.blindissueFinishesRow.inPlace==Tryz.pinned.checked.prog.inPlace 4))=true:=by kernel_rfl
theorem T0:((Rows.blindissueFinishesRow.unfollowed==Tryz.pinned.checked.prog.unfollowed 4))=true:=by kernel_rfl
theorem T1:((Rows.blindissueFinishesRow.recurses==Tryz.pinned.checked.prog.recurses 4))=true:=by kernel_rfl
