/- Part of the proof. -/
import Derived.Test.YtipbhapfacgabaaGreatDoorRows
import Derived.Test.YtipbhapfacgabaaGreatDoorCards
import Derived.Test.YtipbhapfacgabaaGreatDoorTie
import Derived.ProofKit
import Derived.ChangeSame
import Derived.SevenTiedAt
import Derived.JoinedOf
set_option linter.all false
set_option maxRecDepth 100000
namespace Go.Proofs.YtipbhapfacgabaaGreatDoor
open Go Go.RowKit Go.Proofs.Tryz
theorem jf1:(Rows.blindissueHidesRow.wf (OpenSpec.ofChange Rows.blindissueHidesSpec))=true:=by kernel_rfl
theorem jf2:(laidOutB Tryz.pinned.checked.prog)=true:=by kernel_rfl
theorem jf3:(mapsRowed Tryz.pinned.checked.prog)=true:=by kernel_rfl
theorem jf4:(Tryz.f3.params.all (Tryz.pinned.checked.prog.readableRec ·))=true:=by kernel_rfl
theorem jf5:(namedTie Tryz.pinned.checked.prog Rows.blindissueHidesRow.named Rows.blindissueHidesSpec.vars)=true:=by kernel_rfl
theorem jf6:((Rows.blindissueHidesRow.stops==[]))=true:=by kernel_rfl
theorem jf7:((Tryz.pinned.checked.prog.stops==[]))=true:=by kernel_rfl
theorem jf8:((Rows.blindissueHidesRow.knobs==[]))=true:=by kernel_rfl
theorem jf9:((Tryz.pinned.checked.prog.stopKnobs==[]))=true:=by kernel_rfl
theorem Zy:((Rows.blindissueHidesRow.inPlace==Tryz.pinned.checked.prog.inPlace 3))=true:=by kernel_rfl
theorem Zz:((Rows.blindissueHidesRow.unfollowed==Tryz.pinned.checked.prog.unfollowed 3))=true:=by kernel_rfl
theorem ZA:((Rows.blindissueHidesRow.recurses==Tryz.pinned.checked.prog.recurses 3))=true:=by kernel_rfl
