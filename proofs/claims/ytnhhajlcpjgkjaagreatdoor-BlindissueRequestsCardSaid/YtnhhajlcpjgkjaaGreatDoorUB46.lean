/- Part of the proof. -/
import Derived.Test.YtnhhajlcpjgkjaaGreatDoorRows
import Derived.Test.YtnhhajlcpjgkjaaGreatDoorCards
import Derived.Test.YtnhhajlcpjgkjaaGreatDoorTie
import Derived.ProofKit
import Derived.ChangeSame
import Derived.SevenTiedAt
import Derived.JoinedOf
set_option linter.all false
set_option maxRecDepth 100000
namespace Go.Proofs.YtnhhajlcpjgkjaaGreatDoor
open Go Go.RowKit Go.Proofs.Tryz
theorem Yy:(Rows.blindissueRequestsRow.wf (OpenSpec.ofChange Rows.blindissueRequestsSpec))=true:=by kernel_rfl
theorem Yz:(laidOutB Tryz.pinned.checked.prog)=true:=by kernel_rfl
theorem YA:(mapsRowed Tryz.pinned.checked.prog)=true:=by kernel_rfl
theorem YB:(Tryz.f3.params.all (Tryz.pinned.checked.prog.readableRec ·))=true:=by kernel_rfl
theorem YC:(namedTie Tryz.pinned.checked.prog Rows.blindissueRequestsRow.named Rows.blindissueRequestsSpec.vars)=true:=by kernel_rfl
theorem YD:((Rows.blindissueRequestsRow.stops==[]))=true:=by kernel_rfl
theorem YE:((Tryz.pinned.checked.prog.stops==[]))=true:=by kernel_rfl
theorem YF:((Rows.blindissueRequestsRow.knobs==[]))=true:=by kernel_rfl
theorem YG:((Tryz.pinned.checked.prog.stopKnobs==[]))=true:=by kernel_rfl
theorem NM:((Rows.blindissueRequestsRow.inPlace==Tryz.pinned.checked.prog.inPlace 3))=true:=by kernel_rfl
theorem NN:((Rows.blindissueRequestsRow.unfollowed==Tryz.pinned.checked.prog.unfollowed 3))=true:=by kernel_rfl
theorem NO:((Rows.blindissueRequestsRow.recurses==Tryz.pinned.checked.prog.recurses 3))=true:=by kernel_rfl
