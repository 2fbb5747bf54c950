/- Part of the proof. -/
import Derived.Test.YthlapgdhjcddkaaGreatDoorRows
import Derived.Test.YthlapgdhjcddkaaGreatDoorCards
import Derived.Test.YthlapgdhjcddkaaGreatDoorTie
import Derived.ProofKit
import Derived.ChangeSame
import Derived.SevenTiedAt
import Derived.JoinedOf
set_option linter.all false
set_option maxRecDepth 100000
namespace Go.Proofs.YthlapgdhjcddkaaGreatDoor
open Go Go.RowKit Go.Proofs.Tryz
theorem Z3:(Rows.fiatshamirOpensRow.wf (OpenSpec.ofChange Rows.fiatshamirOpensSpec))=true:=by kernel_rfl
theorem Z4:(laidOutB Tryz.pinned.checked.prog)=true:=by kernel_rfl
theorem Z5:(mapsRowed Tryz.pinned.checked.prog)=true:=by kernel_rfl
theorem Z6:(Tryz.f5.params.all (Tryz.pinned.checked.prog.readableRec ·))=true:=by kernel_rfl
theorem Z7:(namedTie Tryz.pinned.checked.prog Rows.fiatshamirOpensRow.named Rows.fiatshamirOpensSpec.vars)=true:=by kernel_rfl
theorem Z8:((Rows.fiatshamirOpensRow.stops==[]))=true:=by kernel_rfl
theorem Z9:((Tryz.pinned.checked.prog.stops==[]))=true:=by kernel_rfl
theorem jf8:((Rows.fiatshamirOpensRow.knobs==[]))=true:=by kernel_rfl
theorem jf9:((Tryz.pinned.checked.prog.stopKnobs==[]))=true:=by kernel_rfl
theorem Oa:((Rows.fiatshamirOpensRow.inPlace==Tryz.pinned.checked.prog.inPlace 5))=true:=by kernel_rfl
theorem Ob:((Rows.fiatshamirOpensRow.unfollowed==Tryz.pinned.checked.prog.unfollowed 5))=true:=by kernel_rfl
theorem Oc:((Rows.fiatshamirOpensRow.recurses==Tryz.pinned.checked.prog.recurses 5))=true:=by kernel_rfl
