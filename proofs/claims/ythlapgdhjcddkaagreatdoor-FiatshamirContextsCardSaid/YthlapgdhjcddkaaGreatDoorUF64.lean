/- Part of the proof. -/
import Derived.Test.YthlapgdhjcddkaaGreatDoorRows
import Derived.Test.YthlapgdhjcddkaaGreatDoorCards
import Derived.Test.YthlapgdhjcddkaaGreatDoorTie
import Derived.ProofKit
import Derived.ChangeSame
import Derived.SevenTiedAt
import Derived.JoinedOf
set_option linter.all false
set_option maxRecDepth 100000
namespace Go.Proofs.YthlapgdhjcddkaaGreatDoor
open Go Go.RowKit Go.Proofs.Tryz
theorem Z3:(Rows.fiatshamirContextsRow.wf (OpenSpec.ofChange Rows.fiatshamirContextsSpec))=true:=by kernel_rfl
theorem Z4:(laidOutB Tryz.pinned.checked.prog)=true:=by kernel_rfl
theorem Z5:(mapsRowed Tryz.pinned.checked.prog)=true:=by kernel_rfl
theorem Z6:(Tryz.f4.params.all (Tryz.pinned.checked.prog.readableRec ·))=true:=by kernel_rfl
theorem Z7:(namedTie Tryz.pinned.checked.prog Rows.fiatshamirContextsRow.named Rows.fiatshamirContextsSpec.vars)=true:=by kernel_rfl
theorem Z8:((Rows.fiatshamirContextsRow.stops==[]))=true:=by kernel_rfl
theorem Z9:((Tryz.pinned.checked.prog.stops==[]))=true:=by kernel_rfl
theorem jf8:((Rows.fiatshamirContextsRow.knobs==[]))=true:=by kernel_rfl
theorem jf9:((Tryz.pinned.checked.prog.stopKnobs==[]))=true:=by kernel_rfl
theorem Oa:((Rows.fiatshamirContextsRow.inPlace==Tryz.pinned.checked.prog.inPlace 4))=true:=by kernel_rfl
theorem Ob:((Rows.fiatshamirContextsRow.unfollowed==Tryz.pinned.checked.prog.unfollowed 4))=true:=by kernel_rfl
theorem Oc:((Rows.fiatshamirContextsRow.recurses==Tryz.pinned.checked.prog.recurses 4))=true:=by kernel_rfl
