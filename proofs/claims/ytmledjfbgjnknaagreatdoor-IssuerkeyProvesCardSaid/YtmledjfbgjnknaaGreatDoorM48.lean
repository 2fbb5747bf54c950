/-
  Part of the proof, part 48. Own work.
-/
import Derived.Test.YtmledjfbgjnknaaGreatDoorRows
import Derived.Test.YtmledjfbgjnknaaGreatDoorCards
import Derived.Test.YtmledjfbgjnknaaGreatDoorTie
import Derived.ProofKit
import Derived.ChangeSame
import Derived.SevenTiedAt
import Derived.JoinedOf
set_option linter.all false
namespace Go.Proofs.YtmledjfbgjnknaaGreatDoor
open Go Go.RowKit
set_option maxRecDepth 100000
theorem jf1:(Rows.issuerkeyProvesRow.wf (OpenSpec.ofChange Rows.issuerkeyProvesSpec))=true:=by kernel_rfl
theorem jf2:(laidOutB Tryz.pinned.checked.prog)=true:=by kernel_rfl
theorem jf3:(mapsRowed Tryz.pinned.checked.prog)=true:=by kernel_rfl
theorem jf4:(Tryz.f3.params.all (Tryz.pinned.checked.prog.readableRec ·))=true:=by kernel_rfl
theorem jf5:(namedTie Tryz.pinned.checked.prog Rows.issuerkeyProvesRow.named Rows.issuerkeyProvesSpec.vars)=true:=by kernel_rfl
theorem jf6:((Rows.issuerkeyProvesRow.stops==[]))=true:=by kernel_rfl
theorem jf7:((Tryz.pinned.checked.prog.stops==[]))=true:=by kernel_rfl
theorem jf8:((Rows.issuerkeyProvesRow.knobs==[]))=true:=by kernel_rfl
theorem jf9:((Tryz.pinned.checked.prog.stopKnobs==[]))=true:=by kernel_rfl
theorem jf10:((Rows.issuerkeyProvesRow.inPlace==Tryz.pinned.checked.prog.inPlace 3))=true:=by kernel_rfl
theorem jf11:((Rows.issuerkeyProvesRow.unfollowed==Tryz.pinned.checked.prog.unfollowed 3))=true:=by kernel_rfl
theorem jf12:((Rows.issuerkeyProvesRow.recurses==Tryz.pinned.checked.prog.recurses 3))=true:=by kernel_rfl
end Go.Proofs.YtmledjfbgjnknaaGreatDoor
