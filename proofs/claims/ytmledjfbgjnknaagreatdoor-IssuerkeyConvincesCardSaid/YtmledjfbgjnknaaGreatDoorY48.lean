/-
  Part of the proof, part Y48. Own work.
-/
import Derived.Test.YtmledjfbgjnknaaGreatDoorRows
import Derived.Test.YtmledjfbgjnknaaGreatDoorCards
import Derived.Test.YtmledjfbgjnknaaGreatDoorTie
import Derived.ProofKit
import Derived.ChangeSame
import Derived.SevenTiedAt
import Derived.JoinedOf
set_option linter.all false
namespace Go.Proofs.YtmledjfbgjnknaaGreatDoor
open Go Go.RowKit
set_option maxRecDepth 100000
theorem jf1:(Rows.issuerkeyConvincesRow.wf (OpenSpec.ofChange Rows.issuerkeyConvincesSpec))=true:=by kernel_rfl
theorem jf2:(laidOutB Tryz.pinned.checked.prog)=true:=by kernel_rfl
theorem jf3:(mapsRowed Tryz.pinned.checked.prog)=true:=by kernel_rfl
theorem jf4:(Tryz.f4.params.all (Tryz.pinned.checked.prog.readableRec ·))=true:=by kernel_rfl
theorem jf5:(namedTie Tryz.pinned.checked.prog Rows.issuerkeyConvincesRow.named Rows.issuerkeyConvincesSpec.vars)=true:=by kernel_rfl
theorem jf6:((Rows.issuerkeyConvincesRow.stops==[]))=true:=by kernel_rfl
theorem jf7:((Tryz.pinned.checked.prog.stops==[]))=true:=by kernel_rfl
theorem jf8:((Rows.issuerkeyConvincesRow.knobs==[]))=true:=by kernel_rfl
theorem jf9:((Tryz.pinned.checked.prog.stopKnobs==[]))=true:=by kernel_rfl
theorem jf10:((Rows.issuerkeyConvincesRow.inPlace==Tryz.pinned.checked.prog.inPlace 4))=true:=by kernel_rfl
theorem jf11:((Rows.issuerkeyConvincesRow.unfollowed==Tryz.pinned.checked.prog.unfollowed 4))=true:=by kernel_rfl
theorem jf12:((Rows.issuerkeyConvincesRow.recurses==Tryz.pinned.checked.prog.recurses 4))=true:=by kernel_rfl
end Go.Proofs.YtmledjfbgjnknaaGreatDoor
