/-
  Part of the proof, part Y49. Own work.
-/
import Derived.Test.YtmledjfbgjnknaaGreatDoorRows
import Derived.Test.YtmledjfbgjnknaaGreatDoorCards
import Derived.Test.YtmledjfbgjnknaaGreatDoorTie
import Derived.ProofKit
import Derived.ChangeSame
import Derived.SevenTiedAt
import Derived.JoinedOf
set_option linter.all false
namespace Go.Proofs.YtmledjfbgjnknaaGreatDoor
open Go Go.RowKit
set_option maxRecDepth 100000
theorem jf13:((Rows.issuerkeyConvincesRow.named==Tryz.pinned.checked.prog.varsNamed 4))=true:=by kernel_rfl
theorem jf14:((Rows.issuerkeyConvincesRow.maps==(Tryz.f4.params.toList++Rows.issuerkeyConvincesSpec.plain.varTypes Tryz.pinned.checked.prog).any (Tryz.pinned.checked.prog.mapsRec ·)))=true:=by kernel_rfl
theorem jf15:((Rows.issuerkeyConvincesRow.ifaces==(Tryz.f4.params.toList++Rows.issuerkeyConvincesSpec.plain.varTypes Tryz.pinned.checked.prog).any (Tryz.pinned.checked.prog.ifacesRec ·)))=true:=by kernel_rfl
theorem jf16:((Rows.issuerkeyConvincesRow.mapsOut==Tryz.pinned.checked.prog.mapsAmong Tryz.f4.resultTypes.toList))=true:=by kernel_rfl
theorem jf17:((Rows.issuerkeyConvincesRow.loops==(Tryz.f4.params.toList++Rows.issuerkeyConvincesSpec.plain.varTypes Tryz.pinned.checked.prog).any (Tryz.pinned.checked.prog.loopsFrom ·)))=true:=by kernel_rfl
theorem jf18:((Rows.issuerkeyConvincesRow.wideKeys==(Tryz.f4.params.toList++Rows.issuerkeyConvincesSpec.plain.varTypes Tryz.pinned.checked.prog++Tryz.f4.resultTypes.toList).any (Tryz.pinned.checked.prog.wideKeysFrom ·)))=true:=by kernel_rfl
theorem jf19:(Rows.issuerkeyConvincesSpec.vars.all (Tryz.pinned.checked.prog.varReadable ·))=true:=by kernel_rfl
end Go.Proofs.YtmledjfbgjnknaaGreatDoor
