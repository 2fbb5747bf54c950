/-
  IssuerkeyProves: for all parameters, keys and proofs the law's function returns true, and all of them read afterwards as before; the tables that the library reads are tied to the program's text. No further condition.
-/
import Derived.Test.YtmledjfbgjnknaaGreatDoorM52
import Derived.Test.YtmledjfbgjnknaaGreatDoorM47
set_option linter.all false
namespace Go.Proofs.YtmledjfbgjnknaaGreatDoor
open Go Go.Dom Go.ChangeShapes Go.WideShapes Go.ChangeAt Go.RowKit
set_option maxRecDepth 100000
theorem proves_row:Rows.IssuerkeyProvesSaid:=
 OpenClaim.holds_of_wide 3 Tryz.f3 rfl rfl rfl rfl rfl rfl rfl ⟨rfl,rfl,rfl,rfl,rfl⟩ rfl rfl rfl rfl rfl cf1 Tryz.func3 joined
  cf7 cf8
  (fun os started H enc _=>proves_lifted os started H enc)
theorem proves_holds:Rows.IssuerkeyProvesCardSaid:=
 Claim7.holds_tied_plain_at .later [] [.data, .data, .data] true (true,"d69b44d82594d8f93a936877d3e476187970d8c447ecc0949189965bfcfb4864") true
  proves_row (fun _ h=>by cases h) cf2 (fun _ h=>by cases h) issuerkeyProves_row_tie rfl ⟨rfl,rfl⟩ cf3 rfl cf10 cf6
#print axioms proves_holds
end Go.Proofs.YtmledjfbgjnknaaGreatDoor
