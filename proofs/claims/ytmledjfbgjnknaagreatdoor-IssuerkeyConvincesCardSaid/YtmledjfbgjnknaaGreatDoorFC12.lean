/-
  IssuerkeyConvinces: for all parameters, keys and proofs the law's function returns true, and all of them read afterwards as before; the tables that the library reads are tied to the program's text. No further condition.
-/
import Derived.Test.YtmledjfbgjnknaaGreatDoorY52
import Derived.Test.YtmledjfbgjnknaaGreatDoorY47
set_option linter.all false
namespace Go.Proofs.YtmledjfbgjnknaaGreatDoor
open Go Go.Dom Go.ChangeShapes Go.WideShapes Go.ChangeAt Go.RowKit
set_option maxRecDepth 100000
theorem convinces_row:Rows.IssuerkeyConvincesSaid:=
 OpenClaim.holds_of_wide 4 Tryz.f4 rfl rfl rfl rfl rfl rfl rfl ⟨rfl,rfl,rfl,rfl,rfl⟩ rfl rfl rfl rfl rfl cf1 Tryz.func4 joined
  cf7 cf8
  (fun os started H enc _=>convinces_lifted os started H enc)
theorem convinces_holds:Rows.IssuerkeyConvincesCardSaid:=
 Claim7.holds_tied_plain_at .later [] [.data, .data, .data] true (true,"d69b44d82594d8f93a936877d3e476187970d8c447ecc0949189965bfcfb4864") true
  convinces_row (fun _ h=>by cases h) cf2 (fun _ h=>by cases h) issuerkeyConvinces_row_tie rfl ⟨rfl,rfl⟩ cf3 rfl cf10 cf6
#print axioms convinces_holds
end Go.Proofs.YtmledjfbgjnknaaGreatDoor
