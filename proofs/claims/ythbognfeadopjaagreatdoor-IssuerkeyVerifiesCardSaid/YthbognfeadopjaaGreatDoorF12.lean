/-
  IssuerkeyVerifies: for all parameters, keys and proofs the law's function returns true, and all of them read afterwards as before; the tables that the library reads are tied to the program's text. No further condition.
-/
import Derived.Test.YthbognfeadopjaaGreatDoorM52
import Derived.Test.YthbognfeadopjaaGreatDoorM47
set_option linter.all false
namespace Go.Proofs.YthbognfeadopjaaGreatDoor
open Go Go.Dom Go.ChangeShapes Go.WideShapes Go.ChangeAt Go.RowKit
set_option maxRecDepth 100000
theorem verifies_row : Rows.IssuerkeyVerifiesSaid :=
 OpenClaim.holds_of_wide 3 Tryz.f3 rfl rfl rfl rfl rfl rfl rfl ⟨rfl, rfl, rfl, rfl, rfl⟩ rfl rfl rfl rfl rfl cf1 Tryz.func3 joined
  cf7 cf8
  (fun os started H enc _ => verifies_lifted os started H enc)
theorem verifies_holds : Rows.IssuerkeyVerifiesCardSaid :=
 Claim7.holds_tied_plain_at .later [] [.data, .data, .data] true (true, "650e55ec86f05ecb0bab772cdeccac48c8a872fb38669bbcb15539b24d11fbf1") false
  verifies_row (fun _ h => by cases h) cf2 (fun _ h => by cases h) issuerkeyVerifies_row_tie rfl ⟨rfl, rfl⟩ cf3 rfl cf10 cf6
#print axioms verifies_holds
end Go.Proofs.YthbognfeadopjaaGreatDoor
