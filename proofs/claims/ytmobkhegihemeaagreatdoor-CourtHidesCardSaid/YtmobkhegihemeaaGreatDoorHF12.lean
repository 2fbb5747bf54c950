/-
  CourtHides: for all arguments (a founding, the secret, the trustee) the law's function returns true, and all of them read afterwards as before; the tables that the library reads are tied to the program's text. No further condition.
-/
import Derived.Test.YtmobkhegihemeaaGreatDoorM52
import Derived.Test.YtmobkhegihemeaaGreatDoorM47
set_option linter.all false
namespace Go.Proofs.YtmobkhegihemeaaGreatDoor
open Go Go.Dom Go.ChangeShapes Go.WideShapes Go.ChangeAt Go.RowKit
set_option maxRecDepth 100000
theorem hides_row:Rows.CourtHidesSaid:=
 OpenClaim.holds_of_wide 5 Tryz.f5 rfl rfl rfl rfl rfl rfl rfl ⟨rfl,rfl,rfl,rfl,rfl⟩ rfl rfl rfl rfl rfl cf1 Tryz.func5 joined
  cf7 cf8
  (fun os started H enc _=>hides_lifted os started H enc)
theorem hides_holds:Rows.CourtHidesCardSaid:=
 Claim7.holds_tied_plain_at .later [] [.data, .data, .data] true (true,"ec263a7426f25a38c0cc00825d344c78f5c2533f833e596e80ab7a447b9a6bf4") true
  hides_row (fun _ h=>by cases h) cf2 (fun _ h=>by cases h) courtHides_row_tie rfl ⟨rfl,rfl⟩ cf3 rfl cf10 cf6
#print axioms hides_holds
end Go.Proofs.YtmobkhegihemeaaGreatDoor
