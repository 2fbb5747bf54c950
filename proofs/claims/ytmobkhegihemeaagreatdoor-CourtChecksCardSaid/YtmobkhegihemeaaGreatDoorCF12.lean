/-
  CourtChecks: for all arguments the law's function returns true, and all of them read afterwards as before; the tables that the library reads are tied to the program's text. No further condition.
-/
import Derived.Test.YtmobkhegihemeaaGreatDoorKC53
import Derived.Test.YtmobkhegihemeaaGreatDoorKC48
set_option linter.all false
namespace Go.Proofs.YtmobkhegihemeaaGreatDoor
open Go Go.Dom Go.ChangeShapes Go.WideShapes Go.ChangeAt Go.RowKit
set_option maxRecDepth 100000
theorem Dv:Rows.CourtChecksSaid:=
 OpenClaim.holds_of_wide 3 Tryz.f3 rfl rfl rfl rfl rfl rfl rfl ⟨rfl,rfl,rfl,rfl,rfl⟩ rfl rfl rfl rfl rfl Wj Tryz.func3 joined
  WX WY
  (fun os started H enc _=>xP os started H enc)
theorem checks_holds:Rows.CourtChecksCardSaid:=
 Claim7.holds_tied_plain_at .later [] [.data, .data, .data] true (true,"ec263a7426f25a38c0cc00825d344c78f5c2533f833e596e80ab7a447b9a6bf4") true
  Dv (fun _ h=>by cases h) WR (fun _ h=>by cases h) courtChecks_row_tie rfl ⟨rfl,rfl⟩ WT rfl Vn WW
#print axioms checks_holds
end Go.Proofs.YtmobkhegihemeaaGreatDoor
