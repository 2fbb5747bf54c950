/-
  CourtBinds: for all arguments the law's function returns true, and all of them read afterwards as before; the tables that the library reads are tied to the program's text. No further condition.
-/
import Derived.Test.YtmobkhegihemeaaGreatDoorZ53
import Derived.Test.YtmobkhegihemeaaGreatDoorZ48
set_option linter.all false
namespace Go.Proofs.YtmobkhegihemeaaGreatDoor
open Go Go.Dom Go.ChangeShapes Go.WideShapes Go.ChangeAt Go.RowKit
set_option maxRecDepth 100000
theorem Cw:Rows.CourtBindsSaid:=
 OpenClaim.holds_of_wide 4 Tryz.f4 rfl rfl rfl rfl rfl rfl rfl ⟨rfl,rfl,rfl,rfl,rfl⟩ rfl rfl rfl rfl rfl SI Tryz.func4 joined
  Te SZ
  (fun os started H enc _=>vE os started H enc)
theorem binds_holds:Rows.CourtBindsCardSaid:=
 Claim7.holds_tied_plain_at .later [] [.data, .data, .data] true (true,"ec263a7426f25a38c0cc00825d344c78f5c2533f833e596e80ab7a447b9a6bf4") true
  Cw (fun _ h=>by cases h) Tj (fun _ h=>by cases h) courtBinds_row_tie rfl ⟨rfl,rfl⟩ S8 rfl Rn Tm
#print axioms binds_holds
end Go.Proofs.YtmobkhegihemeaaGreatDoor
