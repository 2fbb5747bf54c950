/-
  CourtRestores: for all arguments the law's function returns true, and all of them read afterwards as before; the tables that the library reads are tied to the program's text. No further condition.
-/
import Derived.Test.YtmobkhegihemeaaGreatDoorKR48
import Derived.Test.YtmobkhegihemeaaGreatDoorKR53
set_option linter.all false
namespace Go.Proofs.YtmobkhegihemeaaGreatDoor
open Go Go.Dom Go.ChangeShapes Go.WideShapes Go.ChangeAt Go.RowKit
set_option maxRecDepth 100000
theorem uL:Rows.CourtRestoresSaid:=
 OpenClaim.holds_of_wide 6 Tryz.f6 rfl rfl rfl rfl rfl rfl rfl ⟨rfl,rfl,rfl,rfl,rfl⟩ rfl rfl rfl rfl rfl RA Tryz.func6 joined
  Sg Si
  (fun os started H enc _=>oI os started H enc)
theorem restores_holds:Rows.CourtRestoresCardSaid:=
 Claim7.holds_tied_plain_at .later [] [.data, .data, .data] true (true,"ec263a7426f25a38c0cc00825d344c78f5c2533f833e596e80ab7a447b9a6bf4") true
  uL (fun _ h=>by cases h) Sb (fun _ h=>by cases h) courtRestores_row_tie rfl ⟨rfl,rfl⟩ Sc rfl Qw Sf
#print axioms restores_holds
end Go.Proofs.YtmobkhegihemeaaGreatDoor
