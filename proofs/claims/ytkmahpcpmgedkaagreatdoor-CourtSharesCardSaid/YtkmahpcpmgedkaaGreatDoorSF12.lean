/-
  CourtShares: for all arguments the law's function returns true, and all of them read afterwards as before; the tables that the library reads are tied to the program's text. No further condition.
-/
import Derived.Test.YtkmahpcpmgedkaaGreatDoorFB47
import Derived.Test.YtkmahpcpmgedkaaGreatDoorFB52
set_option linter.all false
set_option maxRecDepth 100000
namespace Go.Proofs.YtkmahpcpmgedkaaGreatDoor
open Go Go.Dom Go.ChangeShapes Go.WideShapes Go.ChangeAt Go.RowKit Go.Proofs.Tryz
theorem HE:Rows.CourtSharesSaid:=
 OpenClaim.holds_of_wide 3 Tryz.f3 rfl rfl rfl rfl rfl rfl rfl ⟨rfl,rfl,rfl,rfl,rfl⟩ rfl rfl rfl rfl rfl cf1 Tryz.func3 U3
  cf7 cf8
  (fun os started H enc _=>Bt os started H enc)
theorem shares_holds:Rows.CourtSharesCardSaid:=
 Claim7.holds_tied_plain_at .later [] [.data, .data, .data] true (true,"748a24b6ebef30b6caefd9cb63a9fbfc8ad91bbce3cb4df07f53d3c8ebbbc142") true
  HE (fun _ h=>by cases h) cf2 (fun _ h=>by cases h) courtShares_row_tie rfl ⟨rfl,rfl⟩ cf3 rfl ZI cf6
#print axioms shares_holds
end Go.Proofs.YtkmahpcpmgedkaaGreatDoor
