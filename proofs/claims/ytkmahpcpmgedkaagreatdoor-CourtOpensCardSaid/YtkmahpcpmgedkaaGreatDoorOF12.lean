/-
  CourtOpens: for all arguments the law's function returns true, and all of them read afterwards as before; the tables that the library reads are tied to the program's text. No further condition.
-/
import Derived.Test.YtkmahpcpmgedkaaGreatDoorFC52
import Derived.Test.YtkmahpcpmgedkaaGreatDoorFC47
set_option linter.all false
set_option maxRecDepth 100000
namespace Go.Proofs.YtkmahpcpmgedkaaGreatDoor
open Go Go.Dom Go.ChangeShapes Go.WideShapes Go.ChangeAt Go.RowKit Go.Proofs.Tryz
theorem Kp:Rows.CourtOpensSaid:=
 OpenClaim.holds_of_wide 4 Tryz.f4 rfl rfl rfl rfl rfl rfl rfl ⟨rfl,rfl,rfl,rfl,rfl⟩ rfl rfl rfl rfl rfl cf1 Tryz.func4 UT
  cf7 cf8
  (fun os started H enc _=>CT os started H enc)
theorem opens_holds:Rows.CourtOpensCardSaid:=
 Claim7.holds_tied_plain_at .later [] [.data, .data, .data] true (true,"748a24b6ebef30b6caefd9cb63a9fbfc8ad91bbce3cb4df07f53d3c8ebbbc142") true
  Kp (fun _ h=>by cases h) cf2 (fun _ h=>by cases h) courtOpens_row_tie rfl ⟨rfl,rfl⟩ cf3 rfl ZG cf6
#print axioms opens_holds
end Go.Proofs.YtkmahpcpmgedkaaGreatDoor
