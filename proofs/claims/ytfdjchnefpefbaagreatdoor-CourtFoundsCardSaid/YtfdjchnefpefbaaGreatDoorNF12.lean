/-
  CourtFounds: for all arguments the law's function returns true, and all of them read afterwards as before; the tables that the library reads are tied to the program's text. No further condition.
-/
import Derived.Test.YtfdjchnefpefbaaGreatDoorFA47
import Derived.Test.YtfdjchnefpefbaaGreatDoorFA52
set_option linter.all false
namespace Go.Proofs.YtfdjchnefpefbaaGreatDoor
open Go Go.Dom Go.ChangeShapes Go.WideShapes Go.ChangeAt Go.RowKit
set_option maxRecDepth 100000
theorem founds_row:Rows.CourtFoundsSaid:=
 OpenClaim.holds_of_wide 3 Tryz.f3 rfl rfl rfl rfl rfl rfl rfl ⟨rfl,rfl,rfl,rfl,rfl⟩ rfl rfl rfl rfl rfl Zr Tryz.func3 Tp
  Z6 Z7
  (fun os started H enc _=>y9 os started H enc)
theorem founds_holds:Rows.CourtFoundsCardSaid:=
 Claim7.holds_tied_plain_at .later [] [.data,.data,.data] true (true, "b57db203abd6080b11f3863691c75e6d19df508da4916a0a925f2636466f5d2b") true
  founds_row (fun _ h=>by cases h) Z0 (fun _ h=>by cases h) courtFounds_row_tie rfl ⟨rfl,rfl⟩ Z1 rfl Yc Z5
#print axioms founds_holds
end Go.Proofs.YtfdjchnefpefbaaGreatDoor
