/- Part of the proof. -/
import Derived.Test.YtnhhajlcpjgkjaaGreatDoorUB50
import Derived.Test.YtnhhajlcpjgkjaaGreatDoorUB45
set_option linter.all false
set_option maxRecDepth 100000
namespace Go.Proofs.YtnhhajlcpjgkjaaGreatDoor
open Go Go.Dom Go.ChangeShapes Go.WideShapes Go.ChangeAt Go.RowKit Go.Proofs.Tryz
theorem Du:Rows.BlindissueRequestsSaid:=
 OpenClaim.holds_of_wide 3 Tryz.f3 rfl rfl rfl rfl rfl rfl rfl ⟨rfl,rfl,rfl,rfl,rfl⟩ rfl rfl rfl rfl rfl TA Tryz.func3 zB
  Yf Yg
  (fun os started H enc _=>xy os started H enc)
theorem requests_holds:Rows.BlindissueRequestsCardSaid:=
 Claim7.holds_tied_plain_at .later [] [.data, .data, .data] true (true,"77beff54d2787c8818b662481d357043d84f45d7e0e910d28b49b4fdcf74be33") true
  Du (fun _ h=>by cases h) Ya (fun _ h=>by cases h) blindissueRequests_row_tie rfl ⟨rfl,rfl⟩ Yb rfl MS Ye
#print axioms requests_holds
