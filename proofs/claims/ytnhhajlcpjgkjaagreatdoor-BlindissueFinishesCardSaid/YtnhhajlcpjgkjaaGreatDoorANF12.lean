/- Part of the proof. -/
import Derived.Test.YtnhhajlcpjgkjaaGreatDoorUC53
import Derived.Test.YtnhhajlcpjgkjaaGreatDoorUC58
set_option linter.all false
set_option maxRecDepth 100000
namespace Go.Proofs.YtnhhajlcpjgkjaaGreatDoor
open Go Go.Dom Go.ChangeShapes Go.WideShapes Go.ChangeAt Go.RowKit Go.Proofs.Tryz
theorem BG:Rows.BlindissueFinishesSaid:=
 OpenClaim.holds_of_wide 4 Tryz.f4 rfl rfl rfl rfl rfl rfl rfl ⟨rfl,rfl,rfl,rfl,rfl⟩ rfl rfl rfl rfl rfl WQ Tryz.func4 FZ
  Zj Zk
  (fun os started H enc _=>vD os started H enc)
theorem finishes_holds:Rows.BlindissueFinishesCardSaid:=
 Claim7.holds_tied_plain_at .later [] [.data, .data, .data] true (true,"77beff54d2787c8818b662481d357043d84f45d7e0e910d28b49b4fdcf74be33") true
  BG (fun _ h=>by cases h) Ze (fun _ h=>by cases h) blindissueFinishes_row_tie rfl ⟨rfl,rfl⟩ Zf rfl TA Zi
#print axioms finishes_holds
