/-
  BlindissueHides: for all arguments the law's function returns true, and all of them read afterwards as before; the tables that the library reads are tied to the program's text. No further condition.
-/
import Derived.Test.YtipbhapfacgabaaGreatDoorUH47
import Derived.Test.YtipbhapfacgabaaGreatDoorUH52
set_option linter.all false
set_option maxRecDepth 100000
namespace Go.Proofs.YtipbhapfacgabaaGreatDoor
open Go Go.Dom Go.ChangeShapes Go.WideShapes Go.ChangeAt Go.RowKit Go.Proofs.Tryz
theorem Ka:Rows.BlindissueHidesSaid:=
 OpenClaim.holds_of_wide 3 Tryz.f3 rfl rfl rfl rfl rfl rfl rfl ⟨rfl,rfl,rfl,rfl,rfl⟩ rfl rfl rfl rfl rfl cf1 Tryz.func3 joined
  cf7 cf8
  (fun os started H enc _=>Cf os started H enc)
theorem hides_holds:Rows.BlindissueHidesCardSaid:=
 Claim7.holds_tied_plain_at .later [] [.data, .data, .data] true (true,"7e5ed791ae10874a99752aac1b861a210bd0f7778125de0ddc314c200d1dbf9d") true
  Ka (fun _ h=>by cases h) cf2 (fun _ h=>by cases h) blindissueHides_row_tie rfl ⟨rfl,rfl⟩ cf3 rfl Zq cf6
#print axioms hides_holds
end Go.Proofs.YtipbhapfacgabaaGreatDoor
