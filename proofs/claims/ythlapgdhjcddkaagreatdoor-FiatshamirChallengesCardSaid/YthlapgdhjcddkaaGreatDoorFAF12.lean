/- Part of the proof. -/
import Derived.Test.YthlapgdhjcddkaaGreatDoorUF45
import Derived.Test.YthlapgdhjcddkaaGreatDoorUF50
set_option linter.all false
set_option maxRecDepth 100000
namespace Go.Proofs.YthlapgdhjcddkaaGreatDoor
open Go Go.Dom Go.ChangeShapes Go.WideShapes Go.ChangeAt Go.RowKit Go.Proofs.Tryz
theorem zP:Rows.FiatshamirChallengesSaid:=
 OpenClaim.holds_of_wide 3 Tryz.f3 rfl rfl rfl rfl rfl rfl rfl ⟨rfl,rfl,rfl,rfl,rfl⟩ rfl rfl rfl rfl rfl UL Tryz.func3 Ap
  ZI ZJ
  (fun os started H enc _=>um os started H enc)
theorem challenges_holds:Rows.FiatshamirChallengesCardSaid:=
 Claim7.holds_tied_plain_at .later [] [.data, .data, .data] true (true,"7fb35bf65a42bc11d058d17a4437978064d8d44886223f6f65b9e740a0a8e80a") true
  zP (fun _ h=>by cases h) ZD (fun _ h=>by cases h) fiatshamirChallenges_row_tie rfl ⟨rfl,rfl⟩ ZE rfl Nc ZH
#print axioms challenges_holds
