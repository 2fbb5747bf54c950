/- Part of the proof. -/
import Derived.Test.YthlapgdhjcddkaaGreatDoorUF55
import Derived.Test.YthlapgdhjcddkaaGreatDoorUF60
set_option linter.all false
set_option maxRecDepth 100000
namespace Go.Proofs.YthlapgdhjcddkaaGreatDoor
open Go Go.Dom Go.ChangeShapes Go.WideShapes Go.ChangeAt Go.RowKit Go.Proofs.Tryz
theorem Lg:Rows.FiatshamirOpensSaid:=
 OpenClaim.holds_of_wide 5 Tryz.f5 rfl rfl rfl rfl rfl rfl rfl ⟨rfl,rfl,rfl,rfl,rfl⟩ rfl rfl rfl rfl rfl UL Tryz.func5 Ap
  ZI ZJ
  (fun os started H enc _=>DR os started H enc)
theorem opens_holds:Rows.FiatshamirOpensCardSaid:=
 Claim7.holds_tied_plain_at .later [] [.data, .data, .data] true (true,"7fb35bf65a42bc11d058d17a4437978064d8d44886223f6f65b9e740a0a8e80a") true
  Lg (fun _ h=>by cases h) ZD (fun _ h=>by cases h) fiatshamirOpens_row_tie rfl ⟨rfl,rfl⟩ ZE rfl Nc ZH
#print axioms opens_holds
