/-
  Part of the proof, part 51. Own work.
-/
import Derived.Test.YthbognfeadopjaaGreatDoorRows
import Derived.Test.YthbognfeadopjaaGreatDoorCards
import Derived.Test.YthbognfeadopjaaGreatDoorTie
import Derived.ProofKit
import Derived.ChangeSame
import Derived.SevenTiedAt
import Derived.JoinedOf
set_option linter.all false
namespace Go.Proofs.YthbognfeadopjaaGreatDoor
open Go Go.RowKit
set_option maxRecDepth 100000
theorem cf1 : Tryz.pinned.checked.prog.funcNamed Rows.issuerkeyVerifiesRow.func = some 3 := by kernel_rfl
theorem cf2 : Rows.issuerkeyVerifiesRow.wfByText (OpenSpec.ofChange Rows.issuerkeyVerifiesSpec) = true := by kernel_rfl
theorem cf3 : Tryz.pinned.checked.prog.mainIs = some (true, "650e55ec86f05ecb0bab772cdeccac48c8a872fb38669bbcb15539b24d11fbf1".toList) := by kernel_rfl
theorem cf4 : false = Tryz.pinned.checked.prog.looks [] := by kernel_rfl
theorem cf6 : false = Rows.issuerkeyVerifiesRow.goesBy Tryz.pinned.checked.prog := by kernel_rfl
theorem cf5 : ([30, 33, 37].all fun u => !Tryz.pinned.checked.prog.wantsStandIn u) = true := by kernel_rfl
theorem cf7 : Tryz.f3.isInstance Tryz.pinned.checked.prog Rows.issuerkeyVerifiesRow.origin Rows.issuerkeyVerifiesRow.targs := of_decide_eq_true (by kernel_rfl)
theorem cf8 : Tryz.f3.isWrapper Tryz.pinned.checked.prog Rows.issuerkeyVerifiesRow.wrapper Rows.issuerkeyVerifiesRow.mainSum := by unfold Func.isWrapper; rw [if_neg (of_decide_eq_false (by kernel_rfl))]; exact ⟨rfl, rfl⟩
theorem cf10 : ∀ f fn, Tryz.pinned.checked.prog.funcNamed Rows.issuerkeyVerifiesRow.func = some f → Tryz.pinned.checked.prog.funcs[f]? = some fn → false = Tryz.pinned.checked.prog.looks [] ∧ ∀ (j : Nat) t, fn.params[j]? = some t → Tryz.pinned.checked.prog.wantsStandIn t = false := by
 intro f fn hf hfn
 obtain rfl : f = 3 := Option.some.inj (cf1.symm.trans hf) |>.symm
 obtain rfl : fn = Tryz.f3 := (Option.some.inj (Tryz.func3.symm.trans hfn)).symm
 refine ⟨cf4, fun j t ht => ?_⟩
 rw [Tryz.params3] at ht
 have hm : t ∈ [30, 33, 37] := by simpa using Array.mem_of_getElem? ht
 exact (show Tryz.pinned.checked.prog.wantsStandIn t = false by simpa using List.all_eq_true.1 cf5 t hm)
end Go.Proofs.YthbognfeadopjaaGreatDoor
