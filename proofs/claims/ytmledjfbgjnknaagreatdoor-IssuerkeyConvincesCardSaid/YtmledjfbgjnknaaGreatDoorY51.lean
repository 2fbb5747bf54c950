/-
  Part of the proof, part Y51. Own work.
-/
import Derived.Test.YtmledjfbgjnknaaGreatDoorRows
import Derived.Test.YtmledjfbgjnknaaGreatDoorCards
import Derived.Test.YtmledjfbgjnknaaGreatDoorTie
import Derived.ProofKit
import Derived.ChangeSame
import Derived.SevenTiedAt
import Derived.JoinedOf
set_option linter.all false
namespace Go.Proofs.YtmledjfbgjnknaaGreatDoor
open Go Go.RowKit
set_option maxRecDepth 100000
theorem cf1:Tryz.pinned.checked.prog.funcNamed Rows.issuerkeyConvincesRow.func=some 4:=by kernel_rfl
theorem cf2:Rows.issuerkeyConvincesRow.wfByText (OpenSpec.ofChange Rows.issuerkeyConvincesSpec)=true:=by kernel_rfl
theorem cf3:Tryz.pinned.checked.prog.mainIs=some (true,"d69b44d82594d8f93a936877d3e476187970d8c447ecc0949189965bfcfb4864".toList):=by kernel_rfl
theorem cf4:true=Tryz.pinned.checked.prog.looks []:=by kernel_rfl
theorem gg1:(Tryz.pinned.checked.prog.funcs.any Func.goes)=false:=by kernel_rfl
theorem goes_no {P:Program} (h:P.funcs.any Func.goes=false) (f:String):P.goesAt .entering f=false:=by
 have h1: ∀g:Nat,(P.funcs[g]?).any Func.goes=false:=fun g=>by
  cases hg:P.funcs[g]? with
  |none=>rfl
  |some fn=>
   have:=Array.mem_of_getElem? hg;rw[Array.any_eq_false]at h;obtain⟨i,hi,rfl⟩:=Array.getElem_of_mem this;exact Bool.eq_false_iff.2 (h i hi)
 have h2: ∀f,P.goes f=false:=fun f=>by
  unfold Program.goes;simp only[h,Bool.and_false,Bool.or_false];rw[List.any_eq_false];intro g _;rw[h1 g];exact Bool.false_ne_true
 unfold Program.goesAt Program.goesFrom
 cases P.funcNamed f<;>simp[h2]
theorem cf6:false=Rows.issuerkeyConvincesRow.goesBy Tryz.pinned.checked.prog:=(goes_no gg1 _).symm
theorem cf5:([37].all fun u=> !Tryz.pinned.checked.prog.wantsStandIn u)=true:=by kernel_rfl
theorem cf7:Tryz.f4.isInstance Tryz.pinned.checked.prog Rows.issuerkeyConvincesRow.origin Rows.issuerkeyConvincesRow.targs:=of_decide_eq_true (by kernel_rfl)
theorem cf8:Tryz.f4.isWrapper Tryz.pinned.checked.prog Rows.issuerkeyConvincesRow.wrapper Rows.issuerkeyConvincesRow.mainSum:=by unfold Func.isWrapper;rw[if_neg (of_decide_eq_false (by kernel_rfl))];exact⟨rfl,rfl⟩
theorem cf10: ∀f fn,Tryz.pinned.checked.prog.funcNamed Rows.issuerkeyConvincesRow.func=some f→Tryz.pinned.checked.prog.funcs[f]?=some fn→true=Tryz.pinned.checked.prog.looks []∧ ∀(j:Nat) t,fn.params[j]?=some t→Tryz.pinned.checked.prog.wantsStandIn t=false:=by
 intro f fn hf hfn;obtain rfl:f=4:=Option.some.inj (cf1.symm.trans hf)|>.symm;obtain rfl:fn=Tryz.f4:=(Option.some.inj (Tryz.func4.symm.trans hfn)).symm;refine⟨cf4,fun j t ht=> ?_⟩
 rw[Tryz.params4]at ht;have hm:t∈[37]:=by simpa using Array.mem_of_getElem? ht
 exact(show Tryz.pinned.checked.prog.wantsStandIn t=false by simpa using List.all_eq_true.1 cf5 t hm)
end Go.Proofs.YtmledjfbgjnknaaGreatDoor
