/-
  Part of the proof, part 51. Own work.
-/
import Derived.Test.YtmobkhegihemeaaGreatDoorRows
import Derived.Test.YtmobkhegihemeaaGreatDoorCards
import Derived.Test.YtmobkhegihemeaaGreatDoorTie
import Derived.ProofKit
import Derived.ChangeSame
import Derived.SevenTiedAt
import Derived.JoinedOf
set_option linter.all false
namespace Go.Proofs.YtmobkhegihemeaaGreatDoor
open Go Go.RowKit
set_option maxRecDepth 100000
theorem cf1:Tryz.pinned.checked.prog.funcNamed Rows.courtHidesRow.func=some 5:=by kernel_rfl
theorem cf2:Rows.courtHidesRow.wfByText (OpenSpec.ofChange Rows.courtHidesSpec)=true:=by kernel_rfl
theorem cf3:Tryz.pinned.checked.prog.mainIs=some (true,"ec263a7426f25a38c0cc00825d344c78f5c2533f833e596e80ab7a447b9a6bf4".toList):=by kernel_rfl
theorem cf4:true=Tryz.pinned.checked.prog.looks []:=by kernel_rfl
theorem gg1:(Tryz.pinned.checked.prog.funcs.any Func.goes)=false:=by kernel_rfl
theorem goes_no {P:Program} (h:P.funcs.any Func.goes=false) (f:String):P.goesAt .entering f=false:=by
 have h1: ∀g:Nat,(P.funcs[g]?).any Func.goes=false:=fun g=>by
  cases hg:P.funcs[g]? with
  |none=>rfl
  |some fn=>
   have:=Array.mem_of_getElem? hg;rw[Array.any_eq_false]at h;obtain⟨i,hi,rfl⟩:=Array.getElem_of_mem this;exact Bool.eq_false_iff.2 (h i hi)
 have h2: ∀f,P.goes f=false:=fun f=>by
  unfold Program.goes;simp only[h,Bool.and_false,Bool.or_false];rw[List.any_eq_false];intro g _;rw[h1 g];exact Bool.false_ne_true
 unfold Program.goesAt Program.goesFrom
 cases P.funcNamed f<;>simp[h2]
theorem cf6:false=Rows.courtHidesRow.goesBy Tryz.pinned.checked.prog:=(goes_no gg1 _).symm
theorem cf5:([36,5,5].all fun u=> !Tryz.pinned.checked.prog.wantsStandIn u)=true:=by kernel_rfl
theorem cf7:Tryz.f5.isInstance Tryz.pinned.checked.prog Rows.courtHidesRow.origin Rows.courtHidesRow.targs:=of_decide_eq_true (by kernel_rfl)
theorem cf8:Tryz.f5.isWrapper Tryz.pinned.checked.prog Rows.courtHidesRow.wrapper Rows.courtHidesRow.mainSum:=by unfold Func.isWrapper;rw[if_neg (of_decide_eq_false (by kernel_rfl))];exact⟨rfl,rfl⟩
theorem cf10: ∀f fn,Tryz.pinned.checked.prog.funcNamed Rows.courtHidesRow.func=some f→Tryz.pinned.checked.prog.funcs[f]?=some fn→true=Tryz.pinned.checked.prog.looks []∧ ∀(j:Nat) t,fn.params[j]?=some t→Tryz.pinned.checked.prog.wantsStandIn t=false:=by
 intro f fn hf hfn;obtain rfl:f=5:=Option.some.inj (cf1.symm.trans hf)|>.symm;obtain rfl:fn=Tryz.f5:=(Option.some.inj (Tryz.func5.symm.trans hfn)).symm;refine⟨cf4,fun j t ht=> ?_⟩
 rw[Tryz.params5]at ht;have hm:t∈[36,5,5]:=by simpa using Array.mem_of_getElem? ht
 exact(show Tryz.pinned.checked.prog.wantsStandIn t=false by simpa using List.all_eq_true.1 cf5 t hm)
end Go.Proofs.YtmobkhegihemeaaGreatDoor
