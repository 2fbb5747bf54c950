/-
  Part of the proof, part Z52. Own work.
-/
import Derived.Test.YtmobkhegihemeaaGreatDoorRows
import Derived.Test.YtmobkhegihemeaaGreatDoorCards
import Derived.Test.YtmobkhegihemeaaGreatDoorTie
import Derived.ProofKit
import Derived.ChangeSame
import Derived.SevenTiedAt
import Derived.JoinedOf
set_option linter.all false
namespace Go.Proofs.YtmobkhegihemeaaGreatDoor
open Go Go.RowKit
set_option maxRecDepth 100000
theorem SI:Tryz.pinned.checked.prog.funcNamed Rows.courtBindsRow.func=some 4:=by kernel_rfl
theorem Tj:Rows.courtBindsRow.wfByText (OpenSpec.ofChange Rows.courtBindsSpec)=true:=by kernel_rfl
theorem S8:Tryz.pinned.checked.prog.mainIs=some (true,"ec263a7426f25a38c0cc00825d344c78f5c2533f833e596e80ab7a447b9a6bf4".toList):=by kernel_rfl
theorem SV:true=Tryz.pinned.checked.prog.looks []:=by kernel_rfl
theorem Th:(Tryz.pinned.checked.prog.funcs.any Func.goes)=false:=by kernel_rfl
theorem Kg {P:Program} (h:P.funcs.any Func.goes=false) (f:String):P.goesAt .entering f=false:=by
 have h1: ∀g:Nat,(P.funcs[g]?).any Func.goes=false:=fun g=>by
  cases hg:P.funcs[g]? with
  |none=>rfl
  |some fn=>
   have:=Array.mem_of_getElem? hg;rw[Array.any_eq_false]at h;obtain⟨i,hi,rfl⟩:=Array.getElem_of_mem this;exact Bool.eq_false_iff.2 (h i hi)
 have h2: ∀f,P.goes f=false:=fun f=>by
  unfold Program.goes;simp only[h,Bool.and_false,Bool.or_false];rw[List.any_eq_false];intro g _;rw[h1 g];exact Bool.false_ne_true
 unfold Program.goesAt Program.goesFrom
 cases P.funcNamed f<;>simp[h2]
theorem Tm:false=Rows.courtBindsRow.goesBy Tryz.pinned.checked.prog:=(Kg Th _).symm
theorem SY:([36,5,37].all fun u=> !Tryz.pinned.checked.prog.wantsStandIn u)=true:=by kernel_rfl
theorem Te:Tryz.f4.isInstance Tryz.pinned.checked.prog Rows.courtBindsRow.origin Rows.courtBindsRow.targs:=of_decide_eq_true (by kernel_rfl)
theorem SZ:Tryz.f4.isWrapper Tryz.pinned.checked.prog Rows.courtBindsRow.wrapper Rows.courtBindsRow.mainSum:=by unfold Func.isWrapper;rw[if_neg (of_decide_eq_false (by kernel_rfl))];exact⟨rfl,rfl⟩
theorem Rn: ∀f fn,Tryz.pinned.checked.prog.funcNamed Rows.courtBindsRow.func=some f→Tryz.pinned.checked.prog.funcs[f]?=some fn→true=Tryz.pinned.checked.prog.looks []∧ ∀(j:Nat) t,fn.params[j]?=some t→Tryz.pinned.checked.prog.wantsStandIn t=false:=by
 intro f fn hf hfn;obtain rfl:f=4:=Option.some.inj (SI.symm.trans hf)|>.symm;obtain rfl:fn=Tryz.f4:=(Option.some.inj (Tryz.func4.symm.trans hfn)).symm;refine⟨SV,fun j t ht=> ?_⟩
 rw[Tryz.params4]at ht;have hm:t∈[36,5,37]:=by simpa using Array.mem_of_getElem? ht
 exact(show Tryz.pinned.checked.prog.wantsStandIn t=false by simpa using List.all_eq_true.1 SY t hm)
end Go.Proofs.YtmobkhegihemeaaGreatDoor
