/-
  Part of the proof, part KR52. Own work.
-/
import Derived.Test.YtmobkhegihemeaaGreatDoorRows
import Derived.Test.YtmobkhegihemeaaGreatDoorCards
import Derived.Test.YtmobkhegihemeaaGreatDoorTie
import Derived.ProofKit
import Derived.ChangeSame
import Derived.SevenTiedAt
import Derived.JoinedOf
set_option linter.all false
namespace Go.Proofs.YtmobkhegihemeaaGreatDoor
open Go Go.RowKit
set_option maxRecDepth 100000
theorem RA:Tryz.pinned.checked.prog.funcNamed Rows.courtRestoresRow.func=some 6:=by kernel_rfl
theorem Sb:Rows.courtRestoresRow.wfByText (OpenSpec.ofChange Rows.courtRestoresSpec)=true:=by kernel_rfl
theorem Sc:Tryz.pinned.checked.prog.mainIs=some (true,"ec263a7426f25a38c0cc00825d344c78f5c2533f833e596e80ab7a447b9a6bf4".toList):=by kernel_rfl
theorem Sd:true=Tryz.pinned.checked.prog.looks []:=by kernel_rfl
theorem Sq:(Tryz.pinned.checked.prog.funcs.any Func.goes)=false:=by kernel_rfl
theorem IC {P:Program} (h:P.funcs.any Func.goes=false) (f:String):P.goesAt .entering f=false:=by
 have h1: ∀g:Nat,(P.funcs[g]?).any Func.goes=false:=fun g=>by
  cases hg:P.funcs[g]? with
  |none=>rfl
  |some fn=>
   have:=Array.mem_of_getElem? hg;rw[Array.any_eq_false]at h;obtain⟨i,hi,rfl⟩:=Array.getElem_of_mem this;exact Bool.eq_false_iff.2 (h i hi)
 have h2: ∀f,P.goes f=false:=fun f=>by
  unfold Program.goes;simp only[h,Bool.and_false,Bool.or_false];rw[List.any_eq_false];intro g _;rw[h1 g];exact Bool.false_ne_true
 unfold Program.goesAt Program.goesFrom
 cases P.funcNamed f<;>simp[h2]
theorem Sf:false=Rows.courtRestoresRow.goesBy Tryz.pinned.checked.prog:=(IC Sq _).symm
theorem Se:([36,22,5].all fun u=> !Tryz.pinned.checked.prog.wantsStandIn u)=true:=by kernel_rfl
theorem Sg:Tryz.f6.isInstance Tryz.pinned.checked.prog Rows.courtRestoresRow.origin Rows.courtRestoresRow.targs:=of_decide_eq_true (by kernel_rfl)
theorem Si:Tryz.f6.isWrapper Tryz.pinned.checked.prog Rows.courtRestoresRow.wrapper Rows.courtRestoresRow.mainSum:=by unfold Func.isWrapper;rw[if_neg (of_decide_eq_false (by kernel_rfl))];exact⟨rfl,rfl⟩
theorem Qw: ∀f fn,Tryz.pinned.checked.prog.funcNamed Rows.courtRestoresRow.func=some f→Tryz.pinned.checked.prog.funcs[f]?=some fn→true=Tryz.pinned.checked.prog.looks []∧ ∀(j:Nat) t,fn.params[j]?=some t→Tryz.pinned.checked.prog.wantsStandIn t=false:=by
 intro f fn hf hfn;obtain rfl:f=6:=Option.some.inj (RA.symm.trans hf)|>.symm;obtain rfl:fn=Tryz.f6:=(Option.some.inj (Tryz.func6.symm.trans hfn)).symm;refine⟨Sd,fun j t ht=> ?_⟩
 rw[Tryz.params6]at ht;have hm:t∈[36,22,5]:=by simpa using Array.mem_of_getElem? ht
 exact(show Tryz.pinned.checked.prog.wantsStandIn t=false by simpa using List.all_eq_true.1 Se t hm)
end Go.Proofs.YtmobkhegihemeaaGreatDoor
