/-
  Part of the proof, part KC52. Own work.
-/
import Derived.Test.YtmobkhegihemeaaGreatDoorKC1
import Derived.Test.YtmobkhegihemeaaGreatDoorRows
import Derived.Test.YtmobkhegihemeaaGreatDoorCards
import Derived.Test.YtmobkhegihemeaaGreatDoorTie
import Derived.ProofKit
import Derived.ChangeSame
import Derived.SevenTiedAt
import Derived.JoinedOf
set_option linter.all false
namespace Go.Proofs.YtmobkhegihemeaaGreatDoor
open Go Go.RowKit
set_option maxRecDepth 100000
theorem Wj:Tryz.pinned.checked.prog.funcNamed Rows.courtChecksRow.func=some 3:=by kernel_rfl
theorem WR:Rows.courtChecksRow.wfByText (OpenSpec.ofChange Rows.courtChecksSpec)=true:=by kernel_rfl
theorem WT:Tryz.pinned.checked.prog.mainIs=some (true,"ec263a7426f25a38c0cc00825d344c78f5c2533f833e596e80ab7a447b9a6bf4".toList):=by kernel_rfl
theorem WU:true=Tryz.pinned.checked.prog.looks []:=by kernel_rfl
theorem Xb:(Tryz.pinned.checked.prog.funcs.any Func.goes)=false:=by kernel_rfl
theorem Nn {P:Program} (h:P.funcs.any Func.goes=false) (f:String):P.goesAt .entering f=false:=by
 have h1: ∀g:Nat,(P.funcs[g]?).any Func.goes=false:=fun g=>by
  cases hg:P.funcs[g]? with
  |none=>rfl
  |some fn=>
   have:=AP hg;rw[Array.any_eq_false]at h;obtain⟨i,hi,rfl⟩:=Array.getElem_of_mem this;exact fj.2 (h i hi)
 have h2: ∀f,P.goes f=false:=fun f=>by
  unfold Program.goes;simp only[h,qX,Bool.or_false];rw[List.any_eq_false];intro g _;rw[h1 g];exact Bool.false_ne_true
 unfold Program.goesAt Program.goesFrom
 cases P.funcNamed f<;>simp[h2]
theorem WW:false=Rows.courtChecksRow.goesBy Tryz.pinned.checked.prog:=(Nn Xb _).symm
theorem WV:([29].all fun u=> !Tryz.pinned.checked.prog.wantsStandIn u)=true:=by kernel_rfl
theorem WX:Tryz.f3.isInstance Tryz.pinned.checked.prog Rows.courtChecksRow.origin Rows.courtChecksRow.targs:=of_decide_eq_true (by kernel_rfl)
theorem WY:Tryz.f3.isWrapper Tryz.pinned.checked.prog Rows.courtChecksRow.wrapper Rows.courtChecksRow.mainSum:=by unfold Func.isWrapper;rw[if_neg (of_decide_eq_false (by kernel_rfl))];exact⟨rfl,rfl⟩
theorem Vn: ∀f fn,Tryz.pinned.checked.prog.funcNamed Rows.courtChecksRow.func=some f→Tryz.pinned.checked.prog.funcs[f]?=some fn→true=Tryz.pinned.checked.prog.looks []∧ ∀(j:Nat) t,fn.params[j]?=some t→Tryz.pinned.checked.prog.wantsStandIn t=false:=by
 intro f fn hf hfn;obtain rfl:f=3:=uB (Wj.symm.trans hf)|>.symm;obtain rfl:fn=Tryz.f3:=(uB (Tryz.func3.symm.trans hfn)).symm;refine⟨WU,fun j t ht=> ?_⟩
 rw[Tryz.params3]at ht;have hm:t∈[29]:=by simpa using AP ht
 exact(show Tryz.pinned.checked.prog.wantsStandIn t=false by simpa using bc.1 WV t hm)
end Go.Proofs.YtmobkhegihemeaaGreatDoor
