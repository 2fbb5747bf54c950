/- Part of the proof. -/
import Derived.Test.YtkmahpcpmgedkaaGreatDoorFC1
import Derived.Test.YtkmahpcpmgedkaaGreatDoorRows
import Derived.Test.YtkmahpcpmgedkaaGreatDoorCards
import Derived.Test.YtkmahpcpmgedkaaGreatDoorTie
import Derived.ProofKit
import Derived.ChangeSame
import Derived.SevenTiedAt
import Derived.JoinedOf
set_option linter.all false
set_option maxRecDepth 100000
namespace Go.Proofs.YtkmahpcpmgedkaaGreatDoor
open Go Go.RowKit Tryz
theorem cf1:Tryz.pinned.checked.prog.funcNamed Rows.courtOpensRow.func=some 4:=by kernel_rfl
theorem cf2:Rows.courtOpensRow.wfByText (OpenSpec.ofChange Rows.courtOpensSpec)=true:=by kernel_rfl
theorem cf3:Tryz.pinned.checked.prog.mainIs=some (true,"748a24b6ebef30b6caefd9cb63a9fbfc8ad91bbce3cb4df07f53d3c8ebbbc142".toList):=by kernel_rfl
theorem cf4:true=Tryz.pinned.checked.prog.looks []:=by kernel_rfl
theorem gg1:(Tryz.pinned.checked.prog.funcs.any Func.goes)=false:=by kernel_rfl
theorem Q0 {P:Program} (h:P.funcs.any Func.goes=false) (f:String):P.goesAt .entering f=false:=by
 have h1: ∀g:Nat,(P.funcs[g]?).any Func.goes=false:=fun g=>by
  cases hg:P.funcs[g]? with
  |none=>rfl
  |some fn=>
   have:=DK hg;rw[Array.any_eq_false]at h;obtain⟨i,hi,rfl⟩:=Array.getElem_of_mem this;exact fz.2 (h i hi)
 have h2: ∀f,P.goes f=false:=fun f=>by
  unfold Program.goes;simp only[h,ur,Bool.or_false];rw[xV];intro g _;rw[h1 g];exact Bool.false_ne_true
 unfold Program.goesAt Program.goesFrom
 cases P.funcNamed f<;>simp[h2]
theorem cf6:false=Rows.courtOpensRow.goesBy Tryz.pinned.checked.prog:=(Q0 gg1 _).symm
theorem cf5:([29,31,57].all fun u=> !Tryz.pinned.checked.prog.wantsStandIn u)=true:=by kernel_rfl
theorem cf7:Tryz.f4.isInstance Tryz.pinned.checked.prog Rows.courtOpensRow.origin Rows.courtOpensRow.targs:=of_decide_eq_true (by kernel_rfl)
theorem cf8:Tryz.f4.isWrapper Tryz.pinned.checked.prog Rows.courtOpensRow.wrapper Rows.courtOpensRow.mainSum:=by unfold Func.isWrapper;rw[ae (of_decide_eq_false (by kernel_rfl))];exact⟨rfl,rfl⟩
theorem ZG: ∀f fn,Tryz.pinned.checked.prog.funcNamed Rows.courtOpensRow.func=some f->Tryz.pinned.checked.prog.funcs[f]?=some fn->true=Tryz.pinned.checked.prog.looks []/\ ∀(j:Nat) t,fn.params[j]?=some t->Tryz.pinned.checked.prog.wantsStandIn t=false:=by
 intro f fn hf hfn;obtain rfl:f=4:=xD (cf1.symm.trans hf)|>.symm;obtain rfl:fn=Tryz.f4:=(xD (Tryz.func4.symm.trans hfn)).symm;refine⟨cf4,fun j t ht=> ?_⟩
 rw[Tryz.params4]at ht;have hm:t∈[29,31,57]:=by simpa using DK ht
 exact(show Tryz.pinned.checked.prog.wantsStandIn t=false by simpa using bH.1 cf5 t hm)
