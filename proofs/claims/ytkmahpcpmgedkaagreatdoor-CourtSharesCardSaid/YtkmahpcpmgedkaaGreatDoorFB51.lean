/- Part of the proof. -/
import Derived.Test.YtkmahpcpmgedkaaGreatDoorFB1
import Derived.Test.YtkmahpcpmgedkaaGreatDoorRows
import Derived.Test.YtkmahpcpmgedkaaGreatDoorCards
import Derived.Test.YtkmahpcpmgedkaaGreatDoorTie
import Derived.ProofKit
import Derived.ChangeSame
import Derived.SevenTiedAt
import Derived.JoinedOf
set_option linter.all false
set_option maxRecDepth 100000
namespace Go.Proofs.YtkmahpcpmgedkaaGreatDoor
open Go Go.RowKit Tryz
theorem cf1:Tryz.pinned.checked.prog.funcNamed Rows.courtSharesRow.func=some 3:=by kernel_rfl
theorem cf2:Rows.courtSharesRow.wfByText (OpenSpec.ofChange Rows.courtSharesSpec)=true:=by kernel_rfl
theorem cf3:Tryz.pinned.checked.prog.mainIs=some (true,"748a24b6ebef30b6caefd9cb63a9fbfc8ad91bbce3cb4df07f53d3c8ebbbc142".toList):=by kernel_rfl
theorem cf4:true=Tryz.pinned.checked.prog.looks []:=by kernel_rfl
theorem gg1:(Tryz.pinned.checked.prog.funcs.any Func.goes)=false:=by kernel_rfl
theorem Rb {P:Program} (h:P.funcs.any Func.goes=false) (f:String):P.goesAt .entering f=false:=by
 have h1: ∀g:Nat,(P.funcs[g]?).any Func.goes=false:=fun g=>by
  cases hg:P.funcs[g]? with
  |none=>rfl
  |some fn=>
   have:=D6 hg;rw[Array.any_eq_false]at h;obtain⟨i,hi,rfl⟩:=Array.getElem_of_mem this;exact fy.2 (h i hi)
 have h2: ∀f,P.goes f=false:=fun f=>by
  unfold Program.goes;simp only[h,uL,Bool.or_false];rw[x6];intro g _;rw[h1 g];exact Bool.false_ne_true
 unfold Program.goesAt Program.goesFrom
 cases P.funcNamed f<;>simp[h2]
theorem cf6:false=Rows.courtSharesRow.goesBy Tryz.pinned.checked.prog:=(Rb gg1 _).symm
theorem cf5:([29,35,37].all fun u=> !Tryz.pinned.checked.prog.wantsStandIn u)=true:=by kernel_rfl
theorem cf7:Tryz.f3.isInstance Tryz.pinned.checked.prog Rows.courtSharesRow.origin Rows.courtSharesRow.targs:=of_decide_eq_true (by kernel_rfl)
theorem cf8:Tryz.f3.isWrapper Tryz.pinned.checked.prog Rows.courtSharesRow.wrapper Rows.courtSharesRow.mainSum:=by unfold Func.isWrapper;rw[ae (of_decide_eq_false (by kernel_rfl))];exact⟨rfl,rfl⟩
theorem ZI: ∀f fn,Tryz.pinned.checked.prog.funcNamed Rows.courtSharesRow.func=some f->Tryz.pinned.checked.prog.funcs[f]?=some fn->true=Tryz.pinned.checked.prog.looks []/\ ∀(j:Nat) t,fn.params[j]?=some t->Tryz.pinned.checked.prog.wantsStandIn t=false:=by
 intro f fn hf hfn;obtain rfl:f=3:=yr (cf1.symm.trans hf)|>.symm;obtain rfl:fn=Tryz.f3:=(yr (Tryz.func3.symm.trans hfn)).symm;refine⟨cf4,fun j t ht=> ?_⟩
 rw[Tryz.params3]at ht;have hm:t∈[29,35,37]:=by simpa using D6 ht
 exact(show Tryz.pinned.checked.prog.wantsStandIn t=false by simpa using bM.1 cf5 t hm)
