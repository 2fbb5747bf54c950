/- Part of the proof. -/
import Derived.Test.YtipbhapfacgabaaGreatDoorUH1
import Derived.Test.YtipbhapfacgabaaGreatDoorRows
import Derived.Test.YtipbhapfacgabaaGreatDoorCards
import Derived.Test.YtipbhapfacgabaaGreatDoorTie
import Derived.ProofKit
import Derived.ChangeSame
import Derived.SevenTiedAt
import Derived.JoinedOf
set_option linter.all false
set_option maxRecDepth 100000
namespace Go.Proofs.YtipbhapfacgabaaGreatDoor
open Go Go.RowKit Go.Proofs.Tryz
theorem cf1:Tryz.pinned.checked.prog.funcNamed Rows.blindissueHidesRow.func=some 3:=by kernel_rfl
theorem cf2:Rows.blindissueHidesRow.wfByText (OpenSpec.ofChange Rows.blindissueHidesSpec)=true:=by kernel_rfl
theorem cf3:Tryz.pinned.checked.prog.mainIs=some (true,"7e5ed791ae10874a99752aac1b861a210bd0f7778125de0ddc314c200d1dbf9d".toList):=by kernel_rfl
theorem cf4:true=Tryz.pinned.checked.prog.looks []:=by kernel_rfl
theorem gg1:(Tryz.pinned.checked.prog.funcs.any Func.goes)=false:=by kernel_rfl
theorem QJ {P:Program} (h:P.funcs.any Func.goes=false) (f:String):P.goesAt .entering f=false:=by
 have h1: ∀g:Nat,(P.funcs[g]?).any Func.goes=false:=fun g=>by
  cases hg:P.funcs[g]? with
  |none=>rfl
  |some fn=>
   have:=Dg hg;rw[Array.any_eq_false]at h;obtain⟨i,hi,rfl⟩:=Array.getElem_of_mem this;exact dA.2 (h i hi)
 have h2: ∀f,P.goes f=false:=fun f=>by
  unfold Program.goes;simp only[h,qF,Bool.or_false];rw[wP];intro g _;rw[h1 g];exact Bool.false_ne_true
 unfold Program.goesAt Program.goesFrom
 cases P.funcNamed f<;>simp[h2]
theorem cf6:false=Rows.blindissueHidesRow.goesBy Tryz.pinned.checked.prog:=(QJ gg1 _).symm
theorem cf5:([37,5].all fun u=> !Tryz.pinned.checked.prog.wantsStandIn u)=true:=by kernel_rfl
theorem cf7:Tryz.f3.isInstance Tryz.pinned.checked.prog Rows.blindissueHidesRow.origin Rows.blindissueHidesRow.targs:=of_decide_eq_true (by kernel_rfl)
theorem cf8:Tryz.f3.isWrapper Tryz.pinned.checked.prog Rows.blindissueHidesRow.wrapper Rows.blindissueHidesRow.mainSum:=by unfold Func.isWrapper;rw[af (of_decide_eq_false (by kernel_rfl))];exact⟨rfl,rfl⟩
theorem Zq: ∀f fn,Tryz.pinned.checked.prog.funcNamed Rows.blindissueHidesRow.func=some f->Tryz.pinned.checked.prog.funcs[f]?=some fn->true=Tryz.pinned.checked.prog.looks []/\ ∀(j:Nat) t,fn.params[j]?=some t->Tryz.pinned.checked.prog.wantsStandIn t=false:=by
 intro f fn hf hfn;obtain rfl:f=3:=wS (cf1.symm.trans hf)|>.symm;obtain rfl:fn=Tryz.f3:=(wS (Tryz.func3.symm.trans hfn)).symm;refine⟨cf4,fun j t ht=> ?_⟩
 rw[Tryz.params3]at ht;have hm:t∈[37,5]:=by simpa using Dg ht
 exact(show Tryz.pinned.checked.prog.wantsStandIn t=false by simpa using bJ.1 cf5 t hm)
