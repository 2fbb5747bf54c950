/-
  Part of the proof, part FA51. Own work.
-/
import Derived.Test.YtfdjchnefpefbaaGreatDoorFA1
import Derived.Test.YtfdjchnefpefbaaGreatDoorRows
import Derived.Test.YtfdjchnefpefbaaGreatDoorCards
import Derived.Test.YtfdjchnefpefbaaGreatDoorTie
import Derived.ProofKit
import Derived.ChangeSame
import Derived.SevenTiedAt
import Derived.JoinedOf
set_option linter.all false
namespace Go.Proofs.YtfdjchnefpefbaaGreatDoor
open Go Go.RowKit
set_option maxRecDepth 100000
theorem Zr:Tryz.pinned.checked.prog.funcNamed Rows.courtFoundsRow.func=some 3:=by kernel_rfl
theorem Z0:Rows.courtFoundsRow.wfByText (OpenSpec.ofChange Rows.courtFoundsSpec)=true:=by kernel_rfl
theorem Z1:Tryz.pinned.checked.prog.mainIs=some (true,"b57db203abd6080b11f3863691c75e6d19df508da4916a0a925f2636466f5d2b".toList):=by kernel_rfl
theorem Z3:true=Tryz.pinned.checked.prog.looks []:=by kernel_rfl
theorem gg1:(Tryz.pinned.checked.prog.funcs.any Func.goes)=false:=by kernel_rfl
theorem Pq {P:Program} (h:P.funcs.any Func.goes=false) (f:String):P.goesAt .entering f=false:=by
 have h1: ∀g:Nat,(P.funcs[g]?).any Func.goes=false:=fun g=>by
  cases hg:P.funcs[g]? with
  |none=>rfl
  |some fn=>
   have:=BY hg;rw[Array.any_eq_false]at h;obtain⟨i,hi,rfl⟩:=Array.getElem_of_mem this;exact eZ.2 (h i hi)
 have h2: ∀f,P.goes f=false:=fun f=>by
  unfold Program.goes;simp only[h,wz,Bool.or_false];rw[List.any_eq_false];intro g _;rw[h1 g];exact Bool.false_ne_true
 unfold Program.goesAt Program.goesFrom
 cases P.funcNamed f<;>simp[h2]
theorem Z5:false=Rows.courtFoundsRow.goesBy Tryz.pinned.checked.prog:=(Pq gg1 _).symm
theorem Z4:([26,29].all fun u=> !Tryz.pinned.checked.prog.wantsStandIn u)=true:=by kernel_rfl
theorem Z6:Tryz.f3.isInstance Tryz.pinned.checked.prog Rows.courtFoundsRow.origin Rows.courtFoundsRow.targs:=of_decide_eq_true (by kernel_rfl)
theorem Z7:Tryz.f3.isWrapper Tryz.pinned.checked.prog Rows.courtFoundsRow.wrapper Rows.courtFoundsRow.mainSum:=by unfold Func.isWrapper;rw[if_neg (of_decide_eq_false (by kernel_rfl))];exact⟨rfl,rfl⟩
theorem Yc: ∀f fn,Tryz.pinned.checked.prog.funcNamed Rows.courtFoundsRow.func=some f->Tryz.pinned.checked.prog.funcs[f]?=some fn->true=Tryz.pinned.checked.prog.looks []/\ ∀(j:Nat) t,fn.params[j]?=some t->Tryz.pinned.checked.prog.wantsStandIn t=false:=by
 intro f fn hf hfn;obtain rfl:f=3:=vY (Zr.symm.trans hf)|>.symm;obtain rfl:fn=Tryz.f3:=(vY (Tryz.func3.symm.trans hfn)).symm;refine⟨Z3,fun j t ht=> ?_⟩
 rw[Tryz.params3]at ht;have hm:t∈[26,29]:=by simpa using BY ht
 exact(show Tryz.pinned.checked.prog.wantsStandIn t=false by simpa using bz.1 Z4 t hm)
end Go.Proofs.YtfdjchnefpefbaaGreatDoor
