/- Part of the proof. -/
import Derived.Test.YtnhhajlcpjgkjaaGreatDoorUC1
import Derived.Test.YtnhhajlcpjgkjaaGreatDoorRows
import Derived.Test.YtnhhajlcpjgkjaaGreatDoorCards
import Derived.Test.YtnhhajlcpjgkjaaGreatDoorTie
import Derived.ProofKit
import Derived.ChangeSame
import Derived.SevenTiedAt
import Derived.JoinedOf
set_option linter.all false
set_option maxRecDepth 100000
namespace Go.Proofs.YtnhhajlcpjgkjaaGreatDoor
open Go Go.RowKit Go.Proofs.Tryz
theorem WQ:Tryz.pinned.checked.prog.funcNamed Rows.blindissueFinishesRow.func=some 4:=by kernel_rfl
theorem Ze:Rows.blindissueFinishesRow.wfByText (OpenSpec.ofChange Rows.blindissueFinishesSpec)=true:=by kernel_rfl
theorem Zf:Tryz.pinned.checked.prog.mainIs=some (true,"77beff54d2787c8818b662481d357043d84f45d7e0e910d28b49b4fdcf74be33".toList):=by kernel_rfl
theorem Zg:true=Tryz.pinned.checked.prog.looks []:=by kernel_rfl
theorem Zr:(Tryz.pinned.checked.prog.funcs.any Func.goes)=false:=by kernel_rfl
theorem BJ {P:Program} (h:P.funcs.any Func.goes=false) (f:String):P.goesAt .entering f=false:=by
 have h1: ∀g:Nat,(P.funcs[g]?).any Func.goes=false:=fun g=>by
  cases hg:P.funcs[g]? with
  |none=>rfl
  |some fn=>
   have:=tI hg;rw[Array.any_eq_false]at h;obtain⟨i,hi,rfl⟩:=Array.getElem_of_mem this;exact dy.2 (h i hi)
 have h2: ∀f,P.goes f=false:=fun f=>by
  unfold Program.goes;simp only[h,oY,Bool.or_false];rw[oP];intro g _;rw[h1 g];exact Bool.false_ne_true
 unfold Program.goesAt Program.goesFrom
 cases P.funcNamed f<;>simp[h2]
theorem Zi:false=Rows.blindissueFinishesRow.goesBy Tryz.pinned.checked.prog:=(BJ Zr _).symm
theorem Zh:([37,52,64].all fun u=> !Tryz.pinned.checked.prog.wantsStandIn u)=true:=by kernel_rfl
theorem Zj:Tryz.f4.isInstance Tryz.pinned.checked.prog Rows.blindissueFinishesRow.origin Rows.blindissueFinishesRow.targs:=of_decide_eq_true (by kernel_rfl)
theorem Zk:Tryz.f4.isWrapper Tryz.pinned.checked.prog Rows.blindissueFinishesRow.wrapper Rows.blindissueFinishesRow.mainSum:=by unfold Func.isWrapper;rw[af (of_decide_eq_false (by kernel_rfl))];exact⟨rfl,rfl⟩
theorem TA: ∀f fn,Tryz.pinned.checked.prog.funcNamed Rows.blindissueFinishesRow.func=some f->Tryz.pinned.checked.prog.funcs[f]?=some fn->true=Tryz.pinned.checked.prog.looks []/\ ∀(j:Nat) t,fn.params[j]?=some t->Tryz.pinned.checked.prog.wantsStandIn t=false:=by
 intro f fn hf hfn;obtain rfl:f=4:=qB (WQ.symm.trans hf)|>.symm;obtain rfl:fn=Tryz.f4:=(qB (Tryz.func4.symm.trans hfn)).symm;refine⟨Zg,fun j t ht=> ?_⟩
 rw[Tryz.params4]at ht;have hm:t∈[37,52,64]:=by simpa using tI ht
 exact(show Tryz.pinned.checked.prog.wantsStandIn t=false by simpa using bH.1 Zh t hm)
