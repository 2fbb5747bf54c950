/- Part of the proof. -/
import Derived.Test.YthlapgdhjcddkaaGreatDoorUF1
import Derived.Test.YthlapgdhjcddkaaGreatDoorRows
import Derived.Test.YthlapgdhjcddkaaGreatDoorCards
import Derived.Test.YthlapgdhjcddkaaGreatDoorTie
import Derived.ProofKit
import Derived.ChangeSame
import Derived.SevenTiedAt
import Derived.JoinedOf
set_option linter.all false
set_option maxRecDepth 100000
namespace Go.Proofs.YthlapgdhjcddkaaGreatDoor
open Go Go.RowKit Go.Proofs.Tryz
theorem UL:Tryz.pinned.checked.prog.funcNamed Rows.fiatshamirOpensRow.func=some 5:=by kernel_rfl
theorem ZD:Rows.fiatshamirOpensRow.wfByText (OpenSpec.ofChange Rows.fiatshamirOpensSpec)=true:=by kernel_rfl
theorem ZE:Tryz.pinned.checked.prog.mainIs=some (true,"7fb35bf65a42bc11d058d17a4437978064d8d44886223f6f65b9e740a0a8e80a".toList):=by kernel_rfl
theorem ZF:true=Tryz.pinned.checked.prog.looks []:=by kernel_rfl
theorem ZS:(Tryz.pinned.checked.prog.funcs.any Func.goes)=false:=by kernel_rfl
theorem uD {P:Program} (h:P.funcs.any Func.goes=false) (f:String):P.goesAt .entering f=false:=by
 have h1: ∀g:Nat,(P.funcs[g]?).any Func.goes=false:=fun g=>by
  cases hg:P.funcs[g]? with
  |none=>rfl
  |some fn=>
   have:=qm hg;rw[Ev]at h;obtain⟨i,hi,rfl⟩:=EB this;exact dR.2 (h i hi)
 have h2: ∀f,P.goes f=false:=fun f=>by
  unfold Program.goes;simp only[h,mU,vC];rw[kK];intro g _;rw[h1 g];exact EK
 unfold Program.goesAt Program.goesFrom
 cases P.funcNamed f<;>simp[h2]
theorem ZH:false=Rows.fiatshamirOpensRow.goesBy Tryz.pinned.checked.prog:=(uD ZS _).symm
theorem ZG:([39,52].all fun u=> !Tryz.pinned.checked.prog.wantsStandIn u)=true:=by kernel_rfl
theorem ZI:Tryz.f5.isInstance Tryz.pinned.checked.prog Rows.fiatshamirOpensRow.origin Rows.fiatshamirOpensRow.targs:=of_decide_eq_true (by kernel_rfl)
theorem ZJ:Tryz.f5.isWrapper Tryz.pinned.checked.prog Rows.fiatshamirOpensRow.wrapper Rows.fiatshamirOpensRow.mainSum:=by unfold Func.isWrapper;rw[aa (of_decide_eq_false (by kernel_rfl))];exact⟨rfl,rfl⟩
theorem Nc: ∀f fn,Tryz.pinned.checked.prog.funcNamed Rows.fiatshamirOpensRow.func=some f->Tryz.pinned.checked.prog.funcs[f]?=some fn->true=Tryz.pinned.checked.prog.looks []/\ ∀(j:Nat) t,fn.params[j]?=some t->Tryz.pinned.checked.prog.wantsStandIn t=false:=by
 intro f fn hf hfn;obtain rfl:f=5:=oW (UL.symm.trans hf)|>.symm;obtain rfl:fn=Tryz.f5:=(oW (Tryz.func5.symm.trans hfn)).symm;refine⟨ZF,fun j t ht=> ?_⟩
 rw[Tryz.params5]at ht;have hm:t∈[39,52]:=by simpa using qm ht
 exact(show Tryz.pinned.checked.prog.wantsStandIn t=false by simpa using bz.1 ZG t hm)
