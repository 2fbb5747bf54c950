/- Part of the proof. -/
import Derived.Test.YtnhhajlcpjgkjaaGreatDoorUB1
import Derived.Test.YtnhhajlcpjgkjaaGreatDoorRows
import Derived.Test.YtnhhajlcpjgkjaaGreatDoorCards
import Derived.Test.YtnhhajlcpjgkjaaGreatDoorTie
import Derived.ProofKit
import Derived.ChangeSame
import Derived.SevenTiedAt
import Derived.JoinedOf
set_option linter.all false
set_option maxRecDepth 100000
namespace Go.Proofs.YtnhhajlcpjgkjaaGreatDoor
open Go Go.RowKit Go.Proofs.Tryz
theorem TA:Tryz.pinned.checked.prog.funcNamed Rows.blindissueRequestsRow.func=some 3:=by kernel_rfl
theorem Ya:Rows.blindissueRequestsRow.wfByText (OpenSpec.ofChange Rows.blindissueRequestsSpec)=true:=by kernel_rfl
theorem Yb:Tryz.pinned.checked.prog.mainIs=some (true,"77beff54d2787c8818b662481d357043d84f45d7e0e910d28b49b4fdcf74be33".toList):=by kernel_rfl
theorem Yc:true=Tryz.pinned.checked.prog.looks []:=by kernel_rfl
theorem Yr:(Tryz.pinned.checked.prog.funcs.any Func.goes)=false:=by kernel_rfl
theorem tU {P:Program} (h:P.funcs.any Func.goes=false) (f:String):P.goesAt .entering f=false:=by
 have h1: ∀g:Nat,(P.funcs[g]?).any Func.goes=false:=fun g=>by
  cases hg:P.funcs[g]? with
  |none=>rfl
  |some fn=>
   have:=pN hg;rw[DW]at h;obtain⟨i,hi,rfl⟩:=D7 this;exact dn.2 (h i hi)
 have h2: ∀f,P.goes f=false:=fun f=>by
  unfold Program.goes;simp only[h,nS,Bool.or_false];rw[nR];intro g _;rw[h1 g];exact DT
 unfold Program.goesAt Program.goesFrom
 cases P.funcNamed f<;>simp[h2]
theorem Ye:false=Rows.blindissueRequestsRow.goesBy Tryz.pinned.checked.prog:=(tU Yr _).symm
theorem Yd:([37,39,41].all fun u=> !Tryz.pinned.checked.prog.wantsStandIn u)=true:=by kernel_rfl
theorem Yf:Tryz.f3.isInstance Tryz.pinned.checked.prog Rows.blindissueRequestsRow.origin Rows.blindissueRequestsRow.targs:=of_decide_eq_true (by kernel_rfl)
theorem Yg:Tryz.f3.isWrapper Tryz.pinned.checked.prog Rows.blindissueRequestsRow.wrapper Rows.blindissueRequestsRow.mainSum:=by unfold Func.isWrapper;rw[af (of_decide_eq_false (by kernel_rfl))];exact⟨rfl,rfl⟩
theorem MS: ∀f fn,Tryz.pinned.checked.prog.funcNamed Rows.blindissueRequestsRow.func=some f->Tryz.pinned.checked.prog.funcs[f]?=some fn->true=Tryz.pinned.checked.prog.looks []/\ ∀(j:Nat) t,fn.params[j]?=some t->Tryz.pinned.checked.prog.wantsStandIn t=false:=by
 intro f fn hf hfn;obtain rfl:f=3:=nQ (TA.symm.trans hf)|>.symm;obtain rfl:fn=Tryz.f3:=(nQ (Tryz.func3.symm.trans hfn)).symm;refine⟨Yc,fun j t ht=> ?_⟩
 rw[Tryz.params3]at ht;have hm:t∈[37,39,41]:=by simpa using pN ht
 exact(show Tryz.pinned.checked.prog.wantsStandIn t=false by simpa using bH.1 Yd t hm)
