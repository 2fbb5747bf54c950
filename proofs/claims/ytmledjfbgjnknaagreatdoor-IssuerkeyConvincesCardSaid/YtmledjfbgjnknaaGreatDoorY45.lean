/-
  Part of the proof, part Y45. Own work.
-/
import Derived.WideLaws
import Derived.Tactics
import Derived.Tactics2
import Derived.Test.YtmledjfbgjnknaaGreatDoorY44
set_option linter.all false
namespace Go.Proofs.YtmledjfbgjnknaaGreatDoor
open Go Go.Dom Go.Num
set_option maxRecDepth 100000
set_option maxHeartbeats 16000000
theorem CloneN_ok (l:List Bytes) (hl:l.length<1000000):EvP Tryz.prog 191 [.sl (l.map .s)] (.sl (l.map .s)):=by
 cases l with
 |nil=>exact CloneN0
 |cons x r=>
  rw[List.map_cons];have k1:(PV.s x::r.map .s)=(x::r).map .s:=rfl;have k0:(r.map PV.s).length=r.length:=List.length_map ..;refine eW Tryz.call191 Tryz.func191 ?_;repeat' first|simp only[go_sem,seval,k0]|refine sB ?_|(first|apply pX|apply bX)<;>intro hc|refine⟨oD,?_⟩|exact oD|fail
  obtain⟨-,r2,r3,-⟩:=rowS r;obtain⟨-,-,-,r4⟩:=rowS (x::r);rw[flat_S];refine⟨⟨fun x hx=>cells_S hx,fun x hx=>List.all_eq_true.1 r2 x hx,by simp at hl;omega,by simp at hl;omega⟩,?_⟩
  simp only[List.length_map,Nat.le_refl,r3,r2,mapO_view_v,and_self,if_true,Option.map_some];exact⟨trivial,congrArg PV.sl r4⟩
theorem runIdle (v1 v2 v3:Value) (w:World):CallsD Tryz.prog 235 #[v1,v2,v3] .returning w fun e u' w'=>e= .returned (.tuple #[])∧u'= .returning∧w'=w:=by
 refine callsD_of_wpS Tryz.func235 rfl fun c₀ cs hu=> ?_
 apply wpS_seq;apply wpS_region;simp[wpOpsS,go_sem,recoverD,hu,Tryz.ntmps235,Exit.thenS];apply wpS_seq;apply wpS_region;simp[wpOpsS,go_sem,Exit.thenS];refine wpS_cond (t:=false) (by simp[Act.eval,Array.replicate]) ?_
 simp only[Bool.false_eq_true,if_false];refine wpS_of_wp (wp_skip ?_);cases c₀;simp_all[bodyPostS,results,Tryz.results235]
noncomputable abbrev runB:Code:=Tryz.f126.body.getD .skip
theorem runD (a:Act) (w:World) (Q:Exit→Act→World→Prop) (hd:a.defers=[]) (hs:a.tmps.size=Tryz.f126.ntmps) (hQ: ∀a' d,a'.tmps.size=Tryz.f126.ntmps→(∀k,k≠56→a'.tmps.getD k undef=a.tmps.getD k undef)→a'.defers=[d]→Idle Tryz.prog d→Q .normal a' w):(cFst (rst 5 runB)).wp Tryz.prog Q a w:=by
 have hmf: ∀(fn:Fn) (first cap:Array Value) (w:World),(Instr.makeFunc fn first cap).run Tryz.prog w= .ok (.func fn first cap) w:=fun _ _ _ _=>rfl
 show(Code.region 6 _ false).wp Tryz.prog Q a w;apply wp_region;simp[wpOps,go_sem,hd];have h10:56<a.tmps.size:=by rw[hs,Tryz.ntmps126];decide
 refine .inl ?_;refine .inl ?_;rw[if_pos h10];refine hQ {tmps:=a.tmps.setIfInBounds 56 (.func (.func 235) #[] #[a.tmps[8]?.getD undef,a.tmps[9]?.getD undef,a.tmps[10]?.getD undef]),defers:=[⟨.fn (.func 235) #[a.tmps[8]?.getD undef,a.tmps[9]?.getD undef,a.tmps[10]?.getD undef], #[]⟩]} ⟨.fn (.func 235) #[a.tmps[8]?.getD undef,a.tmps[9]?.getD undef,a.tmps[10]?.getD undef], #[]⟩ ?_ ?_ ?_ ⟨.func 235, #[a.tmps[8]?.getD undef,a.tmps[9]?.getD undef,a.tmps[10]?.getD undef],235, #[a.tmps[8]?.getD undef,a.tmps[9]?.getD undef,a.tmps[10]?.getD undef],rfl,fun w=>⟨?_,runIdle _ _ _ w⟩⟩
 ·simp[hs]
 ·intro k hk;simp[Array.getElem?_setIfInBounds_ne (Ne.symm hk)]
 ·rfl
 ·simp[invoke,go_sem]
theorem runBody:Tryz.f126.body=some (seqs [cFst (rst 0 runB),cFst (rst 1 runB),cFst (rst 2 runB),cFst (rst 3 runB),cFst (rst 4 runB)] (.seq (cFst (rst 5 runB)) (rst 6 runB))):=by kernel_rfl
theorem preC {nt:Nat} {c:Code} {sc:SC} {r:List Code} {s s1 s2:AS} (h:CW Tryz.prog (fun e x=>e= .normal∧s1.Le x) sc [] s) (hr:Pre Tryz.prog nt r s1 s2) (hc:compI Tryz.prog tyL nt c=some sc:=by cbv) (hng:sc.norng=true:=by exact rfl):Pre Tryz.prog nt (c::r) s s2:= .cons (tyC.1 _ _ _ hc) hng (CW.start h) hr
theorem run0_ok (vs:List Bytes) (sd:Bytes) (a:Int) (hl:vs.length<1000000):EvP Tryz.prog 126 [C0, .sl [], .s [],T vs sd a] (.tup [.agg [.sl [], .sl [], .sl [], .sl []],T vs sd a,E 0]):=by
 have hc:=CloneN_ok vs hl;have ho:EvP Tryz.prog 140 [C0] (.s []):=by
  refine eW Tryz.call140 Tryz.func140 ?_;repeat' first|simp only[go_sem,seval]|(refine loop_unroll' ?_)|refine sB ?_|(first|apply pX|apply bX)<;>intro hc|refine⟨oD,?_⟩|exact oD|fail
 refine EvP.of_defer (sl:=56) (pre:=[cFst (rst 0 runB),cFst (rst 1 runB),cFst (rst 2 runB),cFst (rst 3 runB),cFst (rst 4 runB)]) (cD:=cFst (rst 5 runB)) (c2:=rst 6 runB) (s2:=⟨[(1, .v (.sl [])),(8, .p 1002 0 0),(9, .p 1003 0 0),(10, .p 1004 0 0),(11, .v (.sl [])),(12, .p 1014 0 0)],[(1002,⟨0,[.sn, .sn, .sn, .sn],false,some 121⟩),(1003,⟨0,[.sn, .v (.s []), .v (.i .i64 0)],false,some 35⟩),(1004,⟨0,[.v (.i .i64 0)],false,some 46⟩),(1014,⟨0,[.v (.sl []), .v (.sl []), .v (.s []), .v (.sl (vs.map .s)), .v (.s sd), .v (.i .i64 a), .v (.sl []), .rs 1020 0 0 0 1, .rs 1024 0 0 0 1, .rs 1028 0 0 0 1],false,none⟩),(1020,⟨0,[],false,none⟩),(1024,⟨0,[],false,none⟩),(1028,⟨0,[],false,none⟩)],1042⟩) mixed Tryz.call126 Tryz.func126 runBody rfl (tyC.1 _ _ _ (by cbv)) (tyC.2 _ _ (by cbv)) runD (Nat.le_of_ble_eq_true rfl) rfl (preC (s1:=⟨[(1, .v (.sl [])),(2, .v (.s [])),(4, .p 1000 0 0),(7, .p 1001 0 0),(8, .p 1002 0 0),(9, .p 1003 0 0),(10, .p 1004 0 0)],[(1000,⟨0,[.v (.sl []), .v (.sl [])],false,none⟩),(1001,⟨0,[.v (.sl (vs.map .s)), .v (.s sd), .v (.i .i64 a)],false,none⟩),(1002,⟨0,[.sn, .sn, .sn, .sn],false,some 121⟩),(1003,⟨0,[.sn, .v (.s []), .v (.i .i64 0)],false,some 35⟩),(1004,⟨0,[.v (.i .i64 0)],false,some 46⟩)],1005⟩) ?_ (preC (s1:=⟨[(1, .v (.sl [])),(2, .v (.s [])),(4, .p 1000 0 0),(7, .p 1001 0 0),(8, .p 1002 0 0),(9, .p 1003 0 0),(10, .p 1004 0 0),(11, .v (.sl []))],[(1000,⟨0,[.v (.sl []), .v (.sl [])],false,none⟩),(1001,⟨0,[.v (.sl (vs.map .s)), .v (.s sd), .v (.i .i64 a)],false,none⟩),(1002,⟨0,[.sn, .sn, .sn, .sn],false,some 121⟩),(1003,⟨0,[.sn, .v (.s []), .v (.i .i64 0)],false,some 35⟩),(1004,⟨0,[.v (.i .i64 0)],false,some 46⟩)],1009⟩) ?_ (preC (s1:=⟨[(1, .v (.sl [])),(2, .v (.s [])),(4, .p 1000 0 0),(7, .p 1001 0 0),(8, .p 1002 0 0),(9, .p 1003 0 0),(10, .p 1004 0 0),(11, .v (.sl [])),(12, .p 1014 0 0)],[(1000,⟨0,[.v (.sl []), .v (.sl [])],false,none⟩),(1001,⟨0,[.v (.sl (vs.map .s)), .v (.s sd), .v (.i .i64 a)],false,none⟩),(1002,⟨0,[.sn, .sn, .sn, .sn],false,some 121⟩),(1003,⟨0,[.sn, .v (.s []), .v (.i .i64 0)],false,some 35⟩),(1004,⟨0,[.v (.i .i64 0)],false,some 46⟩),(1014,⟨0,[.v (.sl []), .v (.sl []), .v (.s []), .v (.sl (vs.map .s)), .v (.s sd), .v (.i .i64 a), .sn, .sn, .sn, .sn],false,none⟩)],1016⟩) ?_ ?_))) (CW.start ?_)
 ·simp only[List.mapIdx_cons,List.mapIdx_nil];repeat' first|simp only[go_sem,seval]|refine sB ?_|(first|apply pX|apply bX)<;>intro hc|refine⟨oD,?_⟩|exact oD|fail
  exact lE
 ·repeat' first|simp only[go_sem,seval]|refine sB ?_|(first|apply pX|apply bX)<;>intro hc|refine⟨oD,?_⟩|exact oD|fail
  exact lE
 ·repeat' first|simp only[go_sem,seval]|refine cP ho ?_|refine sB ?_|(first|apply pX|apply bX)<;>intro hc|refine⟨oD,?_⟩|exact oD|fail
  exact lE
 ·refine preC (s1:=⟨[(1, .v (.sl [])),(8, .p 1002 0 0),(9, .p 1003 0 0),(10, .p 1004 0 0),(11, .v (.sl [])),(12, .p 1014 0 0)],[(1002,⟨0,[.sn, .sn, .sn, .sn],false,some 121⟩),(1003,⟨0,[.sn, .v (.s []), .v (.i .i64 0)],false,some 35⟩),(1004,⟨0,[.v (.i .i64 0)],false,some 46⟩),(1014,⟨0,[.v (.sl []), .v (.sl []), .v (.s []), .v (.sl (vs.map .s)), .v (.s sd), .v (.i .i64 a), .v (.sl []), .rs 1020 0 0 0 1, .rs 1024 0 0 0 1, .rs 1028 0 0 0 1],false,none⟩),(1020,⟨0,[],false,none⟩),(1024,⟨0,[],false,none⟩),(1028,⟨0,[],false,none⟩)],1033⟩) ?_ (preC ?_ (.nil _))
  ·repeat' first|simp only[go_sem,seval]|refine sB ?_|(first|apply pX|apply bX)<;>intro hc|refine⟨oD,?_⟩|exact oD|fail
   exact lE
  ·repeat' first|simp only[go_sem,seval]|refine sB ?_|(first|apply pX|apply bX)<;>intro hc|refine⟨oD,?_⟩|exact oD|fail
   exact lE
 ·repeat' first|simp only[go_sem,seval]|(refine loop_unroll' ?_)|refine cP hc ?_|refine sB ?_|(first|apply pX|apply bX)<;>intro hc|refine⟨oD,?_⟩|exact oD|fail
  all_goals rfl
theorem bnats_ok (l:List Bytes) (hl:l.length<1000000):EvP Tryz.prog 137 [.sl (l.map .s)] (.b (l.all validN)):=by
 have h1: ∀x,EvP Tryz.prog 255 [PV.s x] (.b (!validN x)):=fun x=>by
  have hv:=natValid x;generalize validN x=b at*;refine eW Tryz.call255 Tryz.func255 ?_;repeat' first|simp only[go_sem,seval]|refine cP hv ?_|refine sB ?_|(first|apply pX|apply bX)<;>intro hc|refine⟨oD,?_⟩|exact oD|fail
 have hc:=ContainsFuncNN_ok l _ _ (by omega) h1
 rw[any_not]at hc;generalize l.all validN=b at*;refine eW Tryz.call137 Tryz.func137 ?_;repeat' first|simp only[go_sem,seval,Bool.not_not]|refine cP hc ?_|refine sB ?_|(first|apply pX|apply bX)<;>intro hc|refine⟨oD,?_⟩|exact oD|fail
theorem goodTape_ok (vs:List Bytes) (sd:Bytes) (a:Int) (hl:vs.length<1000000):EvP Tryz.prog 124 [T vs sd a] (.b (goodT vs a)):=by
 have h:=bnats_ok vs hl;unfold goodT;rw[any_not,Bool.not_not];generalize vs.all validN=b at*;refine eW Tryz.call124 Tryz.func124 ?_;repeat' first|simp only[go_sem,seval]|refine cP h ?_|refine sB ?_|(first|apply pX|apply bX)<;>intro hc|refine⟨oD,?_⟩|exact oD|fail
 all_goals simp_all
 all_goals (intros;omega)
theorem lists0:EvP Tryz.prog 123 [.sl []] (.b true):=by
 have hi:EvP Tryz.prog 222 [.sl [], .fn (.func 232)] (E (-1)):=by
  refine eW Tryz.call222 Tryz.func222 ?_;repeat' first|simp only[go_sem,seval]|(refine loop_unroll' ?_)|refine sB ?_|(first|apply pX|apply bX)<;>intro hc|refine⟨oD,?_⟩|exact oD|fail
 have h:EvP Tryz.prog 111 [.sl [], .fn (.func 232)] (.b false):=by
  refine eW Tryz.call111 Tryz.func111 ?_;repeat' first|simp only[go_sem,seval]|refine cP hi ?_|refine sB ?_|(first|apply pX|apply bX)<;>intro hc|refine⟨oD,?_⟩|exact oD|fail
 refine eW Tryz.call123 Tryz.func123 ?_;repeat' first|simp only[go_sem,seval]|refine cP h ?_|refine sB ?_|(first|apply pX|apply bX)<;>intro hc|refine⟨oD,?_⟩|exact oD|fail
theorem truth0:EvP Tryz.prog 226 [F0, .sl []] (.sl []):=by
 refine eW Tryz.call226 Tryz.func226 ?_;repeat' first|simp only[go_sem,seval]|(refine loop_unroll' ?_)|refine sB ?_|(first|apply pX|apply bX)<;>intro hc|refine⟨oD,?_⟩|exact oD|fail
theorem Truth0:EvP Tryz.prog 119 [F0, .sl []] (.tup [.sl [],E 0]):=by
 refine eW Tryz.call119 Tryz.func119 ?_;repeat' first|simp only[go_sem,seval]|refine cP fCheck0 ?_|refine cP truth0 ?_|refine sB ?_|(first|apply pX|apply bX)<;>intro hc|refine⟨oD,?_⟩|exact oD|fail
theorem Honest0:EvP Tryz.prog 234 [F0, .sl []] (.tup [.sl [],E 0]):=by
 refine eW Tryz.call234 Tryz.func234 ?_;repeat' first|simp only[go_sem,seval]|refine cP Truth0 ?_|refine sB ?_|(first|apply pX|apply bX)<;>intro hc|refine⟨oD,?_⟩|exact oD|fail
theorem honest0:EvP Tryz.prog 125 [C0, .sl []] (.tup [.sl [],E 0]):=by
 refine eW Tryz.call125 Tryz.func125 ?_;repeat' first|simp only[go_sem,seval]|(refine loop_unroll' ?_)|(refine CR_give [1011] Honest0 rfl rfl rfl ?_)|refine sB ?_|(first|apply pX|apply bX)<;>intro hc|refine⟨oD,?_⟩|exact oD|fail
abbrev BS0:PV:= .agg [.sl [], .sl [], .sl [], .sl []]
theorem Commit0 {vs:List Bytes} {a:Int} (sd:Bytes) (hg:goodT vs a=true) (hl:vs.length<1000000):EvP Tryz.prog 56 [C0, .sl [],T vs sd a] (.tup [BS0,T vs sd a,E 0]):=by
 have h:=goodTape_ok vs sd a hl;rw[hg]at h;have hr:=run0_ok vs sd a hl;refine eW Tryz.call56 Tryz.func56 ?_;repeat' first|simp only[go_sem,seval]|refine cP bCheck0 ?_|refine cP lists0 ?_|refine cP h ?_|refine cP honest0 ?_|refine cP hr ?_|refine sB ?_|(first|apply pX|apply bX)<;>intro hc|refine⟨oD,?_⟩|exact oD|fail
 all_goals rfl
theorem wit1_ok (x:Bool×Bytes):EvP Tryz.prog 108 [ipv x] (.b (!izok x)):=by
 obtain⟨n,a⟩:=x;have hv:=iValid_ok n a;have e:izok (n,a)=(validN a&& !(n&&a==[])):=rfl;rw[e];generalize (validN a&& !(n&&a==[]))=b at*;simp only[ipv];refine eW Tryz.call108 Tryz.func108 ?_;repeat' first|simp only[go_sem,seval]|refine cP hv ?_|refine sB ?_|(first|apply pX|apply bX)<;>intro hc|refine⟨oD,?_⟩|exact oD|fail
theorem wit3_ok (b:Bytes):EvP Tryz.prog 114 [vpv b] (.s b):=by
 unfold vpv;refine eW Tryz.call114 Tryz.func114 ?_;repeat' first|simp only[go_sem,seval]|refine sB ?_|(first|apply pX|apply bX)<;>intro hc|refine⟨oD,?_⟩|exact oD|fail
theorem wit4_ok (m:Bytes):EvP Tryz.prog 115 [.sl [G m []], .fn (.func 116)] (E (-1)):=by
 have h:EvP Tryz.prog 116 [G m []] (.b false):=by
  refine eW Tryz.call116 Tryz.func116 ?_;repeat' first|simp only[go_sem,seval]|refine sB ?_|(first|apply pX|apply bX)<;>intro hc|refine⟨oD,?_⟩|exact oD|fail
  all_goals rfl
 refine eW Tryz.call115 Tryz.func115 ?_;repeat' first|simp only[go_sem,seval]|refine sB ?_|(first|apply pX|apply bX)<;>intro hc|refine⟨oD,?_⟩|exact oD|fail
 refine loop_unroll' ?_;repeat' first|simp only[go_sem,seval]|refine cP h ?_|refine sB ?_|(first|apply pX|apply bX)<;>intro hc|refine⟨oD,?_⟩|exact oD|fail
 refine loop_unroll' ?_;repeat' first|simp only[go_sem,seval]|refine sB ?_|(first|apply pX|apply bX)<;>intro hc|refine⟨oD,?_⟩|exact oD|fail
theorem ManyG {vs:List Bytes} (sd:Bytes) {a:Int} (hl:vs.length<1000000):EvP Tryz.prog 113 [T vs sd a, .s [1],E 0] (if goodT vs a then .tup [.sl [],T vs sd a,E 0]else .tup [.sl [],T [] [] 0,E 3]):=by
 have h1:=ready_ok vs sd a [1] (by omega)
 have e:readyE vs a [1]=if goodT vs a then 0 else 3:=by unfold readyE;cases goodT vs a<;>rfl
 rw[e]at h1;generalize goodT vs a=b at*;cases b
 ·refine eW Tryz.call113 Tryz.func113 ?_;repeat' first|simp only[go_sem,seval]|refine cP h1 ?_|refine sB ?_|(first|apply pX|apply bX)<;>intro hc|refine⟨oD,?_⟩|exact oD|fail
  all_goals rfl
 ·refine eW Tryz.call113 Tryz.func113 ?_;repeat' first|simp only[go_sem,seval]|refine cP h1 ?_|(refine loop_unroll' ?_)|refine sB ?_|(first|apply pX|apply bX)<;>intro hc|refine⟨oD,?_⟩|exact oD|fail
  all_goals rfl
noncomputable def witE (s:Stm) (w:List (Bool×Bytes)) (vs:List Bytes) (a:Int):Int:=if !(w.all izok)then 3 else if !goodT vs a then 3 else if w.length≠s.vars.length then 6 else if !inW s.vars w then 2 else if !holdB s w then 18 else 0
theorem witness_ok {c sl:Bytes} {s:Stm} (hs:StOK s) (h00:s.eqs≠[]) (ho:OneS s) {m:Bytes} (hg1:s.groups=[(m,[])]) {w:List (Bool×Bytes)} (hw6:w.length<1000000) {vs:List Bytes} (sd:Bytes) {a:Int} (hl:vs.length<1000000):EvP Tryz.prog 54 [X0 c sl s, .sl (w.map ipv), .sl [],T vs sd a] (E (witE s w vs a)):=by
 have v1:=ContainsFuncI_ok w _ _ (by omega) wit1_ok
 rw[any_not]at v1;have v2:=ContainsFuncL_ok [] 112 [.pt (.agg [.fn (.func 108)]) 0] (fun _=>true) (by decide) (fun x hx=>by cases hx)
 have v3:=ManyG sd (a:=a) hl;have v4:=wit4_ok m;rw[show(([]:List (List (Bool×Bytes))).any fun _=>true)=false from rfl]at v2
 have nv:=hs.nv;have hb:=hs.v;have hh:=linHolds_ok hs h00 ho (w:=w);obtain⟨gs,us,es⟩:=s;simp only at hg1 nv hb hh;subst hg1;have l2:(us.map vpv).length=us.length:=List.length_map ..;have l5:(w.map ipv).length=w.length:=List.length_map ..;unfold witE;simp only[X0,Stm.pv,List.map_cons,List.map_nil,gpv]at hh v2⊢;clear ho h00 hs
 by_cases h1:w.all izok=true
 ·rw[h1]at v1⊢;have hall:=List.all_eq_true.1 h1;simp only[Bool.not_true,Bool.false_eq_true,if_false]at v1⊢
  cases hg:goodT vs a with
  |false=>
   rw[hg]at v3;simp only[Bool.not_false,if_true];refine eW Tryz.call54 Tryz.func54 ?_;repeat' first|simp only[go_sem,seval,viewN]|refine cP v1 ?_|refine cV v2 ?_|refine cP v3 ?_|refine cP Of1 ?_|refine sB ?_|(first|apply pX|apply bX)<;>intro hc|refine⟨oD,?_⟩|exact oD|fail
   all_goals rfl
  |true=>
   rw[hg]at v3;simp only[Bool.not_true,Bool.false_eq_true,if_false]
   by_cases hwl:w.length=us.length
   ·rw[if_neg (by simpa using hwl)]
    have hh:=hh hwl hall;have hI: ∀ _:True,((w.length:Int) !=us.length)=false:=fun _=>by rw[hwl];simp
    refine eW Tryz.call54 Tryz.func54 ?_;repeat' first|simp only[go_sem,seval,viewN,l2,l5,hI trivial]|refine cP v1 ?_|refine cV v2 ?_|refine cP v3 ?_|refine cP Of1 ?_|refine cP v4 ?_|refine sB ?_|(first|apply pX|apply bX)<;>intro hc|refine⟨oD,?_⟩|exact oD|fail
    refine loop_run (α:=Nat) (fun i=>us.length-i) (fun i=>⟨[(1, .v (.sl (w.map ipv))),(2, .v (.sl [])),(4, .p 1000 0 0),(13, .v (.fn (.func 114))),(76, .v (.sl (us.map vpv))),(77,E' us.length),(78,E' i)],[(1000,⟨0,[.v (.s c), .v (.s sl), .v (.sl [G m []]), .v (.sl (us.map vpv)), .v (.sl (es.map Eqn.pv)), .v (.sl []), .v (.sl []), .v (.s [])],false,none⟩)],_⟩) (fun i=>i≤us.length∧ ∀j,j<i→num (w.getD j d0I).2<num (us.getD j [])) 0 (fun _=>Nat.le_refl _) ⟨Nat.zero_le _,fun j hj=>by omega⟩ ?_ ?_
    ·exact lE
    ·rintro i ⟨hi,hlts⟩ R hR;clear v1 v2 v3 v4 h1
     by_cases hlt:i<us.length
     ·have e1:=getD_map vpv us [] hlt;have e2:=getD_map ipv w d0I (i:=i) (by omega)
      obtain⟨b1,b2,-⟩:=hb _ (mem_getD [] hlt);have kw:=hall _ (mem_getD d0I (show i<w.length by omega))
      have hgo:=fun h=>hR (i+1) ⟨by omega,h⟩ (by omega)
      have hbad:=fun h: ¬num (w.getD i d0I).2<num (us.getD i [])=>all_bad (p:=fun i=>decide (num (w.getD i d0I).2<num (us.getD i []))) hlt (decide_eq_false h)
      have hnx:num (w.getD i d0I).2<num (us.getD i [])→ ∀j,j<i+1→num (w.getD j d0I).2<num (us.getD j []):=fun h j hj=>by
       by_cases hji:j<i
       ·exact hlts j hji
       ·obtain rfl:j=i:=by omega
        exact h
      rw[←inW]at hbad;clear hR hlts hall hh;generalize us.getD i []=b at*;obtain⟨x,hx⟩: ∃x,x=w.getD i d0I:=⟨_,rfl⟩;rw[←hx]at e2 kw hbad hnx;clear hx;obtain⟨n,y⟩:=x;simp only[izok,Bool.and_eq_true]at kw hbad hnx;have hc:=cmpVV kw.1 b1;have hd: ∀ _:True,decide (cmpN (num y) (num b)≥0)= !decide (num y<num b):=fun _=>geD _ _
      have hbb:(b==[])=false:=by simpa using b2
      have h3:=wit3_ok b;simp only[vpv]at e1 h3;simp only[ipv]at e2;generalize cmpN (num y) (num b)=cm at*
      by_cases hlt2:num y<num b
      ·have hgo:=hgo (hnx hlt2);rw[decide_eq_true hlt2]at hd;repeat' first|simp only[go_sem,seval,l2,l5,e1,e2,hbb,hd trivial,Bool.not_true]|refine cP h3 ?_|refine cP hc ?_|refine sB ?_|(first|apply pX|apply bX)<;>intro hc|refine⟨oD,?_⟩|exact oD|fail
       refine hgo _ ?_;exact lE
      ·rw[hbad hlt2];simp only[Bool.not_false,if_true];rw[decide_eq_false hlt2]at hd;repeat' first|simp only[go_sem,seval,l2,l5,e1,e2,hbb,hd trivial,Bool.not_false]|refine cP h3 ?_|refine cP hc ?_|refine sB ?_|(first|apply pX|apply bX)<;>intro hc|refine⟨oD,?_⟩|exact oD|fail
       all_goals rfl
     ·obtain rfl:i=us.length:=by omega
      have hg:inW us w=true:=all_good fun j hj=>decide_eq_true (hlts j hj)
      rw[hg,Bool.true_and]at hh;rw[hg];simp only[Bool.not_true,Bool.false_eq_true,if_false];clear hR hlts hall hb
      cases hq:holdB ⟨[(m,[])],us,es⟩ w with
      |true=>
       rw[hq]at hh;repeat' first|simp only[go_sem,seval]|refine cP hh ?_|refine cP Truth0 ?_|(refine loop_unroll' ?_)|refine sB ?_|(first|apply pX|apply bX)<;>intro hc|refine⟨oD,?_⟩|exact oD|fail
       all_goals rfl
      |false=>
       rw[hq]at hh;repeat' first|simp only[go_sem,seval]|refine cP hh ?_|refine cP Truth0 ?_|(refine loop_unroll' ?_)|refine sB ?_|(first|apply pX|apply bX)<;>intro hc|refine⟨oD,?_⟩|exact oD|fail
       all_goals rfl
   ·rw[if_pos hwl];have e6:((w.length:Int) !=us.length)=true:=by rw[bne_iff_ne];omega
    refine eW Tryz.call54 Tryz.func54 ?_;repeat' first|simp only[go_sem,seval,viewN,l2,l5,e6]|refine cP v1 ?_|refine cV v2 ?_|refine cP v3 ?_|refine cP Of1 ?_|refine sB ?_|(first|apply pX|apply bX)<;>intro hc|refine⟨oD,?_⟩|exact oD|fail
    all_goals rfl
 ·have h1:w.all izok=false:=Bool.eq_false_iff.2 h1;rw[h1]at v1⊢;simp only[Bool.not_false,if_true]at v1⊢;refine eW Tryz.call54 Tryz.func54 ?_;repeat' first|simp only[go_sem,seval,viewN]|refine cP v1 ?_|refine cV v2 ?_|refine sB ?_|(first|apply pX|apply bX)<;>intro hc|refine⟨oD,?_⟩|exact oD|fail
  all_goals rfl
def prvP (vs:List Bytes) (sd:Bytes):Except Int (Bytes×List Int×Nat)→PV
 | .ok (ch,rs,j)=> .tup [.agg [.s ch, .sl (rs.map Zp), .sl [], .sl []],T vs sd j,E 0]
 | .error e=> .tup [.agg [.s [], .sl [], .sl [], .sl []],T [] [] 0,E e]
noncomputable def prvG (c sl ctx:Bytes) (s:Stm) (w:List Int) (vs:List Bytes) (sd:Bytes) (a:Int):Except Int (Bytes×List Int×Nat):=
 if witE s (w.map ipz) vs a≠0 then .error (witE s (w.map ipz) vs a)else tryG c sl ctx s w vs sd 64 a.toNat
theorem witE_ok {s:Stm} {w:List (Bool×Bytes)} {vs:List Bytes} {a:Int} (h:witE s w vs a=0):w.all izok=true∧goodT vs a=true∧w.length=s.vars.length∧inW s.vars w=true:=by
 unfold witE at h
 split at h
 ·cases h
 ·rename_i h1
  split at h
  ·cases h
  ·rename_i h2
   split at h
   ·cases h
   ·rename_i h3
    split at h
    ·cases h
    ·rename_i h4;exact⟨by simpa using h1,by simpa using h2,by simpa using h3,by simpa using h4⟩
theorem Prove22_ok {c sl:Bytes} (hr:RuOK c sl) {s:Stm} (hs:StOK s) (h0:s.vars≠[]) (h00:s.eqs≠[]) (ho:OneS s) (hbd:BdS s) {m:Bytes} (hg1:s.groups=[(m,[])]) (hmI: ∀w,∀x∈imgL s w,x.length≤8∧validN x=true) {ctx:Bytes} (hx:ctx.length≤100000) {w:List Int} (hw6:w.length<1000000) {vs:List Bytes} {sd:Bytes} {a:Int} (hl:vs.length<1000000) (hsd:sd.length<1000000):
  EvP Tryz.prog 22 [.agg [.s c, .s sl], .s ctx,s.pv, .sl (w.map Zp),C0, .sl [],T vs sd a] (prvP vs sd (prvG c sl ctx s w vs sd a)):=by
 have hn:=newSetting_ok hr hs h0;have hZ: ∀l:List Int,(l.map ipz).map ipv=l.map Zp:=fun l=>by rw[List.map_map];rfl
 have hwt:=witness_ok (c:=c) (sl:=sl) hs h00 ho hg1 (w:=w.map ipz) (by rw[List.length_map];exact hw6) sd (a:=a) hl
 rw[hZ]at hwt;unfold prvG
 by_cases he:witE s (w.map ipz) vs a=0
 ·rw[if_neg (by simpa using he)]
  rw[he]at hwt;obtain⟨f1,f2,f3,f4⟩:=witE_ok he;obtain⟨g1,g2,g3⟩:=goodT_ok f2;rw[List.length_map]at f3;obtain⟨i0,rfl⟩: ∃i:Nat,a=i:=⟨a.toNat,by omega⟩
  rw[Int.toNat_natCast];have hCo:=fun(i:Nat) (hi:i≤2147483647)=>Commit16_ok hr hs h0 h00 ho (vs:=vs) (sd:=sd) (i:=i) g1 hi hl hsd
  have hRe:=fun(ms:List Int) (ch:Nat)=>Respond16_ok hr hs h0 (w:=w) (ms:=ms) (ch:=ch) f3
  have hMf:=fun(i:Nat) (hi:i≤2147483647) (ms:List Int)=>maskG_facts hr hs.v (sd:=sd) (i:=i) g1 hi hl (ms:=ms)
  have hCh:=fun(fs:List Bytes)=>challenge_ok hr hbd hx (fs:=fs)
  have hB:=fun(i:Nat) (hi:i≤2147483647)=>Commit0 (vs:=vs) (a:=i) sd (goodT_of g1 hi) hl
  have hii: ∀ms:List Int,imgL s (ms.map ipz)≠[]∧(imgL s (ms.map ipz)).length≤900:=fun ms=>by
   have:=imgL_len s (ms.map ipz);have ne:=hs.ne;exact⟨fun h=>h00 (List.length_eq_zero_iff.1 (by rw[←this,h];rfl)),by omega⟩
  obtain⟨R0,hR0⟩: ∃R0,R0=tryG c sl ctx s w vs sd 64 i0:=⟨_,rfl⟩;rw[←hR0];obtain⟨gs,us,es⟩:=s;simp only[X0,Stm.pv]at hn hwt hCo hRe hCh hMf hg1⊢;subst hg1;simp only[List.map_cons,List.map_nil,gpv]at hn hwt hCo hRe hCh⊢;refine eW Tryz.call22 Tryz.func22 ?_;repeat' first|simp only[go_sem,seval]|refine cP hn ?_|refine cP hwt ?_|refine sB ?_|(first|apply pX|apply bX)<;>intro hc|refine⟨oD,?_⟩|exact oD|fail
  refine loop_run (α:=Nat×Nat) (fun p=>64-p.1) (fun p=>⟨[(1, .v (.s ctx)),(3, .v (.sl (w.map Zp))),(5, .v (.sl [])),(7, .p 1000 0 0),(9, .p 1001 0 0),(11, .p 1002 0 0),(13, .p 1003 0 0),(14, .p 1004 0 0),(15, .p 1005 0 0),(17, .p 1014 0 0),(50,E' p.1)],[(1000,⟨0,[.v (.s c), .v (.s sl)],false,none⟩),(1001,⟨0,[.v (.sl [G m []]), .v (.sl (us.map vpv)), .v (.sl (es.map Eqn.pv))],false,none⟩),(1002,⟨0,[.v (.sl []), .v (.sl [])],false,none⟩),(1003,⟨0,[.v (.sl (vs.map .s)), .v (.s sd), .v (.i .i64 ((p.2:Nat):Int))],false,none⟩),(1004,⟨0,[.v (.s []), .sn, .sn, .sn],false,some 45⟩),(1005,⟨0,[.sn, .v (.s []), .v (.i .i64 0)],false,some 35⟩),(1014,⟨0,[.v (.s c), .v (.s sl), .v (.sl [G m []]), .v (.sl (us.map vpv)), .v (.sl (es.map Eqn.pv)), .v (.sl []), .v (.sl []), .v (.s [])],false,some 112⟩)],1028⟩) (fun p=>p.1≤64∧p.2≤2147483647∧R0=tryG c sl ctx ⟨[(m,[])],us,es⟩ w vs sd (64-p.1) p.2) (0,i0) (fun _=>Nat.le_of_ble_eq_true rfl) ⟨Nat.zero_le _,by omega,hR0⟩ ?_ ?_
  ·exact lE
  ·clear hn hwt hR0 he f2;rintro⟨k,i⟩ ⟨hk,hi,hR0⟩ R hR;simp only at hk hi hR0
   by_cases hlt:k<64
   ·obtain⟨q,hq⟩: ∃q,64-k=q+1:=⟨63-k,by omega⟩
    rw[hq,tryG]at hR0;have hCo:=hCo i hi
    cases hM:maskG vs sd (us.map (limM c sl)) i []with
    |error e=>
     simp only[hM]at hR0 hCo;subst hR0;have he:(e !=0)=true:=by rcases maskG_err hM with rfl|rfl<;>rfl
     simp only[commP]at hCo;clear hR;repeat' first|simp only[go_sem,seval,he]|refine cP hCo ?_|refine sB ?_|(first|apply pX|apply bX)<;>intro hc|refine⟨oD,?_⟩|exact oD|fail
     all_goals rfl
    |ok ms=>
     simp only[hM]at hR0 hCo;simp only[commP]at hCo;obtain⟨m1,m2,m3,m4⟩:=hMf i hi ms hM;have hii:=hii ms;have hCh:=hCh (imgL ⟨[(m,[])],us,es⟩ (ms.map ipz)) hii.1 hii.2 (fun x hx=>by have:=(hmI _ x hx).1;omega)
     have hlc:=trChal_lt (fsS ctx ⟨[(m,[])],us,es⟩ (imgL ⟨[(m,[])],us,es⟩ (ms.map ipz))) hr.c2;have hRe:=hRe ms _ m1 hlc f4 (List.all_eq_true.1 f1) m4 m2;generalize trChal (fsS ctx ⟨[(m,[])],us,es⟩ (imgL ⟨[(m,[])],us,es⟩ (ms.map ipz))) c=z at*;have hB:=hB (i+us.length) m3;generalize imgL ⟨[(m,[])],us,es⟩ (ms.map ipz)=L at*;unfold respP at hRe
     by_cases hin:inR c sl us (respZ ms w z)=true
     ·rw[if_pos hin]at hR0 hRe;subst hR0;generalize respZ ms w z=rs at*;clear hR hMf m2 m4 hmI hM f1 f4;repeat' first|simp only[go_sem,seval]|refine cP hCo ?_|refine cP hB ?_|refine cP hCh ?_|refine cP hRe ?_|refine sB ?_|(first|apply pX|apply bX)<;>intro hc|refine⟨oD,?_⟩|exact oD|fail
      all_goals rfl
     ·rw[if_neg hin]at hR0 hRe;have hgo:=hR (k+1,i+us.length) ⟨by omega,m3,by rw[show 64-(k+1)=q by omega];exact hR0⟩ (by simp only;omega)
      clear hR hMf m2 m4 hmI hM f1 f4;repeat' first|simp only[go_sem,seval]|refine cP hCo ?_|refine cP hB ?_|refine cP hCh ?_|refine cP hRe ?_|refine sB ?_|(first|apply pX|apply bX)<;>intro hc|refine⟨oD,?_⟩|exact oD|fail
      refine hgo _ ?_;exact lE
   ·obtain rfl:k=64:=by omega
    simp only[Nat.sub_self,tryG]at hR0;subst hR0;clear hR hRe hCh hCo hMf hB;repeat' first|simp only[go_sem,seval]|refine sB ?_|(first|apply pX|apply bX)<;>intro hc|refine⟨oD,?_⟩|exact oD|fail
    all_goals rfl
 ·rw[if_pos he];have hb:(witE s (w.map ipz) vs a==0)=false:=by simpa using he
  have hb2:(witE s (w.map ipz) vs a !=0)=true:=by simpa using he
  generalize witE s (w.map ipz) vs a=e at*;obtain⟨gs,us,es⟩:=s;simp only[X0,Stm.pv]at hn hwt⊢;refine eW Tryz.call22 Tryz.func22 ?_;repeat' first|simp only[go_sem,seval,hb,hb2]|refine cP hn ?_|refine cP hwt ?_|refine sB ?_|(first|apply pX|apply bX)<;>intro hc|refine⟨oD,?_⟩|exact oD|fail
  all_goals rfl




end Go.Proofs.YtmledjfbgjnknaaGreatDoor
namespace Go.Proofs.YtmledjfbgjnknaaGreatDoor
open Go Go.Dom
set_option maxRecDepth 100000
set_option maxHeartbeats 16000000


end Go.Proofs.YtmledjfbgjnknaaGreatDoor
namespace Go.Proofs.YtmledjfbgjnknaaGreatDoor
open Go Go.Dom Go.Num
set_option maxRecDepth 100000
set_option maxHeartbeats 16000000

end Go.Proofs.YtmledjfbgjnknaaGreatDoor
