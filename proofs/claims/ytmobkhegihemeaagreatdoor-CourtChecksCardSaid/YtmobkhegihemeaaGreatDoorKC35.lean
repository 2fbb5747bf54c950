/-
  Part of the proof, part KC35. Own work.
-/
import Derived.WideLaws
import Derived.Tactics
import Derived.Tactics2
import Derived.Test.YtmobkhegihemeaaGreatDoorKC34
set_option linter.all false
namespace Go.Proofs.YtmobkhegihemeaaGreatDoor
open Go Go.Dom
set_option maxRecDepth 100000
set_option maxHeartbeats 16000000
theorem mq:eQ eg 2:=⟨fun _=>rfl,fun x y hy=>by obtain⟨n,a⟩:=x;simp[eg,PV.cells]at hy;rcases hy with rfl|rfl<;>rfl,fun h=>by omega,fun _ x=>rfl⟩
theorem ED:aD Tryz.prog 57 [.sl []] (.sl []):=by
 refine eW Tryz.call57 Tryz.func57 ?_;repeat' first|simp only[go_sem,seval]|refine sB ?_|(first|apply pX|apply bX)<;>intro hc|refine⟨oD,?_⟩|exact oD|fail
theorem Gl {l:List (Bool×Bytes)} (h0:l≠[]) (hl:l.length<1000000):aD Tryz.prog 295 [.sl (l.map eg)] (.sl (l.map eg)):=by
 obtain⟨x,r,rfl⟩: ∃x r,l=x::r:=by cases l with
  |nil=>exact absurd rfl h0
  |cons a b=>exact⟨a,b,rfl⟩
 rw[ba];have k1:(eg x::r.map eg)=(x::r).map eg:=rfl;have k0:(r.map eg).length=r.length:=aH ..;refine eW Tryz.call295 Tryz.func295 ?_;repeat' first|simp only[go_sem,seval,k0]|refine sB ?_|(first|apply pX|apply bX)<;>intro hc|refine⟨oD,?_⟩|exact oD|fail
 have hrow:List.map AV.v ((eg x).cells++List.flatMap PV.cells (List.map eg r))=bJ eg (x::r):=by
  rw[bJ,dE,ug]
 have hL:((eg x).cells++List.flatMap PV.cells (List.map eg r)).length=(r.length+1)*2:=by
  have:=dI mq (x::r);rw[←hrow,aH]at this;exact this
 have q1:List.take ((r.length+1)*2) (bJ eg (x::r))=bJ eg (x::r):=dT mq (x::r);have q2:=fx mq (x::r);have q3:chunk 2 (r.length+1) ((x::r).flatMap fun x=>(eg x).cells)=(x::r).map eg:=dL mq (x::r)
 have q4: ∀y∈bJ eg (x::r),y.one=true:=fun y hy=>bc.1 q2 y hy
 rw[hrow];refine⟨⟨⟨mq.len x,fun y hy=>by obtain⟨z,-,rfl⟩:=a5.1 hy;exact mq.len z⟩,q4,by simp at hl;omega,by simp at hl;omega⟩,?_⟩
 simp only[hL,q1,q2,q3,fy,au,and_self,if_true,Option.map_some];exact⟨trivial,rfl⟩
def X0 (c sl:Bytes) (s:dy):PV:= .agg [.s c, .s sl, .sl (s.groups.map gG), .sl (s.vars.map dC), .sl (s.eqs.map eE.pv), .sl [], .sl [], .s []]
def jh (c:Bytes) (nv:Nat) (ch:Bytes) (rs:List (Bool×Bytes)) (gs:List Bytes) (ls:List (List (Bool×Bytes))):Int:=
 if !(aa ch&&rs.all db&&ls.all (fun l=>l.all db)&&gs.all aa)then 3 else if rs.length≠nv∨gs≠[]∨ls≠[]then 6 else if num c≤num ch then 2 else 0
def HU (ch:Bytes) (rs:List (Bool×Bytes)) (gs:List Bytes) (ls:List (List (Bool×Bytes))):PV:= .agg [.s ch, .sl (rs.map eg), .sl (gs.map .s), .sl (ls.map Fy)]
theorem zw {c sl:Bytes} (vc:aa c=true) (s:dy) (ch:Bytes) (rs:List (Bool×Bytes)) (gs:List Bytes) (ls:List (List (Bool×Bytes))) (h1:rs.length<1000000) (h2:gs.length≤1000) (h3:ls.length≤1000) (h4: ∀l∈ls,l.length<4611686018427387904):aD Tryz.prog 292 [X0 c sl s,HU ch rs gs ls] (E (jh c s.vars.length ch rs gs ls)):=by
 have v1:=aM ch;have v2:=BG rs (by omega)
 have v3:=mC ls 345 [Ts] (fun l=> !l.all db) (by omega) fun l hl=>BG l (h4 l hl)
 rw[lr]at v3;have v4:=lh gs _ _ (by omega) JB
 rw[lr]at v4;have v5:=U3 347 [.pt (X0 c sl s) 0];obtain⟨gq,vs,es⟩:=s;unfold Fy at v2;simp only[X0,HU,jh]at v5⊢;have l1:(rs.map eg).length=rs.length:=aH ..;have l2:(vs.map dC).length=vs.length:=aH ..;have l3:(gs.map PV.s).length=gs.length:=aH ..;have l4:(ls.map Fy).length=ls.length:=aH ..
 by_cases hok:(aa ch&&rs.all db&&ls.all (fun l=>l.all db)&&gs.all aa)=true
 ·rw[hok];simp only[aZ]at hok;obtain⟨⟨⟨o1,o2⟩,o3⟩,o4⟩:=hok;rw[o1]at v1;rw[o2]at v2;rw[o3]at v3;rw[o4]at v4
  by_cases hm:rs.length≠vs.length∨gs≠[]∨ls≠[]
  ·simp only[bu,aW,if_false,if_pos hm];have hm':rs.length≠vs.length∨(rs.length=vs.length∧gs.length≠0)∨(rs.length=vs.length∧gs.length=0∧ls.length≠0):=by
    rcases hm with h|h|h
    ·exact .inl h
    ·have:gs.length≠0:=fun h0=>h (jz.1 h0)
     omega
    ·have:ls.length≠0:=fun h0=>h (jz.1 h0)
     omega
   clear hm v5 o2 o3 o4 h4;rcases hm' with h|⟨h,h'⟩|⟨h,h',h''⟩
   all_goals (
   refine eW Tryz.call292 Tryz.func292 ?_;repeat' first|simp only[go_sem,seval,aN,l1,l2,l3,l4]|refine cP v1 ?_|refine cV v2 ?_|refine cV v3 ?_|refine cP v4 ?_|refine sB ?_|(first|apply pX|apply bX)<;>intro hc|refine⟨oD,?_⟩|exact oD|fail
   try trivial)
   all_goals fail "a"
  ·simp only[bu,aW,if_false,if_neg hm];have hm':rs.length=vs.length∧gs=[]∧ls=[]:=by
    refine⟨rB fun h=>hm (.inl h),rB fun h=>hm (.inr (.inl h)),rB fun h=>hm (.inr (.inr h))⟩
   obtain⟨e1,e2,e3⟩:=hm';subst e2;subst e3;have cm:=qj o1 vc;simp only[bG]at v3 v4;clear hm h4
   by_cases hge:num c≤num ch
   ·rw[if_pos hge];have h7: ∀ _:True,(0:Int)≤a6 (num ch) (num c):=fun _=>jJ.2 hge
    have h5: ∀ _:True,decide (a6 (num ch) (num c)≥0)=true:=fun _=>decide_eq_true (h7 trivial)
    generalize a6 (num ch) (num c)=z at*;refine eW Tryz.call292 Tryz.func292 ?_;repeat' first|simp only[go_sem,seval,aN,l1,l2,h5 trivial]|refine cP v1 ?_|refine cV v2 ?_|refine cV v3 ?_|refine cP v4 ?_|refine cP cm ?_|(refine ae ?_)|refine sB ?_|(first|apply pX|apply bX)<;>intro hc|refine⟨oD,?_⟩|exact oD|fail
   ·rw[if_neg hge];have h7: ∀ _:True,¬(0:Int)≤a6 (num ch) (num c):=fun _ h=>hge (jJ.1 h)
    have h5: ∀ _:True,decide (a6 (num ch) (num c)≥0)=false:=fun _=>decide_eq_false (h7 trivial)
    generalize a6 (num ch) (num c)=z at*;refine eW Tryz.call292 Tryz.func292 ?_;repeat' first|simp only[go_sem,seval,aN,l1,l2,h5 trivial]|refine cP v1 ?_|refine cV v2 ?_|refine cV v3 ?_|refine cP v4 ?_|refine cP cm ?_|refine cV v5 ?_|(refine ae ?_)|refine sB ?_|(first|apply pX|apply bX)<;>intro hc|refine⟨oD,?_⟩|exact oD|fail
 ·have hf:(aa ch&&rs.all db&&ls.all (fun l=>l.all db)&&gs.all aa)=false:=by simpa using hok
  rw[hf];simp only[bR,if_true];clear hok v5 h4;generalize aa ch=b1 at*;generalize rs.all db=b2 at*;generalize (ls.all fun l=>l.all db)=b3 at*
  generalize gs.all aa=b4 at*;cases b1
  ·refine eW Tryz.call292 Tryz.func292 ?_;repeat' first|simp only[go_sem,seval,aN,l1,l2,l3,l4]|refine cP v1 ?_|refine cV v2 ?_|refine cV v3 ?_|refine cP v4 ?_|refine sB ?_|(first|apply pX|apply bX)<;>intro hc|refine⟨oD,?_⟩|exact oD|fail
  ·cases b2
   ·refine eW Tryz.call292 Tryz.func292 ?_;repeat' first|simp only[go_sem,seval,aN,l1,l2,l3,l4]|refine cP v1 ?_|refine cV v2 ?_|refine cV v3 ?_|refine cP v4 ?_|refine sB ?_|(first|apply pX|apply bX)<;>intro hc|refine⟨oD,?_⟩|exact oD|fail
   ·cases b3
    ·refine eW Tryz.call292 Tryz.func292 ?_;repeat' first|simp only[go_sem,seval,aN,l1,l2,l3,l4]|refine cP v1 ?_|refine cV v2 ?_|refine cV v3 ?_|refine cP v4 ?_|refine sB ?_|(first|apply pX|apply bX)<;>intro hc|refine⟨oD,?_⟩|exact oD|fail
    ·cases b4
     ·refine eW Tryz.call292 Tryz.func292 ?_;repeat' first|simp only[go_sem,seval,aN,l1,l2,l3,l4]|refine cP v1 ?_|refine cV v2 ?_|refine cV v3 ?_|refine cP v4 ?_|refine sB ?_|(first|apply pX|apply bX)<;>intro hc|refine⟨oD,?_⟩|exact oD|fail
     ·exact absurd hf (by simp)
end Go.Proofs.YtmobkhegihemeaaGreatDoor
namespace Go.Proofs.YtmobkhegihemeaaGreatDoor
open Go Go.Dom Go.Num
set_option maxRecDepth 100000
set_option maxHeartbeats 16000000
theorem Gm (l:List Bytes) (hl:l.length<1000000):aD Tryz.prog 57 [.sl (l.map .s)] (.sl (l.map .s)):=by
 cases l with
 |nil=>exact ED
 |cons x r=>
  rw[ba];have k1:(PV.s x::r.map .s)=(x::r).map .s:=rfl;have k0:(r.map PV.s).length=r.length:=aH ..;refine eW Tryz.call57 Tryz.func57 ?_;repeat' first|simp only[go_sem,seval,k0]|refine sB ?_|(first|apply pX|apply bX)<;>intro hc|refine⟨oD,?_⟩|exact oD|fail
  obtain⟨-,r2,r3,-⟩:=Om r;obtain⟨-,-,-,r4⟩:=Om (x::r);rw[vH];refine⟨⟨fun x hx=>y9 hx,fun x hx=>bc.1 r2 x hx,by simp at hl;omega,by simp at hl;omega⟩,?_⟩
  simp only[aH,au,r3,r2,eF,and_self,if_true,Option.map_some];exact⟨trivial,congrArg PV.sl r4⟩
theorem Oq (v1 v2 v3:Value) (w:World):CallsD Tryz.prog 265 #[v1,v2,v3] .returning w fun e u' w'=>e= .returned (.tuple #[])∧u'= .returning∧w'=w:=by
 refine callsD_of_wpS Tryz.func265 rfl fun c₀ cs hu=> ?_
 apply wpS_seq;apply wpS_region;simp[wpOpsS,go_sem,recoverD,hu,Tryz.ntmps265,Exit.thenS];apply wpS_seq;apply wpS_region;simp[wpOpsS,go_sem,Exit.thenS];refine wpS_cond (t:=false) (by simp[Act.eval,Array.replicate]) ?_
 simp only[aW,if_false];refine wpS_of_wp (wp_skip ?_);cases c₀;simp_all[bodyPostS,results,Tryz.results265]
noncomputable abbrev pI:Code:=Tryz.f187.body.getD .skip
theorem V5 (a:Act) (w:World) (Q:Exit→Act→World→Prop) (hd:a.defers=[]) (hs:a.tmps.size=Tryz.f187.ntmps) (hQ: ∀a' d,a'.tmps.size=Tryz.f187.ntmps→(∀k,k≠56→a'.tmps.getD k undef=a.tmps.getD k undef)→a'.defers=[d]→Idle Tryz.prog d→Q .normal a' w):(rR (Da 5 pI)).wp Tryz.prog Q a w:=by
 have hmf: ∀(fn:Fn) (first cap:Array Value) (w:World),(Instr.makeFunc fn first cap).run Tryz.prog w= .ok (.func fn first cap) w:=fun _ _ _ _=>rfl
 show(Code.region 6 _ false).wp Tryz.prog Q a w;apply wp_region;simp[wpOps,go_sem,hd];have h10:56<a.tmps.size:=by rw[hs,Tryz.ntmps187];decide
 refine .inl ?_;refine .inl ?_;rw[if_pos h10];refine hQ {tmps:=a.tmps.setIfInBounds 56 (.func (.func 265) #[] #[a.tmps[8]?.getD undef,a.tmps[9]?.getD undef,a.tmps[10]?.getD undef]),defers:=[⟨.fn (.func 265) #[a.tmps[8]?.getD undef,a.tmps[9]?.getD undef,a.tmps[10]?.getD undef], #[]⟩]} ⟨.fn (.func 265) #[a.tmps[8]?.getD undef,a.tmps[9]?.getD undef,a.tmps[10]?.getD undef], #[]⟩ ?_ ?_ ?_ ⟨.func 265, #[a.tmps[8]?.getD undef,a.tmps[9]?.getD undef,a.tmps[10]?.getD undef],265, #[a.tmps[8]?.getD undef,a.tmps[9]?.getD undef,a.tmps[10]?.getD undef],rfl,fun w=>⟨?_,Oq _ _ _ w⟩⟩
 ·simp[hs]
 ·intro k hk;simp[uh (l7 hk)]
 ·rfl
 ·simp[invoke,go_sem]
theorem Oo:Tryz.f187.body=some (OC [rR (Da 0 pI),rR (Da 1 pI),rR (Da 2 pI),rR (Da 3 pI),rR (Da 4 pI)] (.seq (rR (Da 5 pI)) (Da 6 pI))):=by kernel_rfl
theorem KC {nt:Nat} {c:Code} {sc:SC} {r:List Code} {s s1 s2:AS} (h:CW Tryz.prog (fun e x=>e= .normal∧s1.Le x) sc [] s) (hr:Qd Tryz.prog nt r s1 s2) (hc:lB Tryz.prog SE nt c=some sc:=by cbv) (hng:sc.dG=true:=by exact rfl):Qd Tryz.prog nt (c::r) s s2:= .cons (iL.1 _ _ _ hc) hng (CW.start h) hr
theorem On (vs:List Bytes) (sd:Bytes) (a:Int) (hl:vs.length<1000000):aD Tryz.prog 187 [C0, .sl [], .s [],T vs sd a] (.tup [.agg [.sl [], .sl [], .sl [], .sl []],T vs sd a,E 0]):=by
 have hc:=Gm vs hl;have ho:aD Tryz.prog 201 [C0] (.s []):=by
  refine eW Tryz.call201 Tryz.func201 ?_;repeat' first|simp only[go_sem,seval]|(refine ae ?_)|refine sB ?_|(first|apply pX|apply bX)<;>intro hc|refine⟨oD,?_⟩|exact oD|fail
 refine aD.Ki (sl:=56) (pre:=[rR (Da 0 pI),rR (Da 1 pI),rR (Da 2 pI),rR (Da 3 pI),rR (Da 4 pI)]) (cD:=rR (Da 5 pI)) (c2:=Da 6 pI) (s2:=⟨[(1, .v (.sl [])),(8, .p 1002 0 0),(9, .p 1003 0 0),(10, .p 1004 0 0),(11, .v (.sl [])),(12, .p 1014 0 0)],[(1002,⟨0,[.sn, .sn, .sn, .sn],false,some 172⟩),(1003,⟨0,[.sn, .v (.s []), .v (.i .i64 0)],false,some 40⟩),(1004,⟨0,[.v (.i .i64 0)],false,some 32⟩),(1014,⟨0,[.v (.sl []), .v (.sl []), .v (.s []), .v (.sl (vs.map .s)), .v (.s sd), .v (.i .i64 a), .v (.sl []), .rs 1020 0 0 0 1, .rs 1024 0 0 0 1, .rs 1028 0 0 0 1],false,none⟩),(1020,⟨0,[],false,none⟩),(1024,⟨0,[],false,none⟩),(1028,⟨0,[],false,none⟩)],1042⟩) mixed Tryz.call187 Tryz.func187 Oo rfl (iL.1 _ _ _ (by cbv)) (iL.2 _ _ (by cbv)) V5 (bQ rfl) rfl (KC (s1:=⟨[(1, .v (.sl [])),(2, .v (.s [])),(4, .p 1000 0 0),(7, .p 1001 0 0),(8, .p 1002 0 0),(9, .p 1003 0 0),(10, .p 1004 0 0)],[(1000,⟨0,[.v (.sl []), .v (.sl [])],false,none⟩),(1001,⟨0,[.v (.sl (vs.map .s)), .v (.s sd), .v (.i .i64 a)],false,none⟩),(1002,⟨0,[.sn, .sn, .sn, .sn],false,some 172⟩),(1003,⟨0,[.sn, .v (.s []), .v (.i .i64 0)],false,some 40⟩),(1004,⟨0,[.v (.i .i64 0)],false,some 32⟩)],1005⟩) ?_ (KC (s1:=⟨[(1, .v (.sl [])),(2, .v (.s [])),(4, .p 1000 0 0),(7, .p 1001 0 0),(8, .p 1002 0 0),(9, .p 1003 0 0),(10, .p 1004 0 0),(11, .v (.sl []))],[(1000,⟨0,[.v (.sl []), .v (.sl [])],false,none⟩),(1001,⟨0,[.v (.sl (vs.map .s)), .v (.s sd), .v (.i .i64 a)],false,none⟩),(1002,⟨0,[.sn, .sn, .sn, .sn],false,some 172⟩),(1003,⟨0,[.sn, .v (.s []), .v (.i .i64 0)],false,some 40⟩),(1004,⟨0,[.v (.i .i64 0)],false,some 32⟩)],1009⟩) ?_ (KC (s1:=⟨[(1, .v (.sl [])),(2, .v (.s [])),(4, .p 1000 0 0),(7, .p 1001 0 0),(8, .p 1002 0 0),(9, .p 1003 0 0),(10, .p 1004 0 0),(11, .v (.sl [])),(12, .p 1014 0 0)],[(1000,⟨0,[.v (.sl []), .v (.sl [])],false,none⟩),(1001,⟨0,[.v (.sl (vs.map .s)), .v (.s sd), .v (.i .i64 a)],false,none⟩),(1002,⟨0,[.sn, .sn, .sn, .sn],false,some 172⟩),(1003,⟨0,[.sn, .v (.s []), .v (.i .i64 0)],false,some 40⟩),(1004,⟨0,[.v (.i .i64 0)],false,some 32⟩),(1014,⟨0,[.v (.sl []), .v (.sl []), .v (.s []), .v (.sl (vs.map .s)), .v (.s sd), .v (.i .i64 a), .sn, .sn, .sn, .sn],false,none⟩)],1016⟩) ?_ ?_))) (CW.start ?_)
 ·simp only[l8,List.mapIdx_nil];repeat' first|simp only[go_sem,seval]|refine sB ?_|(first|apply pX|apply bX)<;>intro hc|refine⟨oD,?_⟩|exact oD|fail
  exact lE
 ·repeat' first|simp only[go_sem,seval]|refine sB ?_|(first|apply pX|apply bX)<;>intro hc|refine⟨oD,?_⟩|exact oD|fail
  exact lE
 ·repeat' first|simp only[go_sem,seval]|refine cP ho ?_|refine sB ?_|(first|apply pX|apply bX)<;>intro hc|refine⟨oD,?_⟩|exact oD|fail
  exact lE
 ·refine KC (s1:=⟨[(1, .v (.sl [])),(8, .p 1002 0 0),(9, .p 1003 0 0),(10, .p 1004 0 0),(11, .v (.sl [])),(12, .p 1014 0 0)],[(1002,⟨0,[.sn, .sn, .sn, .sn],false,some 172⟩),(1003,⟨0,[.sn, .v (.s []), .v (.i .i64 0)],false,some 40⟩),(1004,⟨0,[.v (.i .i64 0)],false,some 32⟩),(1014,⟨0,[.v (.sl []), .v (.sl []), .v (.s []), .v (.sl (vs.map .s)), .v (.s sd), .v (.i .i64 a), .v (.sl []), .rs 1020 0 0 0 1, .rs 1024 0 0 0 1, .rs 1028 0 0 0 1],false,none⟩),(1020,⟨0,[],false,none⟩),(1024,⟨0,[],false,none⟩),(1028,⟨0,[],false,none⟩)],1033⟩) ?_ (KC ?_ (.nil _))
  ·repeat' first|simp only[go_sem,seval]|refine sB ?_|(first|apply pX|apply bX)<;>intro hc|refine⟨oD,?_⟩|exact oD|fail
   exact lE
  ·repeat' first|simp only[go_sem,seval]|refine sB ?_|(first|apply pX|apply bX)<;>intro hc|refine⟨oD,?_⟩|exact oD|fail
   exact lE
 ·repeat' first|simp only[go_sem,seval]|(refine ae ?_)|refine cP hc ?_|refine sB ?_|(first|apply pX|apply bX)<;>intro hc|refine⟨oD,?_⟩|exact oD|fail
  all_goals rfl
theorem IZ (l:List Bytes) (hl:l.length<1000000):aD Tryz.prog 198 [.sl (l.map .s)] (.b (l.all aa)):=by
 have h1: ∀x,aD Tryz.prog 283 [PV.s x] (.b (!aa x)):=fun x=>by
  have hv:=aM x;generalize aa x=b at*;refine eW Tryz.call283 Tryz.func283 ?_;repeat' first|simp only[go_sem,seval]|refine cP hv ?_|refine sB ?_|(first|apply pX|apply bX)<;>intro hc|refine⟨oD,?_⟩|exact oD|fail
 have hc:=lh l _ _ (by omega) h1
 rw[lr]at hc;generalize l.all aa=b at*;refine eW Tryz.call198 Tryz.func198 ?_;repeat' first|simp only[go_sem,seval,ui]|refine cP hc ?_|refine sB ?_|(first|apply pX|apply bX)<;>intro hc|refine⟨oD,?_⟩|exact oD|fail
theorem BL (vs:List Bytes) (sd:Bytes) (a:Int) (hl:vs.length<1000000):aD Tryz.prog 185 [T vs sd a] (.b (eU vs a)):=by
 have h:=IZ vs hl;unfold eU;rw[lr,ui];generalize vs.all aa=b at*;refine eW Tryz.call185 Tryz.func185 ?_;repeat' first|simp only[go_sem,seval]|refine cP h ?_|refine sB ?_|(first|apply pX|apply bX)<;>intro hc|refine⟨oD,?_⟩|exact oD|fail
 all_goals simp_all
 all_goals (intros;omega)
theorem Rg:aD Tryz.prog 184 [.sl []] (.b true):=by
 have hi:aD Tryz.prog 252 [.sl [], .fn (.func 262)] (E (-1)):=by
  refine eW Tryz.call252 Tryz.func252 ?_;repeat' first|simp only[go_sem,seval]|(refine ae ?_)|refine sB ?_|(first|apply pX|apply bX)<;>intro hc|refine⟨oD,?_⟩|exact oD|fail
 have h:aD Tryz.prog 173 [.sl [], .fn (.func 262)] (.b false):=by
  refine eW Tryz.call173 Tryz.func173 ?_;repeat' first|simp only[go_sem,seval]|refine cP hi ?_|refine sB ?_|(first|apply pX|apply bX)<;>intro hc|refine⟨oD,?_⟩|exact oD|fail
 refine eW Tryz.call184 Tryz.func184 ?_;repeat' first|simp only[go_sem,seval]|refine cP h ?_|refine sB ?_|(first|apply pX|apply bX)<;>intro hc|refine⟨oD,?_⟩|exact oD|fail
theorem SD:aD Tryz.prog 256 [F0, .sl []] (.sl []):=by
 refine eW Tryz.call256 Tryz.func256 ?_;repeat' first|simp only[go_sem,seval]|(refine ae ?_)|refine sB ?_|(first|apply pX|apply bX)<;>intro hc|refine⟨oD,?_⟩|exact oD|fail
theorem uU:aD Tryz.prog 180 [F0, .sl []] (.tup [.sl [],E 0]):=by
 refine eW Tryz.call180 Tryz.func180 ?_;repeat' first|simp only[go_sem,seval]|refine cP Ff ?_|refine cP SD ?_|refine sB ?_|(first|apply pX|apply bX)<;>intro hc|refine⟨oD,?_⟩|exact oD|fail
theorem LX:aD Tryz.prog 264 [F0, .sl []] (.tup [.sl [],E 0]):=by
 refine eW Tryz.call264 Tryz.func264 ?_;repeat' first|simp only[go_sem,seval]|refine cP uU ?_|refine sB ?_|(first|apply pX|apply bX)<;>intro hc|refine⟨oD,?_⟩|exact oD|fail
theorem Nq:aD Tryz.prog 186 [C0, .sl []] (.tup [.sl [],E 0]):=by
 refine eW Tryz.call186 Tryz.func186 ?_;repeat' first|simp only[go_sem,seval]|(refine ae ?_)|(refine mS [1011] LX rfl rfl rfl ?_)|refine sB ?_|(first|apply pX|apply bX)<;>intro hc|refine⟨oD,?_⟩|exact oD|fail
abbrev WI:PV:= .agg [.sl [], .sl [], .sl [], .sl []]
theorem LV {vs:List Bytes} {a:Int} (sd:Bytes) (hg:eU vs a=true) (hl:vs.length<1000000):aD Tryz.prog 117 [C0, .sl [],T vs sd a] (.tup [WI,T vs sd a,E 0]):=by
 have h:=BL vs sd a hl;rw[hg]at h;have hr:=On vs sd a hl;refine eW Tryz.call117 Tryz.func117 ?_;repeat' first|simp only[go_sem,seval]|refine cP EM ?_|refine cP Rg ?_|refine cP h ?_|refine cP Nq ?_|refine cP hr ?_|refine sB ?_|(first|apply pX|apply bX)<;>intro hc|refine⟨oD,?_⟩|exact oD|fail
 all_goals rfl
theorem OP (x:Bool×Bytes):aD Tryz.prog 170 [eg x] (.b (!db x)):=by
 obtain⟨n,a⟩:=x;have hv:=fJ n a;have e:db (n,a)=(aa a&& !(n&&a==[])):=rfl;rw[e];generalize (aa a&& !(n&&a==[]))=b at*;simp only[eg];refine eW Tryz.call170 Tryz.func170 ?_;repeat' first|simp only[go_sem,seval]|refine cP hv ?_|refine sB ?_|(first|apply pX|apply bX)<;>intro hc|refine⟨oD,?_⟩|exact oD|fail
theorem OQ (b:Bytes):aD Tryz.prog 175 [dC b] (.s b):=by
 unfold dC;refine eW Tryz.call175 Tryz.func175 ?_;repeat' first|simp only[go_sem,seval]|refine sB ?_|(first|apply pX|apply bX)<;>intro hc|refine⟨oD,?_⟩|exact oD|fail
theorem OS (m:Bytes):aD Tryz.prog 176 [.sl [G m []], .fn (.func 177)] (E (-1)):=by
 have h:aD Tryz.prog 177 [G m []] (.b false):=by
  refine eW Tryz.call177 Tryz.func177 ?_;repeat' first|simp only[go_sem,seval]|refine sB ?_|(first|apply pX|apply bX)<;>intro hc|refine⟨oD,?_⟩|exact oD|fail
  all_goals rfl
 refine eW Tryz.call176 Tryz.func176 ?_;repeat' first|simp only[go_sem,seval]|refine sB ?_|(first|apply pX|apply bX)<;>intro hc|refine⟨oD,?_⟩|exact oD|fail
 refine ae ?_;repeat' first|simp only[go_sem,seval]|refine cP h ?_|refine sB ?_|(first|apply pX|apply bX)<;>intro hc|refine⟨oD,?_⟩|exact oD|fail
 refine ae ?_;repeat' first|simp only[go_sem,seval]|refine sB ?_|(first|apply pX|apply bX)<;>intro hc|refine⟨oD,?_⟩|exact oD|fail
theorem EI {vs:List Bytes} (sd:Bytes) {a:Int} (hl:vs.length<1000000):aD Tryz.prog 92 [T vs sd a, .s [1],E 0] (if eU vs a then .tup [.sl [],T vs sd a,E 0]else .tup [.sl [],T [] [] 0,E 3]):=by
 have h1:=qI vs sd a [1] (by omega)
 have e:sF vs a [1]=if eU vs a then 0 else 3:=by unfold sF;cases eU vs a<;>rfl
 rw[e]at h1;generalize eU vs a=b at*;cases b
 ·refine eW Tryz.call92 Tryz.func92 ?_;repeat' first|simp only[go_sem,seval]|refine cP h1 ?_|refine sB ?_|(first|apply pX|apply bX)<;>intro hc|refine⟨oD,?_⟩|exact oD|fail
  all_goals rfl
 ·refine eW Tryz.call92 Tryz.func92 ?_;repeat' first|simp only[go_sem,seval]|refine cP h1 ?_|(refine ae ?_)|refine sB ?_|(first|apply pX|apply bX)<;>intro hc|refine⟨oD,?_⟩|exact oD|fail
  all_goals rfl
end Go.Proofs.YtmobkhegihemeaaGreatDoor
namespace Go.Proofs.YtmobkhegihemeaaGreatDoor
open Go Go.Dom
set_option maxRecDepth 100000
set_option maxHeartbeats 16000000
abbrev Wg:PV:= .agg [.sl [], .s [], .sl []]
abbrev B0:PV:= .agg [.sl [], .sl []]
theorem Hr {c sl:Bytes} (hr:pW c sl) {s:dy} {ch:Bytes} {rs:List (Bool×Bytes)} {gs:List Bytes} {ls:List (List (Bool×Bytes))} (h1:rs.length<1000000) (h2:gs.length≤1000) (h3:ls.length≤1000) (h4: ∀l∈ls,l.length<4611686018427387904) (hf:jh c s.vars.length ch rs gs ls≠0):
  aD Tryz.prog 206 [X0 c sl s,HU ch rs gs ls] (.tup [Wg,B0,E (jh c s.vars.length ch rs gs ls)]):=by
 have hfo:=zw (c:=c) (sl:=sl) hr.vc s ch rs gs ls h1 h2 h3 h4;have hb:(jh c s.vars.length ch rs gs ls==0)=false:=by simpa using hf
 generalize jh c s.vars.length ch rs gs ls=e at*;obtain⟨gq,vs,es⟩:=s;simp only[X0,HU]at hfo⊢;refine eW Tryz.call206 Tryz.func206 ?_;repeat' first|simp only[go_sem,seval,hb]|refine cP hfo ?_|refine sB ?_|(first|apply pX|apply bX)<;>intro hc|refine⟨oD,?_⟩|exact oD|fail
 all_goals skip
abbrev Cv:Bytes:=[100,111,109,105,110,111,32,112,114,111,111,102]
abbrev Ee:Bytes:=[99,111,110,116,101,120,116]
abbrev Ot:Bytes:=[102,111,114,109,117,108,97]
abbrev St:Bytes:=[102,105,114,115,116]
def Fj (ctx:Bytes) (s:dy) (fs:List Bytes):Bytes:=jt (ji (pY (ji (qQ Cv) Ee ctx) s) Ot []) St fs
theorem Df {c sl:Bytes} (s:dy) (x:PV) (n:Bytes):aD Tryz.prog 207 [X0 c sl s,B0, .s n] (.b true):=by
 obtain⟨gq,vs,es⟩:=s;simp only[X0];refine eW Tryz.call207 Tryz.func207 ?_;repeat' first|simp only[go_sem,seval]|refine sB ?_|(first|apply pX|apply bX)<;>intro hc|refine⟨oD,?_⟩|exact oD|fail
noncomputable def tw (s:dy) (ch:Bytes) (rs:List (Bool×Bytes)):List Bytes:=s.eqs.map fun q=>aP (mw s.groups ch rs q)
theorem G4 {c:Bytes} {nv:Nat} {ch:Bytes} {rs:List (Bool×Bytes)} {gs:List Bytes} {ls:List (List (Bool×Bytes))} (h:jh c nv ch rs gs ls=0):gs=[]∧ls=[]:=by
 unfold jh at h
 split at h
 ·exact absurd h (by decide)
 ·split at h
  ·exact absurd h (by decide)
  ·rename_i hm;exact⟨rB fun h=>hm (.inr (.inl h)),rB fun h=>hm (.inr (.inr h))⟩
end Go.Proofs.YtmobkhegihemeaaGreatDoor
namespace Go.Proofs.YtmobkhegihemeaaGreatDoor
open Go Go.Dom Go.Num
set_option maxRecDepth 100000
def xo (vs:List Bytes) (sd:Bytes) (i M:Nat):Except Int Int:=
 match gT vs sd i (aP (2*M-1))with
 | .error e=> .error e
 | .ok x=> .ok ((num x:Int)-(M-1:Nat))
theorem yX (st:Bytes) {c:Bytes} (h:2≤num c):kj st c<num c:=aG _ (by omega)
theorem OA {f:Nat→Bytes} {n:Nat} {x:Bytes}: ∀{k a:Nat},CB f n a k=some x→num x<n∧ ∃b,x=f b:=by
 intro k
 induction k with
 |zero=>intro a h;cases h
 |succ k ih=>
  intro a h;rw[CB]at h
  split at h
  ·rename_i hlt;injection h with h
   subst h;exact⟨hlt,a,rfl⟩
  ·exact ih h
theorem gU {vs:List Bytes} {sd:Bytes} {i:Nat} {n x:Bytes} (hv:vs.all aa=true) (hn:aa n=true) (hl:vs.length<1000000) (hi:i≤2147483647) (h:gT vs sd i n= .ok x):aa x=true∧num x<num n∧i+1≤2147483647:=by
 unfold gT at h
 split at h
 ·rename_i hiv
  split at h
  ·cases h
  ·rename_i hlt;injection h with h
   subst h;exact⟨bc.1 hv _ (BJ hiv),by omega,by omega⟩
 ·split at h
  ·cases h
  ·rename_i hs;have hi2:i≠2147483647:=fun e=>hs (.inr e)
   split at h
   ·rename_i y hy;injection h with h
    subst h;obtain⟨h1,b,hb⟩:=OA hy;exact⟨by rw[hb];exact uW sd i b (Bk hn),h1,by omega⟩
   ·cases h
theorem Lf {vs:List Bytes} {sd:Bytes} {i M:Nat} {z:Int} (hv:vs.all aa=true) (h1:1≤M) (h2:2*M<du) (hl:vs.length<1000000) (hi:i≤2147483647) (h:xo vs sd i M= .ok z):z.natAbs<M∧i+1≤2147483647:=by
 unfold xo at h
 split at h
 ·cases h
 ·rename_i x hx;obtain⟨-,h3,h4⟩:=gU hv (vB (by omega)) hl hi hx
  rw[aK]at h3;injection h with h
  subst h;exact⟨by omega,h4⟩
theorem mH {vs:List Bytes} {sd:Bytes} {i:Nat} {n:Bytes} {e:Int} (h:gT vs sd i n= .error e):e=2∨e=14:=by
 unfold gT at h
 split at h
 ·split at h
  ·injection h with h;exact .inl h.symm
  ·cases h
 ·split at h
  ·injection h with h;exact .inr h.symm
  ·split at h
   ·cases h
   ·injection h with h;exact .inr h.symm
theorem HT {vs:List Bytes} {sd:Bytes} {i M:Nat} {e:Int} (h:xo vs sd i M= .error e):e=2∨e=14:=by
 unfold xo at h
 split at h
 ·rename_i e' he;injection h with h
  subst h;exact mH he
 ·cases h
theorem zF {x:Bytes} (h:aa x=true):lf (num x:Int)=(false,x):=by
 have e:aP (num x)=x:=by have:=fq h;injection this
 simp[lf,zs,zb,e]
end Go.Proofs.YtmobkhegihemeaaGreatDoor
namespace Go.Proofs.YtmobkhegihemeaaGreatDoor
open Go Go.Dom Go.Num
set_option maxRecDepth 100000
set_option maxHeartbeats 16000000
def qO (vs:List Bytes) (sd:Bytes) (i:Nat):Except Int Int→PV
 | .ok z=> .tup [Z z,T vs sd (i+1:Nat),E 0]
 | .error e=> .tup [.agg [.b false, .s []],T [] [] 0,E e]
theorem x8 {vs:List Bytes} {sd:Bytes} {i M:Nat} (hv:vs.all aa=true) (hi:i≤2147483647) (hl:vs.length<1000000) (hsd:sd.length<1000000) (h1:1≤M) (h2:3*M<du):aD Tryz.prog 261 [T vs sd i,N M] (qO vs sd i (xo vs sd i M)):=by
 have hM:aP M≠[]:=by rw[ne_eq,gI];omega
 have hN:aa (aP (2*M-1))=true:=vB (by omega)
 have hr:=qI vs sd i (aP M) (by omega)
 rw[D8 hv (vB (by omega)) hM hi]at hr
 have ha:=Mg (a:=M) (b:=M) (by omega)
 have hs:=tF (a:=M) (b:=1) (by omega) (by omega)
 have ho:=tF (a:=M+M) (b:=1) (by omega) (by omega)
 have hd:=vE (sd:=sd) hv hN (by rw[aK];omega) hi hl hsd
 rw[←dY]at hs ho;rw[show M+M-1=2*M-1 by omega]at ho
 unfold xo;generalize hD:gT vs sd i (aP (2*M-1))=r at*
 cases r with
 |error e=>
  unfold nK at hd;unfold qO;rcases mH hD with rfl|rfl
  ·refine eW Tryz.call261 Tryz.func261 ?_;repeat' first|simp only[go_sem,seval]|refine cP hr ?_|refine cP ha ?_|refine cP hs ?_|refine cP ho ?_|refine cP hd ?_|refine sB ?_|(first|apply pX|apply bX)<;>intro hc|refine⟨oD,?_⟩|exact oD|fail
   all_goals rfl
  ·refine eW Tryz.call261 Tryz.func261 ?_;repeat' first|simp only[go_sem,seval]|refine cP hr ?_|refine cP ha ?_|refine cP hs ?_|refine cP ho ?_|refine cP hd ?_|refine sB ?_|(first|apply pX|apply bX)<;>intro hc|refine⟨oD,?_⟩|exact oD|fail
   all_goals rfl
 |ok x=>
  obtain⟨vx,hx,-⟩:=gU hv hN hl hi hD;rw[aK]at hx;have hz:=Pm (x:=(num x:Int)) (y:=((M-1:Nat):Int)) (by omega)
  have e1:Z (num x:Int)= .agg [.b false, .s x]:=by rw[←Nt,zF vx];rfl
  have e2:Z ((M-1:Nat):Int)= .agg [.b false,N (M-1)]:=rfl;rw[e1,e2]at hz;unfold nK at hd;unfold qO;simp only;refine eW Tryz.call261 Tryz.func261 ?_;repeat' first|simp only[go_sem,seval]|refine cP hr ?_|refine cP ha ?_|refine cP hs ?_|refine cP ho ?_|refine cP hd ?_|refine cP hz ?_|refine sB ?_|(first|apply pX|apply bX)<;>intro hc|refine⟨oD,?_⟩|exact oD|fail
  all_goals rfl
theorem C7:eQ Zp 2:=⟨fun _=>rfl,fun x y hy=>by simp[Zp,eg,lf,PV.cells]at hy;rcases hy with rfl|rfl<;>rfl,fun h=>by omega,fun _ x=>rfl⟩
def J4 (vs:List Bytes) (sd:Bytes) (j:Nat):Except Int (List Int)→PV
 | .ok ms=> .tup [.sl (ms.map Zp),T vs sd j,E 0]
 | .error e=> .tup [.sl [],T [] [] 0,E e]
theorem zK {c sl b:Bytes} (hr:pW c sl) (vb:aa b=true) (hb:b≠[]) (lb:b.length≤16):1≤we c sl b∧3*we c sl b<du:=by
 have h1:=hr.c2;have h2:=hr.s2;have h3:=zQ vb hb;unfold we;refine⟨nu (nu (by omega) (by omega)) (by omega),?_⟩
 have g1:num sl<256^8:=a9 (bV sl) (cQ (by decide) hr.ls)
 have g2:num c<256^8:=a9 (bV c) (cQ (by decide) hr.lc)
 have g3:num b<256^16:=a9 (bV b) (cQ (by decide) lb)
 have g4:num sl*num c*num b≤256^8*256^8*256^16:=jH (jH (jy g1) (jy g2)) (jy g3);exact dQ (ic 3 g4) (by unfold du;decide+kernel)
theorem Gk (ms:List Int) (z:Int):bJ Zp (ms++[z])=bJ Zp ms++[.v (.b (zs z)), .v (.s (zb z))]:=by rw[dM];rfl

def TW (vs:List Bytes) (sd:Bytes):Except Int (Bytes×List Int×Nat)→PV
 | .ok (ch,rs,j)=> .tup [.agg [.s ch, .sl (rs.map Zp), .sl [], .sl []],T vs sd j,E 0]
 | .error e=> .tup [.agg [.s [], .sl [], .sl [], .sl []],T [] [] 0,E e]





end Go.Proofs.YtmobkhegihemeaaGreatDoor
namespace Go.Proofs.YtmobkhegihemeaaGreatDoor
open Go Go.Dom
set_option maxRecDepth 100000
set_option maxHeartbeats 16000000


end Go.Proofs.YtmobkhegihemeaaGreatDoor
namespace Go.Proofs.YtmobkhegihemeaaGreatDoor
open Go Go.Dom Go.Num
set_option maxRecDepth 100000
set_option maxHeartbeats 16000000

end Go.Proofs.YtmobkhegihemeaaGreatDoor
namespace Go.Proofs.YtmobkhegihemeaaGreatDoor
open Go Go.Dom Go.Num
set_option maxRecDepth 100000
set_option maxHeartbeats 8000000

end Go.Proofs.YtmobkhegihemeaaGreatDoor
namespace Go.Proofs.YtmobkhegihemeaaGreatDoor
open Go Go.Dom Go.Num
set_option maxRecDepth 100000
set_option maxHeartbeats 16000000
abbrev Ss:ax:=⟨0,[.v (.s []), .v (.s [])],false,none⟩

def Key.rb (k:Key):List Bytes:=k.z::k.u::k.h::k.r
def Key.l (k:Key):List Bytes:=k.m::k.o::k.s::k.rb
end Go.Proofs.YtmobkhegihemeaaGreatDoor
namespace Go.Proofs.YtmobkhegihemeaaGreatDoor
open Go Go.Dom
set_option maxRecDepth 100000
set_option maxHeartbeats 16000000
def VS (k:Key):List Bytes:=k.z::k.u::k.h::k.r
structure WJ (k:Key):Prop where
 o:k.o=[]
 gd:gV k.m []=true
 s:w9 k.m [] k.s=true
 t: ∀x∈VS k,w9 k.m [] x=true
 r:k.r.length≤18
end Go.Proofs.YtmobkhegihemeaaGreatDoor
namespace Go.Proofs.YtmobkhegihemeaaGreatDoor
open Go Go.Dom Go.Num
set_option maxRecDepth 100000
set_option maxHeartbeats 16000000

structure S2 (s:dy):Prop where
 g: ∃m o,s.groups=[(m,o)]∧m.length≤1000∧o.length≤1000
 v0:s.vars≠[]
 nv:s.vars.length≤64
 v: ∀b∈s.vars,b.length≤1000
 ne:s.eqs.length≤64
 q: ∀q∈s.eqs,0≤q.lF∧q.lF<100∧q.tgt.length≤1000∧q.terms.length≤64∧ ∀t∈q.terms,0≤t.var∧t.var<100∧t.base.length≤1000∧t.abs.length≤1000
theorem u5 {l:List fR} {st:Bytes} (hs:st.length=32):(l.foldl yf st).length=32:=by
 induction l generalizing st with
 |nil=>exact hs
 |cons t l ih=>exact ih (Et _ _ _)
theorem u4 {l:List eE} {st:Bytes} (hs:st.length=32):(l.foldl yd st).length=32:=by
 induction l generalizing st with
 |nil=>exact hs
 |cons q l ih=>exact ih (u5 (iy _ _ _))
theorem S3 {st:Bytes} (hst:st.length≤1000) {s:dy} (hs:S2 s):aD Tryz.prog 190 [.s st,s.pv] (.s (pY st s)):=by
 obtain⟨⟨m,o,hg,lm,lo⟩,v0,nv,hv,ne,hq⟩:=hs;obtain⟨gs,vs,es⟩:=s;simp only at hg v0 nv hv ne hq;subst hg;obtain⟨w0,wr,hw⟩: ∃a b,vs=a::b:=by cases vs with
  |nil=>exact absurd rfl v0
  |cons a b=>exact⟨a,b,rfl⟩
 have hvl:vs.length=wr.length+1:=by rw[hw];rfl
 have hpos: ∀ _:True,(0:Int)<(vs.length:Int):=fun _=>by omega
 have g0:(vs.map dC).getD 0 .fn0= .agg [.s w0]:=by rw[hw];rfl
 simp only[pY,dE,uz,ia,dy.pv,ba,bG,gG];have n1:=oj st Cw [m,o] (by omega) (by decide) (by simp) (by simp) (by intro s hs;simp at hs;rcases hs with rfl|rfl<;>omega)
 simp only[ba,bG]at n1;have n2:=oj (jt st Cw [m,o]) F5 vs (by rw[iy];decide) (by decide) v0 (by omega) (fun x hx=>by have:=hv x hx;omega)
 have l2:=iy (jt st Cw [m,o]) F5 vs;refine eW Tryz.call190 Tryz.func190 ?_;repeat' first|simp only[go_sem,seval]|(refine ae ?_)|refine sB ?_|(first|apply pX|apply bX)<;>intro hc|refine⟨oD,?_⟩|exact oD|fail
 repeat' first|simp only[go_sem,seval,g0,hpos trivial]|refine sB ?_|(first|apply pX|apply bX)<;>intro hc|refine⟨oD,?_⟩|exact oD|fail
 have hro:[AV.v (PV.s w0)]=bJ PV.s (vs.take 1):=by rw[hw];rfl
 rw[hro];refine aj (α:=Nat) (fun j=>vs.length-j) (fun j=>⟨[(0, .v (.s st)),(3, .p 1000 0 0),(5, .rs 1019 0 0 2 1),(6, .rs 1037 j 0 (1+j) 1),(31, .v (.sl (vs.map dC))),(32,E' vs.length),(33,E' (j+1))],[(1000,⟨0,[.v (.sl [.agg [.s m, .s o]]), .v (.sl (vs.map dC)), .v (.sl (es.map eE.pv))],false,none⟩),(1019,⟨0,[.v (.s m), .v (.s o)],true,some 22⟩),(1037,⟨j,bJ PV.s (vs.take (j+1)),true,some 22⟩)],1041⟩) (fun j=>j+1≤vs.length) 0 (fun _=>bQ rfl) (by omega) ?_ ?_
 ·(refine AS.Le.of (by first|decide|omega) ?_ ?_<;>simp[cl,cj,aF,ar,AV.bd,AV.bd.bdL,u8,ah,ai,aq])
  all_goals exact fun c hc=>ey hc
 ·intro j hj R hR;have hlr:(vs.take (j+1)).length=1+j:=by rw[cG];omega
  have q0:(bJ PV.s (vs.take (j+1))).length=1+j:=by rw[dI eQ.s,hlr,dP]
  have q1:List.take (1+j) (bJ PV.s (vs.take (j+1)))=bJ PV.s (vs.take (j+1)):=bM (by omega)
  by_cases hjt:j+1<vs.length
  ·have e2:=getD_map dC vs ([]:Bytes) hjt;have hgo:=hR (j+1) (by omega) (by omega)
   rw[bj ([]:Bytes) hjt,dM]at hgo;generalize vs.getD (j+1) []=y at e2 hgo;have e2:(vs.map dC).getD (j+1) .fn0= .agg [.s y]:=e2;have e3: ∀ _:True,((j:Int)+1).toNat=j+1:=fun _=>by omega
   clear hR hlr n1 n2;repeat' first|simp only[go_sem,seval,q0,q1,e2,e3 trivial]|refine sB ?_|(first|apply pX|apply bX)<;>intro hc|refine⟨oD,?_⟩|exact oD|fail
   refine hgo _ ?_
   (refine AS.Le.of (by first|decide|omega) ?_ ?_<;>simp[cl,cj,aF,ar,AV.bd,AV.bd.bdL,u8,ah,ai,aq])
   all_goals first|omega|exact⟨rfl,fun c hc=>by rcases hc with hc|⟨a,ha,rfl⟩;exact ey hc;rfl⟩|skip
  ·have hj2:j+1=vs.length:=by omega
   rw[hj2,cM]at hlr q0 q1⊢;clear hR hpos g0 hro;repeat' first|simp only[go_sem,seval,q0,q1]|refine cV n1 ?_|(refine Ic (l:=vs) (g:=PV.s) (ver:=j) (gr:=true) (el:=some 22) n2 eQ.s rfl (by simp[ar]) hlr.symm ?_)|refine sB ?_|(first|apply pX|apply bX)<;>intro hc|refine⟨oD,?_⟩|exact oD|fail
   generalize jt (jt st Cw [m,o]) F5 vs=s0 at l2⊢;clear n1 n2;refine aj (α:=Nat) (fun i=>es.length-i) (fun i=>⟨[(0, .v (.s ((es.take i).foldl yd s0))),(50, .v (.sl (es.map eE.pv))),(51,E' es.length),(52,E' i)],[],_⟩) (fun i=>i≤es.length) 0 (fun _=>au _) (aL _) ?_ ?_
   ·(refine AS.Le.of (by first|decide|omega) ?_ ?_<;>simp[cl,cj,aF,ar,AV.bd,AV.bd.bdL,u8,ah,ai,aq])
    all_goals rfl
   ·intro i hi R hR
    by_cases hit:i<es.length
    ·have e2:=getD_map eE.pv es ku hit;have hgo:=hR (i+1) (by omega) (by omega)
     rw[vJ yd s0 ku hit]at hgo;obtain⟨g1,g2,g3,nt,ht⟩:=hq _ (ay ku hit);have hX:=u4 (l:=es.take i) l2;generalize (es.take i).foldl yd s0=X at hgo hX⊢;generalize es.getD i ku=q at*;obtain⟨lF,tgt,ts⟩:=q;simp only at g1 g2 g3 nt ht;obtain⟨n,rfl⟩: ∃n:Nat,lF=(n:Int):=⟨lF.toNat,by omega⟩
     have e2:(es.map eE.pv).getD i .fn0= .agg [.i .i64 (n:Int), .s tgt, .sl (ts.map fR.pv)]:=e2;simp only[yd,Int.toNat_natCast]at hgo;have ln:=Bu n;have l4:(ts.map fR.pv).length=ts.length:=aH ..;have c1:=y3 n (by omega)
     have c2:=tX X K3 (mW n) (by omega) (by decide) (by omega)
     have c3:=oj (ji X K3 (mW n)) Ov [tgt] (by rw[oH];decide) (by decide) (by simp) (by simp) (by simp;omega)
     have lS:=iy (ji X K3 (mW n)) Ov [tgt];generalize jt (ji X K3 (mW n)) Ov [tgt]=S0 at*;simp only[ba,bG]at c3;clear hR hq;repeat' first|simp only[go_sem,seval,e2,l4]|refine cP c1 ?_|refine cP c2 ?_|refine cP c3 ?_|refine sB ?_|(first|apply pX|apply bX)<;>intro hc|refine⟨oD,?_⟩|exact oD|fail
     refine aj (α:=Nat) (fun k=>ts.length-k) (fun k=>⟨[(0, .v (.s ((ts.take k).foldl yf S0))),(50, .v (.sl (es.map eE.pv))),(51,E' es.length),(52,E' i),(67, .v (.sl (ts.map fR.pv))),(68,E' ts.length),(69,E' k)],[],_⟩) (fun k=>k≤ts.length) 0 (fun _=>au _) (aL _) ?_ ?_
     ·(refine AS.Le.of (by first|decide|omega) ?_ ?_<;>simp[cl,cj,aF,ar,AV.bd,AV.bd.bdL,u8,ah,ai,aq])
      all_goals rfl
     ·clear c1 c2 c3 e2;intro k hk R' hR'
      by_cases hkt:k<ts.length
      ·have e3:=getD_map fR.pv ts ka hkt;have hgo':=hR' (k+1) (by omega) (by omega)
       rw[vJ yf S0 ka hkt]at hgo';obtain⟨v1,v2,lb,la⟩:=ht _ (ay ka hkt);have hY:=u5 (l:=ts.take k) lS;generalize (ts.take k).foldl yf S0=Y at hgo' hY⊢;generalize ts.getD k ka=t at*;obtain⟨base,vr,ng,ab⟩:=t;simp only at v1 v2 lb la;obtain⟨v,rfl⟩: ∃v:Nat,vr=(v:Int):=⟨vr.toNat,by omega⟩
       have e3:(ts.map fR.pv).getD k .fn0= .agg [.s base, .i .i64 (v:Int), .b ng, .s ab]:=e3;simp only[yf,Int.toNat_natCast]at hgo';have lv:=Bu v;have c4:=y3 v (by omega)
       have c5:=tX Y Ow (mW v) (by omega) (by decide) (by omega)
       have c6:=oj (ji Y Ow (mW v)) K2 [base] (by rw[oH];decide) (by decide) (by simp) (by simp) (by simp;omega)
       have c7:=Lo (jt (ji Y Ow (mW v)) K2 [base]) PB ng ab (by rw[iy];decide) (by decide) (by omega)
       simp only[ba,bG]at c6;clear hR' hgo;repeat' first|simp only[go_sem,seval,e3,l4]|refine cP c4 ?_|refine cP c5 ?_|refine cP c6 ?_|refine cP c7 ?_|refine sB ?_|(first|apply pX|apply bX)<;>intro hc|refine⟨oD,?_⟩|exact oD|fail
       refine hgo' _ ?_
       (refine AS.Le.of (by first|decide|omega) ?_ ?_<;>simp[cl,cj,aF,ar,AV.bd,AV.bd.bdL,u8,ah,ai,aq])
       all_goals first|omega|skip
      ·have h:k=ts.length:=by omega
       rw[h,cM];repeat' first|simp only[go_sem,seval,l4]|refine sB ?_|(first|apply pX|apply bX)<;>intro hc|refine⟨oD,?_⟩|exact oD|fail
       refine hgo _ ?_
       (refine AS.Le.of (by first|decide|omega) ?_ ?_<;>simp[cl,cj,aF,ar,AV.bd,AV.bd.bdL,u8,ah,ai,aq])
       all_goals first|omega|skip
    ·have h:i=es.length:=by omega
     rw[h,cM];repeat' first|simp only[go_sem,seval]|refine sB ?_|(first|apply pX|apply bX)<;>intro hc|refine⟨oD,?_⟩|exact oD|fail
theorem sZ {c sl:Bytes} {s:dy} (hp:EJ c sl s):aD Tryz.prog 114 [.agg [.s c, .s sl],s.pv,C0] (.tup [X0 c sl s,E 0]):=by
 have hb:=Cu hp;obtain⟨gs,vs,es⟩:=s;simp only[dy.pv,X0]at hb⊢;refine eW Tryz.call114 Tryz.func114 ?_;repeat' first|simp only[go_sem,seval]|refine cP hb ?_|refine cP EM ?_|refine sB ?_|(first|apply pX|apply bX)<;>intro hc|refine⟨oD,?_⟩|exact oD|fail
theorem Dr {st:Bytes} {s:dy}:(pY st s).length=32:=by
 unfold pY;exact u4 (iy _ _ _)
theorem vf {c sl:Bytes} (hr:pW c sl) {s:dy} (hb:S2 s) {ctx:Bytes} (hx:ctx.length≤100000) {fs:List Bytes} (f0:fs≠[]) (fn:fs.length≤900) (fl: ∀x∈fs,x.length≤100000):
  aD Tryz.prog 118 [X0 c sl s, .s ctx, .sl (fs.map .s), .sl []] (.tup [N (kj (Fj ctx s fs) c),E 0]):=by
 have c0:c≠[]:=by
  intro h;have:=hr.c2;rw[h]at this;exact absurd this (by decide)
 have n1:=OG Cv (by decide)
 have n2:=tX (qQ Cv) Ee ctx (by rw[H0];decide) (by decide) hx
 have n3:=S3 (st:=ji (qQ Cv) Ee ctx) (by rw[oH];decide) hb
 have n4:=tX (pY (ji (qQ Cv) Ee ctx) s) Ot [] (by rw[Dr];decide) (by decide) (by decide)
 have n5:=oj (ji (pY (ji (qQ Cv) Ee ctx) s) Ot []) St fs (by rw[oH];decide) (by decide) f0 fn fl
 have n6:=xX (Fj ctx s fs) c (by rw[Fj,iy];decide) hr.vc c0 hr.lc
 have n5:aD Tryz.prog 192 [.s (ji (pY (ji (qQ Cv) Ee ctx) s) Ot []), .s St, .sl (fs.map .s)] (.s (Fj ctx s fs)):=n5;generalize Fj ctx s fs=st5 at*;generalize pY (ji (qQ Cv) Ee ctx) s=st3 at*;obtain⟨gq,vs,es⟩:=s;simp only[X0,dy.pv]at n3⊢;refine eW Tryz.call118 Tryz.func118 ?_;repeat' first|simp only[go_sem,seval]|refine cP n1 ?_|refine cP n2 ?_|refine cP n3 ?_|refine cP n4 ?_|refine cP n5 ?_|refine cP n6 ?_|refine cP Q2 ?_|(refine ae ?_)|refine sB ?_|(first|apply pX|apply bX)<;>intro hc|refine⟨oD,?_⟩|exact oD|fail
end Go.Proofs.YtmobkhegihemeaaGreatDoor
