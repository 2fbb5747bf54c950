/- Part of the proof. -/
import Derived.Test.YtipbhapfacgabaaGreatDoorUH33
import Derived.WideLaws
import Derived.Tactics
import Derived.Tactics2
import Derived.Test.YtipbhapfacgabaaGreatDoorUH34
set_option linter.all false
set_option maxHeartbeats 16000000
set_option maxRecDepth 100000
namespace Go.Proofs.Tryz
open Go Go.Dom
variable {c ch sl:Bytes} {ls:List (List (Bool×Bytes))} {rs:List (Bool×Bytes)}
theorem uD:dq fw 2:=⟨fun _=>rfl,fun x y hy=>by obtain⟨n,a⟩:=x;simp[fw,PV.cells]at hy;rcases hy with rfl|rfl<;>rfl,fun h=>oO,fun _ x=>rfl⟩
theorem Hz:aF 69 [.sl []] (.sl []):=by
 refine eW call69 func69 ?_;exact z0
theorem Jl {l:List (Bool×Bytes)} (h0:l≠[]) (hl:l.length<1000000):aF 299 [.sl (l.map fw)] (.sl (l.map fw)):=by
 obtain⟨x,r,rfl⟩: ∃x r,l=x::r:=by cases l with
  |nil=>exact aJ rfl h0
  |cons a b=>exact⟨a,b,rfl⟩
 rw[br];have k1:(fw x::r.map fw)=(x::r).map fw:=rfl;have k0:(r.map fw).length=r.length:=aR ..;refine eW call299 func299 ?_;refine eJ @k0 ?_;have hrow:List.map AV.v ((fw x).cells++List.flatMap PV.cells (List.map fw r))=bI fw (x::r):=by
  rw[bI,fP,qt]
 have hL:((fw x).cells++List.flatMap PV.cells (List.map fw r)).length=(r.length+1)*2:=by
  have:=dw uD (x::r);rw[<-hrow,aR]at this;exact this
 have q1:List.take ((r.length+1)*2) (bI fw (x::r))=bI fw (x::r):=eD uD (x::r);have q2:=gH uD (x::r);have q3:chunk 2 (r.length+1) ((x::r).flatMap fun x=>(fw x).cells)=(x::r).map fw:=eC uD (x::r)
 have q4: ∀y∈bI fw (x::r),y.one=true:=fun y hy=>bJ.1 q2 y hy
 rw[hrow];refine⟨⟨⟨uD.len x,fun y hy=>by obtain⟨z,-,rfl⟩:=cG.1 hy;exact uD.len z⟩,q4,by simp at hl;omega,by simp at hl;omega⟩,?_⟩
 simp only[hL,q1,q2,q3,gI,aB,and_self,aA,Option.map_some];exact⟨trivial,rfl⟩
def X0 (c sl:Bytes) (s:cY):PV:= .agg [.s c, .s sl, .sl (s.groups.map gV), .sl (s.vars.map dE), .sl (s.eqs.map dS.pv), .sl [], .sl [], .s []]
def j4 (c:Bytes) (nv:Nat) (ch:Bytes) (rs:List (Bool×Bytes)) (gs:List Bytes) (ls:List (List (Bool×Bytes))):Int:=
 if !(aa ch&&rs.all dh&&ls.all (fun l=>l.all dh)&&gs.all aa)then 3 else if rs.length≠nv\/gs≠[]\/ls≠[]then 6 else if num c<=num ch then 2 else 0
def Lc (ch:Bytes) (rs:List (Bool×Bytes)) (gs:List Bytes) (ls:List (List (Bool×Bytes))):PV:= .agg [.s ch, .sl (rs.map fw), .sl (gs.map .s), .sl (ls.map Ip)]
theorem Cb (vc:aa c=true) (s:cY) (ch:Bytes) (rs:List (Bool×Bytes)) (gs:List Bytes) (ls:List (List (Bool×Bytes))) (h1:rs.length<1000000) (h2:gs.length<=1000) (h3:ls.length<=1000) (h4: ∀l∈ls,l.length<4611686018427387904):aF 296 [X0 c sl s,Lc ch rs gs ls] (E (j4 c s.vars.length ch rs gs ls)):=by
 have v1:=aD ch;have v2:=Ey rs oO;have v3:=nJ ls 346 [Xg] (fun l=> !l.all dh) oO fun l hl=>Ey l (h4 l hl)
 rw[jD]at v3;have v4:=iy gs _ _ oO MV;rw[jD]at v4;have v5:=Zd 348 [.pt (X0 c sl s) 0];obtain⟨gq,vs,es⟩:=s;unfold Ip at v2;simp only[X0,Lc,j4]at v5⊢;have l1:(rs.map fw).length=rs.length:=aR ..;have l2:(vs.map dE).length=vs.length:=aR ..;have l3:(gs.map PV.s).length=gs.length:=aR ..;have l4:(ls.map Ip).length=ls.length:=aR ..
 by_cases hok:(aa ch&&rs.all dh&&ls.all (fun l=>l.all dh)&&gs.all aa)=true
 ·rw[hok];simp only[aV]at hok;obtain⟨⟨⟨o1,o2⟩,o3⟩,o4⟩:=hok;rw[o1]at v1;rw[o2]at v2;rw[o3]at v3;rw[o4]at v4
  by_cases hm:rs.length≠vs.length\/gs≠[]\/ls≠[]
  ·simp only[cQ,bQ,ak,ah hm];have hm':rs.length≠vs.length\/(rs.length=vs.length/\gs.length≠0)\/(rs.length=vs.length/\gs.length=0/\ls.length≠0):=by
    rcases hm with h|h|h
    ·exact .inl h
    ·have:gs.length≠0:=fun h0=>h (iZ.1 h0)
     omega
    ·have:ls.length≠0:=fun h0=>h (iZ.1 h0)
     omega
   clear hm v5 o2 o3 o4 h4;rcases hm' with h|⟨h,h'⟩|⟨h,h',h''⟩
   all_goals (
   refine eW call296 func296 ?_;repeat' first|simp only[go_sem,seval,aX,l1,l2,l3,l4]|refine cP v1 ?_|refine cV v2 ?_|refine cV v3 ?_|refine cP v4 ?_|refine oE ?_|apply xX<;>intro hc
   try trivial)
   all_goals fail "a"
  ·simp only[cQ,bQ,ak,af hm];have hm':rs.length=vs.length/\gs=[]/\ls=[]:=by
    refine⟨tY fun h=>hm (.inl h),tY fun h=>hm (.inr (.inl h)),tY fun h=>hm (.inr (.inr h))⟩
   obtain⟨e1,e2,e3⟩:=hm';subst e2;subst e3;have cm:=jZ o1 vc;simp only[bH]at v3 v4;clear hm h4
   by_cases hge:num c<=num ch
   ·rw[ah hge];have h7: ∀ _:True,(0:Int)<=bK (num ch) (num c):=fun _=>mP.2 hge
    have h5: ∀ _:True,decide (bK (num ch) (num c)>=0)=true:=fun _=>aS (h7 oT)
    generalize bK (num ch) (num c)=z at*;refine eW call296 func296 ?_;repeat' first|simp only[go_sem,seval,aX,l1,l2,h5 oT]|refine cP v1 ?_|refine cV v2 ?_|refine cV v3 ?_|refine cP v4 ?_|refine cP cm ?_|(refine aj ?_)|refine oE ?_|apply xX<;>intro hc
   ·rw[af hge];have h7: ∀ _:True,¬(0:Int)<=bK (num ch) (num c):=fun _ h=>hge (mP.1 h)
    have h5: ∀ _:True,decide (bK (num ch) (num c)>=0)=false:=fun _=>b9 (h7 oT)
    generalize bK (num ch) (num c)=z at*;refine eW call296 func296 ?_;repeat' first|simp only[go_sem,seval,aX,l1,l2,h5 oT]|refine cP v1 ?_|refine cV v2 ?_|refine cV v3 ?_|refine cP v4 ?_|refine cP cm ?_|refine cV v5 ?_|(refine aj ?_)|refine oE ?_|apply xX<;>intro hc
 ·have hf:(aa ch&&rs.all dh&&ls.all (fun l=>l.all dh)&&gs.all aa)=false:=by simpa using hok
  rw[hf];simp only[db,aA];clear hok v5 h4;generalize aa ch=b1 at*;generalize rs.all dh=b2 at*;generalize (ls.all fun l=>l.all dh)=b3 at*
  generalize gs.all aa=b4 at*;cases b1
  ·refine eW call296 func296 ?_;repeat' first|simp only[go_sem,seval,aX,l1,l2,l3,l4]|refine cP v1 ?_|refine cV v2 ?_|refine cV v3 ?_|refine cP v4 ?_|refine oE ?_|apply xX<;>intro hc
  ·cases b2
   ·refine eW call296 func296 ?_;repeat' first|simp only[go_sem,seval,aX,l1,l2,l3,l4]|refine cP v1 ?_|refine cV v2 ?_|refine cV v3 ?_|refine cP v4 ?_|refine oE ?_|apply xX<;>intro hc
   ·cases b3
    ·refine eW call296 func296 ?_;repeat' first|simp only[go_sem,seval,aX,l1,l2,l3,l4]|refine cP v1 ?_|refine cV v2 ?_|refine cV v3 ?_|refine cP v4 ?_|refine oE ?_|apply xX<;>intro hc
    ·cases b4
     ·refine eW call296 func296 ?_;repeat' first|simp only[go_sem,seval,aX,l1,l2,l3,l4]|refine cP v1 ?_|refine cV v2 ?_|refine cV v3 ?_|refine cP v4 ?_|refine oE ?_|apply xX<;>intro hc
     ·exact aJ hf (by simp)
abbrev PZ0:PV:= .agg [.sl [], .s [], .sl []]
abbrev B0:PV:= .agg [.sl [], .sl []]
theorem Kv (hr:r9 c sl) {s:cY} {gs:List Bytes} (h1:rs.length<1000000) (h2:gs.length<=1000) (h3:ls.length<=1000) (h4: ∀l∈ls,l.length<4611686018427387904) (hf:j4 c s.vars.length ch rs gs ls≠0):
  aF 217 [X0 c sl s,Lc ch rs gs ls] (.tup [PZ0,B0,E (j4 c s.vars.length ch rs gs ls)]):=by
 have hfo:=Cb (c:=c) (sl:=sl) hr.vc s ch rs gs ls h1 h2 h3 h4;have hb:(j4 c s.vars.length ch rs gs ls==0)=false:=by simpa using hf
 generalize j4 c s.vars.length ch rs gs ls=e at*;obtain⟨gq,vs,es⟩:=s;simp only[X0,Lc]at hfo⊢;refine eW call217 func217 ?_;repeat' first|simp only[go_sem,seval,hb]|refine cP hfo ?_|refine oE ?_|apply xX<;>intro hc
 all_goals skip
abbrev CL:Bytes:=[100,111,109,105,110,111,32,112,114,111,111,102]
abbrev Fp:Bytes:=[99,111,110,116,101,120,116]
abbrev Ox:Bytes:=[102,111,114,109,117,108,97]
abbrev Oy:Bytes:=[102,105,114,115,116]
def J8 (ctx:Bytes) (s:cY) (fs:List Bytes):Bytes:=eF (e9 (jX (e9 (qY CL) Fp ctx) s) Ox []) Oy fs
theorem F4 (s:cY) (x:PV) (n:Bytes):aF 218 [X0 c sl s,B0, .s n] (.b true):=by
 obtain⟨gq,vs,es⟩:=s;simp only[X0];refine eW call218 func218 ?_;exact z0
noncomputable def vY (s:cY) (ch:Bytes) (rs:List (Bool×Bytes)):List Bytes:=s.eqs.map fun q=>aZ (mz s.groups ch rs q)
theorem J7 {nv:Nat} {gs:List Bytes} (h:j4 c nv ch rs gs ls=0):gs=[]/\ls=[]:=by
 unfold j4 at h
 split at h
 ·exact aJ h oC
 ·split at h
  ·exact aJ h oC
  ·rename_i hm;exact⟨tY fun h=>hm (.inr (.inl h)),tY fun h=>hm (.inr (.inr h))⟩
end Go.Proofs.Tryz
namespace Go.Proofs.Tryz
open Go Go.Dom Go.Num
variable {c sl st:Bytes}
theorem Aq (l:List Bytes) (hl:l.length<1000000):aF 69 [.sl (l.map .s)] (.sl (l.map .s)):=by
 cases l with
 |nil=>exact Hz
 |cons x r=>
  rw[br];have k1:(PV.s x::r.map .s)=(x::r).map .s:=rfl;have k0:(r.map PV.s).length=r.length:=aR ..;refine eW call69 func69 ?_;refine eJ @k0 ?_;obtain⟨-,r2,r3,-⟩:=Oq r;obtain⟨-,-,-,r4⟩:=Oq (x::r);rw[pR];refine⟨⟨fun x hx=>mO hx,fun x hx=>bJ.1 r2 x hx,by simp at hl;omega,by simp at hl;omega⟩,?_⟩
  simp only[aR,aB,r3,r2,iI,and_self,aA,Option.map_some];exact⟨trivial,congrArg PV.sl r4⟩
theorem RQ (v1 v2 v3:Value) (w:World):CallsD prog 265 #[v1,v2,v3] .returning w fun e u' w'=>e= .returned (.tuple #[])/\u'= .returning/\w'=w:=by
 refine callsD_of_wpS func265 rfl fun c₀ cs hu=> ?_
 apply wpS_seq;apply wpS_region;simp[wpOpsS,go_sem,recoverD,hu,Tryz.ntmps265,Exit.thenS];apply wpS_seq;apply wpS_region;simp[wpOpsS,go_sem,Exit.thenS];refine wpS_cond (t:=false) (by simp[Act.eval,Array.replicate]) ?_
 simp only[bQ,ak];refine wpS_of_wp (wp_skip ?_);cases c₀;simp_all[bodyPostS,results,Tryz.results265]
noncomputable abbrev rK:Code:=Tryz.f184.body.getD .skip
theorem Z3 (a:Act) (w:World) (Q:Exit->Act->World->Prop) (hd:a.defers=[]) (hs:a.tmps.size=Tryz.f184.ntmps) (hQ: ∀a' d,a'.tmps.size=Tryz.f184.ntmps->(∀k,k≠56->a'.tmps.getD k undef=a.tmps.getD k undef)->a'.defers=[d]->Idle prog d->Q .normal a' w):(ur (FV 5 rK)).wp prog Q a w:=by
 have hmf: ∀(fn:Fn) (first cap:Array Value) (w:World),(Instr.makeFunc fn first cap).run prog w= .ok (.func fn first cap) w:=fun _ _ _ _=>rfl
 show(Code.region 6 _ false).wp prog Q a w;apply wp_region;simp[wpOps,go_sem,hd];have h10:56<a.tmps.size:=by rw[hs,Tryz.ntmps184];decide
 refine .inl ?_;refine .inl ?_;rw[ah h10];refine hQ {tmps:=a.tmps.setIfInBounds 56 (.func (.func 265) #[] #[a.tmps[8]?.getD undef,a.tmps[9]?.getD undef,a.tmps[10]?.getD undef]),defers:=[⟨.fn (.func 265) #[a.tmps[8]?.getD undef,a.tmps[9]?.getD undef,a.tmps[10]?.getD undef], #[]⟩]} ⟨.fn (.func 265) #[a.tmps[8]?.getD undef,a.tmps[9]?.getD undef,a.tmps[10]?.getD undef], #[]⟩ ?_ ?_ ?_ ⟨.func 265, #[a.tmps[8]?.getD undef,a.tmps[9]?.getD undef,a.tmps[10]?.getD undef],265, #[a.tmps[8]?.getD undef,a.tmps[9]?.getD undef,a.tmps[10]?.getD undef],rfl,fun w=>⟨?_,RQ _ _ _ w⟩⟩
 ·simp[hs]
 ·intro k hk;simp[wZ (kA hk)]
 ·rfl
 ·simp[invoke,go_sem]
theorem RP:Tryz.f184.body=some (RV [ur (FV 0 rK),ur (FV 1 rK),ur (FV 2 rK),ur (FV 3 rK),ur (FV 4 rK)] (.seq (ur (FV 5 rK)) (FV 6 rK))):=by kernel_rfl
theorem N1 {nt:Nat} {c:Code} {sc:SC} {r:List Code} {s s1 s2:AS} (h:CW prog (fun e x=>e= .normal/\s1.Le x) sc [] s) (hr:Pre prog nt r s1 s2) (hc:j3 prog Wg nt c=some sc:=by cbv) (hng:sc.ek=true:=by exact rfl):Pre prog nt (c::r) s s2:= .cons (j5.1 _ _ _ hc) hng (CW.start h) hr
theorem RO (vs:List Bytes) (sd:Bytes) (a:Int) (hl:vs.length<1000000):aF 184 [C0, .sl [], .s [],T vs sd a] (.tup [.agg [.sl [], .sl [], .sl [], .sl []],T vs sd a,E 0]):=by
 have hc:=Aq vs hl;have ho:aF 198 [C0] (.s []):=by
  refine eW call198 func198 ?_;exact Tg
 refine qO.NI (sl:=56) (pre:=[ur (FV 0 rK),ur (FV 1 rK),ur (FV 2 rK),ur (FV 3 rK),ur (FV 4 rK)]) (cD:=ur (FV 5 rK)) (c2:=FV 6 rK) (s2:=⟨[(1, .v (.sl [])),(8, .p 1002 0 0),(9, .p 1003 0 0),(10, .p 1004 0 0),(11, .v (.sl [])),(12, .p 1014 0 0)],[(1002,⟨0,[.sn, .sn, .sn, .sn],false,some 167⟩),(1003,⟨0,[.sn, .v (.s []), .v (.i .i64 0)],false,some 56⟩),(1004,⟨0,[.v (.i .i64 0)],false,some 57⟩),(1014,⟨0,[.v (.sl []), .v (.sl []), .v (.s []), .v (.sl (vs.map .s)), .v (.s sd), .v (.i .i64 a), .v (.sl []), .rs 1020 0 0 0 1, .rs 1024 0 0 0 1, .rs 1028 0 0 0 1],false,none⟩),(1020,⟨0,[],false,none⟩),(1024,⟨0,[],false,none⟩),(1028,⟨0,[],false,none⟩)],1042⟩) mixed call184 func184 RP rfl (j5.1 _ _ _ (by cbv)) (j5.2 _ _ (by cbv)) Z3 (fk rfl) rfl (N1 (s1:=⟨[(1, .v (.sl [])),(2, .v (.s [])),(4, .p 1000 0 0),(7, .p 1001 0 0),(8, .p 1002 0 0),(9, .p 1003 0 0),(10, .p 1004 0 0)],[(1000,⟨0,[.v (.sl []), .v (.sl [])],false,none⟩),(1001,⟨0,[.v (.sl (vs.map .s)), .v (.s sd), .v (.i .i64 a)],false,none⟩),(1002,⟨0,[.sn, .sn, .sn, .sn],false,some 167⟩),(1003,⟨0,[.sn, .v (.s []), .v (.i .i64 0)],false,some 56⟩),(1004,⟨0,[.v (.i .i64 0)],false,some 57⟩)],1005⟩) ?_ (N1 (s1:=⟨[(1, .v (.sl [])),(2, .v (.s [])),(4, .p 1000 0 0),(7, .p 1001 0 0),(8, .p 1002 0 0),(9, .p 1003 0 0),(10, .p 1004 0 0),(11, .v (.sl []))],[(1000,⟨0,[.v (.sl []), .v (.sl [])],false,none⟩),(1001,⟨0,[.v (.sl (vs.map .s)), .v (.s sd), .v (.i .i64 a)],false,none⟩),(1002,⟨0,[.sn, .sn, .sn, .sn],false,some 167⟩),(1003,⟨0,[.sn, .v (.s []), .v (.i .i64 0)],false,some 56⟩),(1004,⟨0,[.v (.i .i64 0)],false,some 57⟩)],1009⟩) ?_ (N1 (s1:=⟨[(1, .v (.sl [])),(2, .v (.s [])),(4, .p 1000 0 0),(7, .p 1001 0 0),(8, .p 1002 0 0),(9, .p 1003 0 0),(10, .p 1004 0 0),(11, .v (.sl [])),(12, .p 1014 0 0)],[(1000,⟨0,[.v (.sl []), .v (.sl [])],false,none⟩),(1001,⟨0,[.v (.sl (vs.map .s)), .v (.s sd), .v (.i .i64 a)],false,none⟩),(1002,⟨0,[.sn, .sn, .sn, .sn],false,some 167⟩),(1003,⟨0,[.sn, .v (.s []), .v (.i .i64 0)],false,some 56⟩),(1004,⟨0,[.v (.i .i64 0)],false,some 57⟩),(1014,⟨0,[.v (.sl []), .v (.sl []), .v (.s []), .v (.sl (vs.map .s)), .v (.s sd), .v (.i .i64 a), .sn, .sn, .sn, .sn],false,none⟩)],1016⟩) ?_ ?_))) (CW.start ?_)
 ·simp only[nr,List.mapIdx_nil];refine xy ?_;exact lE
 ·refine xy ?_;exact lE
 ·refine Za @ho ?_;exact lE
 ·refine N1 (s1:=⟨[(1, .v (.sl [])),(8, .p 1002 0 0),(9, .p 1003 0 0),(10, .p 1004 0 0),(11, .v (.sl [])),(12, .p 1014 0 0)],[(1002,⟨0,[.sn, .sn, .sn, .sn],false,some 167⟩),(1003,⟨0,[.sn, .v (.s []), .v (.i .i64 0)],false,some 56⟩),(1004,⟨0,[.v (.i .i64 0)],false,some 57⟩),(1014,⟨0,[.v (.sl []), .v (.sl []), .v (.s []), .v (.sl (vs.map .s)), .v (.s sd), .v (.i .i64 a), .v (.sl []), .rs 1020 0 0 0 1, .rs 1024 0 0 0 1, .rs 1028 0 0 0 1],false,none⟩),(1020,⟨0,[],false,none⟩),(1024,⟨0,[],false,none⟩),(1028,⟨0,[],false,none⟩)],1033⟩) ?_ (N1 ?_ (.nil _))
  ·refine xy ?_;exact lE
  ·refine xy ?_;exact lE
 ·exact Y2 @hc
theorem Mj (l:List Bytes) (hl:l.length<1000000):aF 195 [.sl (l.map .s)] (.b (l.all aa)):=by
 have h1: ∀x,aF 282 [PV.s x] (.b (!aa x)):=fun x=>by
  have hv:=aD x;generalize aa x=b at*;refine eW call282 func282 ?_;exact z1 @hv
 have hc:=iy l _ _ oO h1;rw[jD]at hc;generalize l.all aa=b at*;refine eW call195 func195 ?_;repeat' first|simp only[go_sem,seval,wT]|refine cP hc ?_|refine oE ?_|apply xX<;>intro hc
theorem EE (vs:List Bytes) (sd:Bytes) (a:Int) (hl:vs.length<1000000):aF 182 [T vs sd a] (.b (fA vs a)):=by
 have h:=Mj vs hl;unfold fA;rw[jD,wT];generalize vs.all aa=b at*;refine eW call182 func182 ?_;repeat' first|simp only[go_sem,seval]|refine cP h ?_|refine oE ?_|apply xX<;>intro hc
 all_goals simp_all
 all_goals (intros;omega)
theorem UY:aF 181 [.sl []] (.b true):=by
 have hi:aF 252 [.sl [], .fn (.func 262)] (E (-1)):=by
  refine eW call252 func252 ?_;exact Tg
 have h:aF 170 [.sl [], .fn (.func 262)] (.b false):=by
  refine eW call170 func170 ?_;exact z1 @hi
 refine eW call181 func181 ?_;exact z1 @h
theorem We:aF 256 [F0, .sl []] (.sl []):=by
 refine eW call256 func256 ?_;exact Tg
theorem xJ:aF 177 [F0, .sl []] (.tup [.sl [],E 0]):=by
 refine eW call177 func177 ?_;exact z2 @H4 @We
theorem Pm:aF 264 [F0, .sl []] (.tup [.sl [],E 0]):=by
 refine eW call264 func264 ?_;exact z1 @xJ
theorem QM:aF 183 [C0, .sl []] (.tup [.sl [],E 0]):=by
 refine eW call183 func183 ?_;repeat' first|simp only[go_sem,seval]|(refine aj ?_)|(refine Pc [1011] Pm rfl rfl rfl ?_)|refine oE ?_|apply xX<;>intro hc
abbrev BS0:PV:= .agg [.sl [], .sl [], .sl [], .sl []]
theorem Pj {vs:List Bytes} {a:Int} (sd:Bytes) (hg:fA vs a=true) (hl:vs.length<1000000):aF 101 [C0, .sl [],T vs sd a] (.tup [BS0,T vs sd a,E 0]):=by
 have h:=EE vs sd a hl;rw[hg]at h;have hr:=RO vs sd a hl;refine eW call101 func101 ?_;exact z7 @HJ @UY @h @QM @hr oT oT
theorem WY (l:List Int):(l.map jB).map fw=l.map Zp:=by rw[kP];rfl
theorem wH {w:List Int} (hw: ∀x∈w,x.natAbs<dP):(w.map jB).all dh=true:=by
 rw[bJ];intro x hx;obtain⟨z,hz,rfl⟩:=cG.1 hx;exact rz (hw z hz)
theorem Q0 {s:cY} (hs:DZ s) {w:List (Bool×Bytes)} (hw:w.length<1000000):aF 253 [s.pv, .sl (w.map fw)] (E (if !(w.all dh)then 3 else if w.length≠s.vars.length then 6 else 0)):=by
 have hf:=Nw hs.b;have hc:=Ii hs.b;rw[hs.ck]at hc;rw[show pH s=true from by have:=hs.ck;unfold Nu at this;cases h:pH s<;>simp_all]at hf
 have hcf:=gD w _ _ oO QZ;rw[jD]at hcf;have l1:(w.map fw).length=w.length:=aR ..;obtain⟨gs,vs,es⟩:=s;have l2:(vs.map dE).length=vs.length:=aR ..;simp only[cY.pv,aA]at hf hc⊢;generalize w.all dh=b at*;cases b
 ·refine eW call253 func253 ?_;exact zW (aN @l1 @l2) @hf @hc @hcf oT
 ·by_cases hl:w.length=vs.length
  ·have hI:((w.length:Int) !=vs.length)=false:=by rw[hl];simp
   rw[af (by simp),af (by simpa using hl)]
   refine eW call253 func253 ?_;exact zW (aN @l1 (aN @l2 @hI)) @hf @hc @hcf oT
  ·have hI:((w.length:Int) !=vs.length)=true:=by rw[tZ];omega
   rw[af (by simp),ah (by simpa using hl)]
   refine eW call253 func253 ?_;exact zW (aN @l1 (aN @l2 @hI)) @hf @hc @hcf oT
theorem Iq {s:cY} (hs:DZ s) {w:List Int} (hwl:w.length=s.vars.length) (hw: ∀x∈w,x.natAbs<dP):aF 253 [s.pv, .sl (w.map Zp)] (E 0):=by
 have nv:=hs.nv;have:=Q0 hs (w:=w.map jB) (by rw[aR];omega)
 rwa[WY,wH hw,aR,af (by simp),af (by simpa using hwl)]at this
def WS (s:cY) (w:List Int):Prop:= ∀q∈s.eqs,WB q.terms w
theorem Pn {s:cY} (hs:DZ s) {w:List Int} (hwl:w.length=s.vars.length) (hw: ∀x∈w,x.natAbs<dP) (hW:WS s w):aF 180 [s.pv, .sl (w.map Zp)] (.tup [.sl ((sG s w).map .s),E 0]):=by
 have hr:=Iq hs hwl hw;have hi:=Ie hs hW;generalize sG s w=L at*;obtain⟨gs,vs,es⟩:=s;simp only[cY.pv]at hr hi⊢;refine eW call180 func180 ?_;exact z2 @hr @hi
def fH (o b:Bytes):Nat:=if b=[]then num o else num b
def je (b:Bytes) (x:Int) (L:Nat):Bool:=decide (x.natAbs<L)&& !(decide (b=[])&&decide (x<0))
def Ag (o:Bytes) (us:List Bytes) (w:List Int):Bool:=(List.range us.length).all fun i=>je (us.getD i []) (w.getD i 0) (fH o (us.getD i []))
theorem fM {gs:List (Bytes×Bytes)} (h: ∀p∈gs,gE p.1 p.2=0/\p.1.length<=8/\p.2.length<=8):aa (bZ gs)=true/\(bZ gs).length<=8:=by
 induction gs with
 |nil=>exact⟨rfl,by simp[bZ]⟩
 |cons g r ih=>
  rw[bZ];obtain⟨g1,g2,g3⟩:=h g (tF ..);split
  ·exact ih fun p hp=>h p (jR _ hp)
  ·exact⟨(qJ g1).2.1,g3⟩
theorem Ki {s:cY} (hs:DZ s) {w:List Int} (hwl:w.length=s.vars.length) (hw: ∀x∈w,x.natAbs<dP):aF 254 [s.pv, .sl (w.map Zp)] (.b (Ag (bZ s.groups) s.vars w)):=by
 have hv:=hs.v;have nv:=hs.nv;have hor:=Bf s (by have:=hs.ng;omega)
 have hoV:=fM hs.g;obtain⟨gs,vs,es⟩:=s;simp only at hv hwl nv hor hoV⊢;have l2:(vs.map dE).length=vs.length:=aR ..;have l5:(w.map Zp).length=vs.length:=by rw[aR];exact hwl
 generalize bZ gs=oq at*;unfold cY.pv at*;simp only at*;refine eW call254 func254 ?_;refine fq @l2 ?_;refine aq (α:=Nat) (fun i=>vs.length-i) (fun i=>⟨[(1, .v (.sl (w.map Zp))),(2, .p 1000 0 0),(9, .v (.sl (vs.map dE))),(10,E' vs.length),(11,E' i)],[(1000,⟨0,[.v (.sl (gs.map gV)), .v (.sl (vs.map dE)), .v (.sl (es.map dS.pv))],false,none⟩)],_⟩) (fun i=>i<=vs.length/\ ∀j,j<i->je (vs.getD j []) (w.getD j 0) (fH oq (vs.getD j []))=true) 0 (fun _=>aB _) ⟨aT _,fun j hj=>oO⟩ ?_ ?_
 ·exact lE
 ·rintro i ⟨hi,hall⟩ R hR
  by_cases hlt:i<vs.length
  ·have e1:=getD_map dE vs [] hlt;have e2:=getD_map Zp w 0 (i:=i) oO;have kb:=hv _ (aG [] hlt);have kw:=hw _ (aG 0 (show i<w.length by omega))
   have hgo:=fun h=>hR (i+1) ⟨oO,h⟩ oO
   have hbad:=fun h: ¬je (vs.getD i []) (w.getD i 0) (fH oq (vs.getD i []))=true=>ow (p:=fun i=>je (vs.getD i []) (w.getD i 0) (fH oq (vs.getD i []))) hlt (dA.2 h)
   have hnx:je (vs.getD i []) (w.getD i 0) (fH oq (vs.getD i []))=true-> ∀j,j<i+1->je (vs.getD j []) (w.getD j 0) (fH oq (vs.getD j []))=true:=fun h j hj=>by
    by_cases hji:j<i
    ·exact hall j hji
    ·obtain rfl:j=i:=oO;exact h
   rw[<-Ag]at hbad;clear hR hall;generalize vs.getD i []=b at*;generalize w.getD i 0=x at*;have hz:=(rz kw);simp only[jB,dh,aV]at hz;have hc:=jZ hz.1 kb.1;have hc':=jZ hz.1 hoV.1;simp only[uK]at hc hc';have hd: ∀L:Nat,decide (bK x.natAbs L>=0)= !decide (x.natAbs<L):=fun L=>O9 _ _
   simp only[dE]at e1;simp only[Zp,fw,jB]at e2;simp only[je,fH]at hbad hnx
   by_cases hb:b=[]
   ·subst hb;simp only[aA,decide_true,cB]at hbad hnx;have hzs:zs x=decide (x<0):=rfl;have h1:=hd (num oq);clear hd hc kb;generalize bK x.natAbs (num oq)=cm at*;generalize decide (x.natAbs<num oq)=p at*;generalize hq:decide (x<0)=q at*;cases q
    ·cases p
     ·rw[hbad (by simp)]
      exact wq (aN @l2 (aN @l5 (aN @e1 (aN @e2 (aN @hzs (aN @h1 @nn)))))) @hor @hc'
     ·have hgo:=hgo (hnx (by simp))
      exact DM (aN @l2 (aN @l5 (aN @e1 (aN @e2 (aN @hzs (aN @h1 @nn)))))) @hgo @hor @hc'
    ·rw[hbad (by simp)]
     exact wq (aN @l2 (aN @l5 (aN @e1 (aN @e2 (aN @hzs (aN @h1 @nn)))))) @hor @hc'
   ·have hbb:(b==[])=false:=by simpa using hb
    simp only[af hb,b9 hb,fp,db,js]at hbad hnx;have h1:=hd (num b);clear hd hc' kb;generalize bK x.natAbs (num b)=cm at*;generalize decide (x.natAbs<num b)=p at*;cases p
    ·rw[hbad (by simp)]
     exact ot (aN @l2 (aN @l5 (aN @e1 (aN @e2 (aN @hbb @h1))))) @hc
    ·have hgo:=hgo (hnx rfl);exact qe (aN @l2 (aN @l5 (aN @e1 (aN @e2 (aN @hbb @h1))))) @hgo @hc
  ·obtain rfl:i=vs.length:=oO;have hg:Ag oq vs w=true:=nM fun j hj=>hall j hj
   rw[hg];exact z0
noncomputable def yn (s:cY) (w:List Int):Bool:=decide (sG s w=s.eqs.map (·.tgt))
theorem Kh {s:cY} (hs:DZ s) {w:List Int} (hwl:w.length=s.vars.length) (hw: ∀x∈w,x.natAbs<dP) (hW:Ag (bZ s.groups) s.vars w=true->WS s w):aF 176 [s.pv, .sl (w.map Zp)] (.tup [.b (Ag (bZ s.groups) s.vars w&&yn s w),E 0]):=by
 have ne:=hs.ne;have hr:=Iq hs hwl hw;have hi:=Ki hs hwl hw;have hm:=fun h=>Ie hs (hW h)
 have hL:=Ch s w;unfold yn;generalize sG s w=L at*;obtain⟨gs,vs,es⟩:=s;simp only[cY.pv]at hr hi hm hL⊢;have l3:(es.map dS.pv).length=es.length:=aR ..;have l4:(L.map PV.s).length=es.length:=by rw[aR];exact hL
 simp only at ne;clear hs hW hw hwl;generalize Ag (bZ gs) vs w=b at*;cases b
 ·refine eW call176 func176 ?_;exact z2 @hr @hi
 have hm:=hm rfl;refine eW call176 func176 ?_;refine rT @l3 @hr @hi @hm oT ?_;refine aq (α:=Nat) (fun i=>es.length-i) (fun i=>⟨[(2, .p 1000 0 0),(7, .v (.sl (L.map .s))),(31, .v (.sl (es.map dS.pv))),(32,E' es.length),(33,E' i)],[(1000,⟨0,[.v (.sl (gs.map gV)), .v (.sl (vs.map dE)), .v (.sl (es.map dS.pv))],false,none⟩)],_⟩) (fun i=>i<=es.length/\ ∀j,j<i->L.getD j []=(es.getD j jz).tgt) 0 (fun _=>aB _) ⟨aT _,fun j hj=>oO⟩ ?_ ?_
 ·exact lE
 ·rintro i ⟨hi,hall⟩ R hR
  by_cases hlt:i<es.length
  ·have e1:=getD_map dS.pv es jz hlt;have e2:=getD_map PV.s L [] (i:=i) oO;have hgo:=fun h=>hR (i+1) ⟨oO,h⟩ oO
   have hnx:L.getD i []=(es.getD i jz).tgt-> ∀j,j<i+1->L.getD j []=(es.getD j jz).tgt:=fun h j hj=>by
    by_cases hji:j<i
    ·exact hall j hji
    ·obtain rfl:j=i:=oO;exact h
   have hbad: ¬L.getD i []=(es.getD i jz).tgt->decide (L=es.map (·.tgt))=false:=fun h=>b9 fun g=>h (by rw[g];simp[bR,hlt])
   clear hR hall;generalize es.getD i jz=q at*;generalize L.getD i []=x at*;obtain⟨g,t,ts⟩:=q;simp only[dS.pv]at e1 hbad hnx
   by_cases hxt:x=t
   ·have hgo:=hgo (hnx hxt);have e3:(x==t)=true:=by simpa using hxt
    exact ua (aN @l3 (aN @l4 (aN @e1 (aN @e2 @e3)))) @hgo
   ·have e3:(x==t)=false:=by simpa using hxt
    rw[hbad hxt];exact oo (aN @l3 (aN @l4 (aN @e1 (aN @e2 @e3))))
  ·obtain rfl:i=es.length:=oO;rw[aS (Qy hL hall)];exact z0
def lM (o c sl b:Bytes):Nat:=if b=[]then num o else yB c sl b
def lR (o c sl b:Bytes):Nat:=if b=[]then num o else UU c sl b
def lP (o c sl b:Bytes):PV:= .agg [N (lM o c sl b),N (lR o c sl b)]
structure DP (c sl:Bytes) (s:cY):Prop where
 r:r9 c sl
 g:DZ s
 m: ∀b∈s.vars,b=[]->num c<=num (bZ s.groups)
theorem oW (b:Bytes):aF 258 [dE b] (E (if b=[]then 0 else 1)):=by
 by_cases h:b=[]
 ·subst h;unfold dE;refine eW call258 func258 ?_;exact oo @nn
 ·rw[af h];exact OI h
theorem Fy (c sl q b:Bytes):aF 259 [.agg [.s c, .s sl, .s q], .s b] (.tup [.agg [.s q, .s q],E 0]):=by
 refine eW call259 func259 ?_;exact z0
theorem ZV (o c sl:Bytes):dq (lP o c sl) 2:=⟨fun _=>rfl,fun x y hy=>by simp[lP,PV.cells]at hy;rcases hy with rfl|rfl<;>rfl,fun h=>oO,fun _ x=>rfl⟩
theorem zE {s:cY} (h:DP c sl s):aF 178 [.agg [.s c, .s sl],s.pv] (.tup [.sl (s.vars.map (lP (bZ s.groups) c sl)),E 0]):=by
 obtain⟨hr,hs,hm⟩:=h;have hck:=Ii hs.b;rw[hs.ck]at hck;have hor:=BA s (by have:=hs.ng;omega)
 have hoV:=fM hs.g;have v1:=aD c;have v2:=aD sl;rw[hr.vc]at v1;rw[hr.vs]at v2;have c1:=mi hr.vc;have c2:=mi hr.vs;have d1: ∀ _:True,decide (bK (num c) 2<0)=false:=fun _=>b9 (fun g=>by have:=ji.1 g;have:=hr.c2;omega)
 have d2: ∀ _:True,decide (bK (num sl) 2<0)=false:=fun _=>b9 (fun g=>by have:=ji.1 g;have:=hr.s2;omega)
 have c3:=jZ hr.vc hoV.1;generalize bK (num c) 2=cm1 at*;generalize bK (num sl) 2=cm2 at*;have hv:=hs.v;have nv:=hs.nv;obtain⟨gs,vs,es⟩:=s;simp only at hv hm nv hor hoV c3⊢;generalize bZ gs=q at*;have d3: ∀b∈vs,b=[]->decide (bK (num c) (num q)>0)=false:=fun b hb h=>b9 fun g=>by
  have:=hm b hb h;unfold bK at g
  split at g
  ·omega
  ·split at g<;>omega
 generalize bK (num c) (num q)=cm3 at*;have eq:=eT hoV.1;have l2:(vs.map dE).length=vs.length:=aR ..;clear hm hoV;unfold cY.pv at*;simp only at*;refine eW call178 func178 ?_;refine Lr (aN (d1 oT) (aN (d2 oT) @l2)) @v1 @v2 @hck @Wt @c1 @c2 @hor ?_;refine aq (α:=Nat) (fun i=>vs.length-i) (fun i=>⟨[(2, .p 1000 0 0),(3, .p 1001 0 0),(8, .p 1037 0 0),(50, .v (.sl (vs.map dE))),(51,E' vs.length),(52,E' i)],[(1000,⟨0,[.v (.s c), .v (.s sl)],false,none⟩),(1001,⟨0,[.v (.sl (gs.map gV)), .v (.sl (vs.map dE)), .v (.sl (es.map dS.pv))],false,none⟩),(1037,⟨0,[.v (.s c), .v (.s sl), .v (.s q)],false,some 305⟩)],_⟩) (fun i=>i<=vs.length) 0 (fun _=>aB _) (aT _) ?_ ?_
 ·exact lE
 ·intro i hi R hR
  by_cases hlt:i<vs.length
  ·have e1:=getD_map dE vs [] hlt;have hk:=oW (vs.getD i []);have d3:=d3 _ (aG [] hlt);have hgo:=hR (i+1) oO oO;clear hR;generalize vs.getD i []=b at*;simp only[dE]at e1 hk
   by_cases hb:b=[]
   ·rw[ah hb]at hk;have d3:=d3 hb;exact DM (aN @l2 (aN @e1 @d3)) @hgo @hk @c3
   ·rw[af hb]at hk;exact qe (aN @l2 @e1) @hgo @hk
  ·obtain rfl:i=vs.length:=oO;have hL:=ZV q c sl;have row0: ∀{i:Nat},i<vs.length->bI (lP q c sl) (vs.take (i+1))=bI (lP q c sl) (vs.take i)++[.v (N (lM q c sl (vs.getD i []))), .v (N (lR q c sl (vs.getD i [])))]:=fun h=>by
    rw[aY [] h,dQ];rfl
   clear hR d3 c1 c2 c3 d1 d2 hlt
   by_cases hpos:0<vs.length
   ·refine fq @l2 ?_;refine aj ?_;have e1:=getD_map dE vs [] hpos;have hk:=oW (vs.getD 0 []);have r1:=row0 hpos;have hcs:(vs.getD 0 []=[]/\aF 259 [.agg [.s c, .s sl, .s q], .s (vs.getD 0 [])] (.tup [.agg [N (lM q c sl (vs.getD 0 [])),N (lR q c sl (vs.getD 0 []))],E 0]))\/(vs.getD 0 []≠[]/\aF 260 [.agg [.s c, .s sl, .s q], .s (vs.getD 0 [])] (.tup [.agg [N (lM q c sl (vs.getD 0 [])),N (lR q c sl (vs.getD 0 []))],E 0])):=by
     by_cases h:vs.getD 0 []=[]
     ·refine .inl ⟨h,?_⟩;rw[h,lM,lR,ah rfl,ah rfl,eq];exact Fy c sl q []
     ·obtain⟨k1,k3⟩:=hv _ (aG [] hpos);refine .inr ⟨h,?_⟩;rw[lM,lR,af h,af h];exact sZ (q:=q) hr k1 h k3
    generalize lM q c sl (vs.getD 0 [])=A at*;generalize lR q c sl (vs.getD 0 [])=B at*;generalize vs.getD 0 []=b at*;simp only[dE]at e1 hk;rcases hcs with⟨hb,hi1⟩|⟨hb,hi1⟩
    all_goals
     first|rw[ah hb]at hk|rw[af hb]at hk
     refine Sm (aN @l2 @e1) @hk @hi1 ?_;refine aq (α:=Nat) (fun j=>vs.length-(j+1)) (fun j=>⟨[(11, .p 1049 0 0),(12, .rs 1079 j 0 (j+1) 2),(74, .v (.sl (vs.map dE))),(75,E' vs.length),(76,E' (j+1))],[(1049,⟨0,[.fn (.func 259) [.v (.agg [.s c, .s sl, .s q])] [], .fn (.func 260) [.v (.agg [.s c, .s sl, .s q])] []],false,some 308⟩),(1079,⟨j,bI (lP q c sl) (vs.take (j+1)),true,some 252⟩)],1083⟩) (fun j=>j+1<=vs.length) 0 (fun _=>fk rfl) hpos ?_ ?_
     ·rw[fG,r1,List.take_zero,show bI (lP q c sl) []=[]from rfl]
      exact lE
     ·clear e1 hk hi1 r1 hb;intro j hj R hR;have hj1:(vs.take (j+1)).length=j+1:=by rw[da];omega
      have q1:=dw hL (vs.take (j+1));have q2:=eD hL (vs.take (j+1));rw[hj1]at q1 q2
      by_cases hlt:j+1<vs.length
      ·have hgo:=hR (j+1) oO oO;clear hR;have e1:=getD_map dE vs [] hlt;have hk:=oW (vs.getD (j+1) []);have r1:=row0 hlt;have hcs:(vs.getD (j+1) []=[]/\aF 259 [.agg [.s c, .s sl, .s q], .s (vs.getD (j+1) [])] (.tup [.agg [N (lM q c sl (vs.getD (j+1) [])),N (lR q c sl (vs.getD (j+1) []))],E 0]))\/(vs.getD (j+1) []≠[]/\aF 260 [.agg [.s c, .s sl, .s q], .s (vs.getD (j+1) [])] (.tup [.agg [N (lM q c sl (vs.getD (j+1) [])),N (lR q c sl (vs.getD (j+1) []))],E 0])):=by
        by_cases h:vs.getD (j+1) []=[]
        ·refine .inl ⟨h,?_⟩;rw[h,lM,lR,ah rfl,ah rfl,eq];exact Fy c sl q []
        ·obtain⟨k1,k3⟩:=hv _ (aG [] hlt);refine .inr ⟨h,?_⟩;rw[lM,lR,af h,af h];exact sZ (q:=q) hr k1 h k3
       generalize lM q c sl (vs.getD (j+1) [])=A at*;generalize lR q c sl (vs.getD (j+1) [])=B at*;generalize vs.getD (j+1) []=b at*;simp only[dE]at e1 hk;rcases hcs with⟨hb,hi1⟩|⟨hb,hi1⟩
       all_goals
        first|rw[ah hb]at hk|rw[af hb]at hk
        rw[r1]at hgo;refine zS (aN @l2 (aN @e1 (aN @q1 @q2))) @hk @hi1 ?_;refine hgo _ ?_
        (refine AS.Le.of (by first|decide|omega) ?_ ?_<;>simp[dG,dF,aO,hget,AV.bd,AV.bd.bdL,u8,ar,au,az])
        all_goals (intro c hc;rcases hc with h|h|h<;>first|exact cf h|(subst h;rfl))
      ·obtain hjv:j+1=vs.length:=oO;rw[hjv,cq]at q1 q2;rw[hjv,cq];have q3:=gH hL vs;have q4:=eC hL vs;repeat' first|simp only[go_sem,seval,l2,q1,q2,q3,q4,gI]|refine oE ?_|apply xX<;>intro hc
       all_goals skip
   ·obtain rfl:vs=[]:=iZ.1 oO;exact aae @l2
theorem Fm {s:cY} (h:DP c sl s):aF 166 [.agg [.s c, .s sl],s.pv] (.tup [.sl (s.vars.map fun b=>N (lM (bZ s.groups) c sl b)), .sl (s.vars.map fun b=>N (lR (bZ s.groups) c sl b)),E 0]):=by
 have hb:=zE h;have nv:=h.g.nv;obtain⟨gs,vs,es⟩:=s;simp only at hb nv⊢;clear h;generalize bZ gs=o at*;have l2:(vs.map (lP o c sl)).length=vs.length:=aR ..;unfold cY.pv at*;simp only at*
 by_cases hpos:0<vs.length
 rotate_left
 ·obtain rfl:vs=[]:=iZ.1 oO;refine eW call166 func166 ?_;exact Y2 @hb
 have hM:dq (fun b=>N (lM o c sl b)) 1:=⟨fun _=>rfl,fun _ y hy=>by cases ik.1 hy;rfl,fun _ _=>rfl,fun h=>aJ rfl h⟩
 have hR0:dq (fun b=>N (lR o c sl b)) 1:=⟨fun _=>rfl,fun _ y hy=>by cases ik.1 hy;rfl,fun _ _=>rfl,fun h=>aJ rfl h⟩
 have row1: ∀{i:Nat},i<vs.length->bI (fun b=>N (lM o c sl b)) (vs.take (i+1))=bI (fun b=>N (lM o c sl b)) (vs.take i)++[.v (N (lM o c sl (vs.getD i [])))]:=fun h=>by
  rw[aY [] h,dQ];rfl
 have V3: ∀{i:Nat},i<vs.length->bI (fun b=>N (lR o c sl b)) (vs.take (i+1))=bI (fun b=>N (lR o c sl b)) (vs.take i)++[.v (N (lR o c sl (vs.getD i [])))]:=fun h=>by
  rw[aY [] h,dQ];rfl
 refine eW call166 func166 ?_;refine Hx @l2 @hb ?_;refine aj ?_;have e1:=getD_map (lP o c sl) vs [] hpos;have r1:=row1 hpos;have r2:=V3 hpos;simp only[lP]at e1;refine fq (aN @l2 @e1) ?_;refine aq (α:=Nat) (fun j=>vs.length-(j+1)) (fun j=>⟨[(9, .rs 1029 j 0 (j+1) 1),(10, .rs 1034 j 0 (j+1) 1),(22, .v (.sl (vs.map (lP o c sl)))),(23,E' vs.length),(24,E' (j+1))],[(1029,⟨j,bI (fun b=>N (lM o c sl b)) (vs.take (j+1)),true,some 22⟩),(1034,⟨j,bI (fun b=>N (lR o c sl b)) (vs.take (j+1)),true,some 22⟩)],1039⟩) (fun j=>j+1<=vs.length) 0 (fun _=>fk rfl) hpos ?_ ?_
 ·rw[fG,r1,r2,List.take_zero,show bI (fun b=>N (lM o c sl b)) []=[]from rfl,show bI (fun b=>N (lR o c sl b)) []=[]from rfl]
  exact lE
 ·intro j hj R hR;have hj1:(vs.take (j+1)).length=j+1:=by rw[da];omega
  have q1:=dw hM (vs.take (j+1));have q2:=eD hM (vs.take (j+1));have q5:=dw hR0 (vs.take (j+1));have q6:=eD hR0 (vs.take (j+1));rw[hj1,eH]at q1 q2 q5 q6
  by_cases hlt:j+1<vs.length
  ·have e1:=getD_map (lP o c sl) vs [] hlt;have r1:=row1 hlt;have r2:=V3 hlt;simp only[lP]at e1;have hgo:=hR (j+1) oO oO;rw[r1,r2]at hgo;clear hR;refine eJ (aN @l2 (aN @e1 (aN @q1 (aN @q2 (aN @q5 @q6))))) ?_;refine hgo _ ?_
   (refine AS.Le.of (by first|decide|omega) ?_ ?_<;>simp[dG,dF,aO,hget,AV.bd,AV.bd.bdL,u8,ar,au,az])
   all_goals (refine⟨?_,?_⟩<;>(intro c hc;rcases hc with h|h<;>first|exact cf h|(subst h;rfl)))
  ·obtain hjv:j+1=vs.length:=oO;rw[hjv,cq]at q1 q2 q5 q6;rw[hjv,cq];have q3:=gH hM vs;have q4:chunk 1 vs.length (List.flatMap (fun x=>[PV.s (aZ (lM o c sl x))]) vs)=vs.map fun b=>N (lM o c sl b):=eC hM vs
   have q7:=gH hR0 vs;have q8:chunk 1 vs.length (List.flatMap (fun x=>[PV.s (aZ (lR o c sl x))]) vs)=vs.map fun b=>N (lR o c sl b):=eC hR0 vs
   repeat' first|simp only[go_sem,seval,l2,q1,q2,q3,q4,q5,q6,q7,q8,gI]|refine oE ?_|apply xX<;>intro hc
   all_goals skip
structure Wo (s:cY):Prop where
 g: ∃m o,s.groups=[(m,o)]/\m.length<=1000/\o.length<=1000
 v0:s.vars≠[]
 nv:s.vars.length<=64
 v: ∀b∈s.vars,b.length<=1000
 ne:s.eqs.length<=64
 q: ∀q∈s.eqs,0<=q.jA/\q.jA<100/\q.tgt.length<=1000/\q.terms.length<=64/\ ∀t∈q.terms,0<=t.var/\t.var<100/\t.base.length<=1000/\t.abs.length<=1000
theorem mf {l:List fS} (hs:st.length=32):(l.foldl jY st).length=32:=by
 induction l generalizing st with
 |nil=>exact hs
 |cons t l ih=>exact ih (Hm _ _ _)
theorem mc {l:List dS} (hs:st.length=32):(l.foldl jW st).length=32:=by
 induction l generalizing st with
 |nil=>exact hs
 |cons q l ih=>exact ih (mf (dL _ _ _))
theorem vF {s:cY} (hp:DP c sl s):aF 98 [.agg [.s c, .s sl],s.pv,C0] (.tup [X0 c sl s,E 0]):=by
 have hb:=Fm hp;obtain⟨gs,vs,es⟩:=s;simp only[cY.pv,X0]at hb⊢;refine eW call98 func98 ?_;exact z2 @hb @HJ
theorem xO {s:cY}:(jX st s).length=32:=by
 unfold jX;exact mc (dL _ _ _)
end Go.Proofs.Tryz
namespace Go.Proofs.Tryz
open Go Go.Dom Go.Num
variable {M i:Nat} {sd x:Bytes} {vs:List Bytes}
def vK (vs:List Bytes) (sd:Bytes) (i M:Nat):Except Int Int:=
 match jc vs sd i (aZ (2*M-1))with
 | .error e=> .error e
 | .ok x=> .ok ((num x:Int)-(M-1:Nat))
theorem BC (st:Bytes) {c:Bytes} (h:2<=num c):iV st c<num c:=aL _ oO
theorem RU {f:Nat->Bytes} {n:Nat}: ∀{k a:Nat},Fs f n a k=some x->num x<n/\ ∃b,x=f b:=by
 intro k
 induction k with
 |zero=>intro a h;cases h
 |succ k ih=>
  intro a h;rw[Fs]at h
  split at h
  ·rename_i hlt;injection h with h
   subst h;exact⟨hlt,a,rfl⟩
  ·exact ih h
theorem nQ {n x:Bytes} (hv:vs.all aa=true) (hn:aa n=true) (hl:vs.length<1000000) (hi:i<=2147483647) (h:jc vs sd i n= .ok x):aa x=true/\num x<num n/\i+1<=2147483647:=by
 unfold jc at h
 split at h
 ·rename_i hiv
  split at h
  ·cases h
  ·rename_i hlt;injection h with h
   subst h;exact⟨bJ.1 hv _ (EC hiv),oO,oO⟩
 ·split at h
  ·cases h
  ·rename_i hs;have hi2:i≠2147483647:=fun e=>hs (.inr e)
   split at h
   ·rename_i y hy;injection h with h
    subst h;obtain⟨h1,b,hb⟩:=RU hy;exact⟨by rw[hb];exact xK sd i b (D9 hn),h1,oO⟩
   ·cases h
theorem OG {z:Int} (hv:vs.all aa=true) (h1:1<=M) (h2:2*M<dP) (hl:vs.length<1000000) (hi:i<=2147483647) (h:vK vs sd i M= .ok z):z.natAbs<M/\i+1<=2147483647:=by
 unfold vK at h
 split at h
 ·cases h
 ·rename_i x hx;obtain⟨-,h3,h4⟩:=nQ hv (vB oO) hl hi hx;rw[aP]at h3;injection h with h
  subst h;exact⟨oO,h4⟩
theorem qg {n:Bytes} {e:Int} (h:jc vs sd i n= .error e):e=2\/e=14:=by
 unfold jc at h
 split at h
 ·split at h
  ·injection h with h;exact .inl h.symm
  ·cases h
 ·split at h
  ·injection h with h;exact .inr h.symm
  ·split at h
   ·cases h
   ·injection h with h;exact .inr h.symm
theorem Lb {e:Int} (h:vK vs sd i M= .error e):e=2\/e=14:=by
 unfold vK at h
 split at h
 ·rename_i e' he;injection h with h
  subst h;exact qg he
 ·cases h
theorem sH (h:aa x=true):jB (num x:Int)=(false,x):=by
 have e:aZ (num x)=x:=by have:=eT h;injection this
 simp[jB,zs,zb,e]
end Go.Proofs.Tryz
namespace Go.Proofs.Tryz
open Go Go.Dom Go.Num
def sY (vs:List Bytes) (sd:Bytes) (i:Nat):Except Int Int->PV
 | .ok z=> .tup [Z z,T vs sd (i+1:Nat),E 0]
 | .error e=> .tup [.agg [.b false, .s []],T [] [] 0,E e]
theorem Aw {vs:List Bytes} {sd:Bytes} {i M:Nat} (hv:vs.all aa=true) (hi:i<=2147483647) (hl:vs.length<1000000) (hsd:sd.length<1000000) (h1:1<=M) (h2:3*M<dP):aF 261 [T vs sd i,N M] (sY vs sd i (vK vs sd i M)):=by
 have hM:aZ M≠[]:=by rw[ne_eq,gR];omega
 have hN:aa (aZ (2*M-1))=true:=vB oO;have hr:=zt vs sd i (aZ M) oO;rw[Od hv (vB oO) hM hi]at hr;have ha:=TJ (a:=M) (b:=M) oO;have hs:=Al (a:=M) (b:=1) oO oO;have ho:=Al (a:=M+M) (b:=1) oO oO;have hd:=Ek (sd:=sd) hv hN (by rw[aP];omega) hi hl hsd
 rw[<-du]at hs ho;rw[show M+M-1=2*M-1 by omega]at ho
 unfold vK;generalize hD:jc vs sd i (aZ (2*M-1))=r at*
 cases r with
 |error e=>
  unfold vg at hd;unfold sY;rcases qg hD with rfl|rfl
  ·refine eW call261 func261 ?_;exact z7 @hr @ha @hs @ho @hd oT oT
  ·refine eW call261 func261 ?_;exact z7 @hr @ha @hs @ho @hd oT oT
 |ok x=>
  obtain⟨vx,hx,-⟩:=nQ hv hN hl hi hD;rw[aP]at hx;have hz:=SM (x:=(num x:Int)) (y:=((M-1:Nat):Int)) oO;have e1:Z (num x:Int)= .agg [.b false, .s x]:=by rw[<-QR,sH vx];rfl
  have e2:Z ((M-1:Nat):Int)= .agg [.b false,N (M-1)]:=rfl;rw[e1,e2]at hz;unfold vg at hd;unfold sY;simp only;refine eW call261 func261 ?_;exact z7 @hr @ha @hs @ho @hd @hz oT
