/- Part of the proof. -/
import Derived.Test.YtnhhajlcpjgkjaaGreatDoorUB31
import Derived.WideLaws
import Derived.Tactics
import Derived.Tactics2
set_option linter.all false
set_option maxHeartbeats 16000000
set_option maxRecDepth 100000
namespace Go.Proofs.Tryz
open Go Go.Dom
variable {c ch sl:Bytes} {ls:List (List (Bool×Bytes))} {rs:List (Bool×Bytes)}
theorem mO:cU cI 2:=⟨fun _=>rfl,fun x y hy=>by obtain⟨n,a⟩:=x;simp[cI,PV.cells]at hy;rcases hy with rfl|rfl<;>rfl,fun h=>oO,fun _ x=>rfl⟩
theorem Io:aE 80 [.sl []] (.sl []):=by
 refine eW call80 func80 ?_;exact z0
theorem J1 {l:List (Bool×Bytes)} (h0:l≠[]) (hl:l.length<1000000):aE 401 [.sl (l.map cI)] (.sl (l.map cI)):=by
 obtain⟨x,r,rfl⟩: ∃x r,l=x::r:=by cases l with
  |nil=>exact aP rfl h0
  |cons a b=>exact⟨a,b,rfl⟩
 rw[bV];have k1:(cI x::r.map cI)=(x::r).map cI:=rfl;have k0:(r.map cI).length=r.length:=aG ..;refine eW call401 func401 ?_;refine eJ @k0 ?_;have hrow:List.map AV.v ((cI x).cells++List.flatMap PV.cells (List.map cI r))=aT cI (x::r):=by
  rw[aT,fy,pH]
 have hL:((cI x).cells++List.flatMap PV.cells (List.map cI r)).length=(r.length+1)*2:=by
  have:=cf mO (x::r);rw[<-hrow,aG]at this;exact this
 have q1:List.take ((r.length+1)*2) (aT cI (x::r))=aT cI (x::r):=ct mO (x::r);have q2:=dY mO (x::r);have q3:chunk 2 (r.length+1) ((x::r).flatMap fun x=>(cI x).cells)=(x::r).map cI:=de mO (x::r)
 have q4: ∀y∈aT cI (x::r),y.one=true:=fun y hy=>bH.1 q2 y hy
 rw[hrow];refine⟨⟨⟨mO.len x,fun y hy=>by obtain⟨z,-,rfl⟩:=cE.1 hy;exact mO.len z⟩,q4,by simp at hl;omega,by simp at hl;omega⟩,?_⟩
 simp only[hL,q1,q2,q3,ek,aD,and_self,aB,Option.map_some];exact⟨trivial,rfl⟩
def X0 (c sl:Bytes) (s:cG):PV:= .agg [.s c, .s sl, .sl (s.groups.map dO), .sl (s.vars.map cz), .sl (s.eqs.map c9.pv), .sl [], .sl [], .s []]
def fV (c:Bytes) (nv:Nat) (ch:Bytes) (rs:List (Bool×Bytes)) (gs:List Bytes) (ls:List (List (Bool×Bytes))):Int:=
 if !(aa ch&&rs.all cg&&ls.all (fun l=>l.all cg)&&gs.all aa)then 3 else if rs.length≠nv\/gs≠[]\/ls≠[]then 6 else if num c<=num ch then 2 else 0
def wE (ch:Bytes) (rs:List (Bool×Bytes)) (gs:List Bytes) (ls:List (List (Bool×Bytes))):PV:= .agg [.s ch, .sl (rs.map cI), .sl (gs.map .s), .sl (ls.map rT)]
theorem CT (vc:aa c=true) (s:cG) (ch:Bytes) (rs:List (Bool×Bytes)) (gs:List Bytes) (ls:List (List (Bool×Bytes))) (h1:rs.length<1000000) (h2:gs.length<=1000) (h3:ls.length<=1000) (h4: ∀l∈ls,l.length<4611686018427387904):aE 398 [X0 c sl s,wE ch rs gs ls] (E (fV c s.vars.length ch rs gs ls)):=by
 have v1:=aI ch;have v2:=Fh rs oO;have v3:=ov ls 468 [X7] (fun l=> !l.all cg) oO fun l hl=>Fh l (h4 l hl)
 rw[jG]at v3;have v4:=iv gs _ _ oO Nu;rw[jG]at v4;have v5:=aar 470 [.pt (X0 c sl s) 0];obtain⟨gq,vs,es⟩:=s;unfold rT at v2;simp only[X0,wE,fV]at v5⊢;have l1:(rs.map cI).length=rs.length:=aG ..;have l2:(vs.map cz).length=vs.length:=aG ..;have l3:(gs.map PV.s).length=gs.length:=aG ..;have l4:(ls.map rT).length=ls.length:=aG ..
 by_cases hok:(aa ch&&rs.all cg&&ls.all (fun l=>l.all cg)&&gs.all aa)=true
 ·rw[hok];simp only[aZ]at hok;obtain⟨⟨⟨o1,o2⟩,o3⟩,o4⟩:=hok;rw[o1]at v1;rw[o2]at v2;rw[o3]at v3;rw[o4]at v4
  by_cases hm:rs.length≠vs.length\/gs≠[]\/ls≠[]
  ·simp only[cr,bM,az,ah hm];have hm':rs.length≠vs.length\/(rs.length=vs.length/\gs.length≠0)\/(rs.length=vs.length/\gs.length=0/\ls.length≠0):=by
    rcases hm with h|h|h
    ·exact .inl h
    ·have:gs.length≠0:=fun h0=>h (eH.1 h0)
     omega
    ·have:ls.length≠0:=fun h0=>h (eH.1 h0)
     omega
   clear hm v5 o2 o3 o4 h4;rcases hm' with h|⟨h,h'⟩|⟨h,h',h''⟩
   all_goals (
   refine eW call398 func398 ?_;repeat' first|simp only[go_sem,seval,bJ,l1,l2,l3,l4]|refine cP v1 ?_|refine cV v2 ?_|refine cV v3 ?_|refine cP v4 ?_|refine oE ?_|apply xX<;>intro hc
   try trivial)
   all_goals fail "a"
  ·simp only[cr,bM,az,af hm];have hm':rs.length=vs.length/\gs=[]/\ls=[]:=by
    refine⟨iq fun h=>hm (.inl h),iq fun h=>hm (.inr (.inl h)),iq fun h=>hm (.inr (.inr h))⟩
   obtain⟨e1,e2,e3⟩:=hm';subst e2;subst e3;have cm:=j6 o1 vc;simp only[ca]at v3 v4;clear hm h4
   by_cases hge:num c<=num ch
   ·rw[ah hge];have h7: ∀ _:True,(0:Int)<=aW (num ch) (num c):=fun _=>fT.2 hge
    have h5: ∀ _:True,decide (aW (num ch) (num c)>=0)=true:=fun _=>aU (h7 oT)
    generalize aW (num ch) (num c)=z at*;refine eW call398 func398 ?_;repeat' first|simp only[go_sem,seval,bJ,l1,l2,h5 oT]|refine cP v1 ?_|refine cV v2 ?_|refine cV v3 ?_|refine cP v4 ?_|refine cP cm ?_|(refine aj ?_)|refine oE ?_|apply xX<;>intro hc
   ·rw[af hge];have h7: ∀ _:True,¬(0:Int)<=aW (num ch) (num c):=fun _ h=>hge (fT.1 h)
    have h5: ∀ _:True,decide (aW (num ch) (num c)>=0)=false:=fun _=>bu (h7 oT)
    generalize aW (num ch) (num c)=z at*;refine eW call398 func398 ?_;repeat' first|simp only[go_sem,seval,bJ,l1,l2,h5 oT]|refine cP v1 ?_|refine cV v2 ?_|refine cV v3 ?_|refine cP v4 ?_|refine cP cm ?_|refine cV v5 ?_|(refine aj ?_)|refine oE ?_|apply xX<;>intro hc
 ·have hf:(aa ch&&rs.all cg&&ls.all (fun l=>l.all cg)&&gs.all aa)=false:=by simpa using hok
  rw[hf];simp only[cC,aB];clear hok v5 h4;generalize aa ch=b1 at*;generalize rs.all cg=b2 at*;generalize (ls.all fun l=>l.all cg)=b3 at*
  generalize gs.all aa=b4 at*;cases b1
  ·refine eW call398 func398 ?_;repeat' first|simp only[go_sem,seval,bJ,l1,l2,l3,l4]|refine cP v1 ?_|refine cV v2 ?_|refine cV v3 ?_|refine cP v4 ?_|refine oE ?_|apply xX<;>intro hc
  ·cases b2
   ·refine eW call398 func398 ?_;repeat' first|simp only[go_sem,seval,bJ,l1,l2,l3,l4]|refine cP v1 ?_|refine cV v2 ?_|refine cV v3 ?_|refine cP v4 ?_|refine oE ?_|apply xX<;>intro hc
   ·cases b3
    ·refine eW call398 func398 ?_;repeat' first|simp only[go_sem,seval,bJ,l1,l2,l3,l4]|refine cP v1 ?_|refine cV v2 ?_|refine cV v3 ?_|refine cP v4 ?_|refine oE ?_|apply xX<;>intro hc
    ·cases b4
     ·refine eW call398 func398 ?_;repeat' first|simp only[go_sem,seval,bJ,l1,l2,l3,l4]|refine cP v1 ?_|refine cV v2 ?_|refine cV v3 ?_|refine cP v4 ?_|refine oE ?_|apply xX<;>intro hc
     ·exact aP hf (by simp)
abbrev PZ0:PV:= .agg [.sl [], .s [], .sl []]
abbrev B0:PV:= .agg [.sl [], .sl []]
theorem Lg (hr:tF c sl) {s:cG} {gs:List Bytes} (h1:rs.length<1000000) (h2:gs.length<=1000) (h3:ls.length<=1000) (h4: ∀l∈ls,l.length<4611686018427387904) (hf:fV c s.vars.length ch rs gs ls≠0):
  aE 279 [X0 c sl s,wE ch rs gs ls] (.tup [PZ0,B0,E (fV c s.vars.length ch rs gs ls)]):=by
 have hfo:=CT (c:=c) (sl:=sl) hr.vc s ch rs gs ls h1 h2 h3 h4;have hb:(fV c s.vars.length ch rs gs ls==0)=false:=by simpa using hf
 generalize fV c s.vars.length ch rs gs ls=e at*;obtain⟨gq,vs,es⟩:=s;simp only[X0,wE]at hfo⊢;refine eW call279 func279 ?_;repeat' first|simp only[go_sem,seval,hb]|refine cP hfo ?_|refine oE ?_|apply xX<;>intro hc
 all_goals skip
abbrev sW:Bytes:=[100,111,109,105,110,111,32,112,114,111,111,102]
abbrev wC:Bytes:=[99,111,110,116,101,120,116]
abbrev H3:Bytes:=[102,111,114,109,117,108,97]
abbrev Pq:Bytes:=[102,105,114,115,116]
def xp (ctx:Bytes) (s:cG) (fs:List Bytes):Bytes:=gL (fH (mJ (fH (lZ sW) wC ctx) s) H3 []) Pq fs
theorem GV (s:cG) (x:PV) (n:Bytes):aE 280 [X0 c sl s,B0, .s n] (.b true):=by
 obtain⟨gq,vs,es⟩:=s;simp only[X0];refine eW call280 func280 ?_;exact z0
noncomputable def ph (s:cG) (ch:Bytes) (rs:List (Bool×Bytes)):List Bytes:=s.eqs.map fun q=>bQ (gn s.groups ch rs q)
theorem BO {nv:Nat} {gs:List Bytes} (h:fV c nv ch rs gs ls=0):gs=[]/\ls=[]:=by
 unfold fV at h
 split at h
 ·exact aP h oC
 ·split at h
  ·exact aP h oC
  ·rename_i hm;exact⟨iq fun h=>hm (.inr (.inl h)),iq fun h=>hm (.inr (.inr h))⟩
def xC (b:Bytes) (i:Nat):dM:=⟨b,i,false,[1]⟩
structure abM (s:cG):Prop where
 l:s.eqs.length=s.vars.length
 t: ∀i,i<s.eqs.length-> ∃b,(s.eqs.getD i fJ).terms=[xC b i]
end Go.Proofs.Tryz
namespace Go.Proofs.Tryz
open Go Go.Dom Go.Num
theorem kS {n i:Nat} {p:Nat->Bool} (hi:i<n) (h:p i=false):(List.range n).all p=false:=by
 rw[dn];intro g;have:=bH.1 g i (fN.2 hi);rw[h]at this;cases this
theorem lu {n:Nat} {p:Nat->Bool} (h: ∀i,i<n->p i=true):(List.range n).all p=true:=by
 rw[bH];intro i hi;exact h i (fN.1 hi)
theorem IT {L:List Bytes} {es:List c9} (hl:L.length=es.length) (h: ∀j,j<es.length->L.getD j []=(es.getD j fJ).tgt):L=es.map (·.tgt):=by
 refine rG (by simpa using hl) fun j h1 h2=> ?_
 have h2:j<es.length:=by simpa using h2
 have:=h j h2;rw[b9,b9,cb h1,cb h2]at this;simpa using this
theorem Bt (l:List Bytes) (hl:l.length<1000000):aE 80 [.sl (l.map .s)] (.sl (l.map .s)):=by
 cases l with
 |nil=>exact Io
 |cons x r=>
  rw[bV];have k1:(PV.s x::r.map .s)=(x::r).map .s:=rfl;have k0:(r.map PV.s).length=r.length:=aG ..;refine eW call80 func80 ?_;refine eJ @k0 ?_;obtain⟨-,r2,r3,-⟩:=LL r;obtain⟨-,-,-,r4⟩:=LL (x::r);rw[oe];refine⟨⟨fun x hx=>gA hx,fun x hx=>bH.1 r2 x hx,by simp at hl;omega,by simp at hl;omega⟩,?_⟩
  simp only[aG,aD,r3,r2,fX,and_self,aB,Option.map_some];exact⟨trivial,congrArg PV.sl r4⟩
theorem S3 (v1 v2 v3:Value) (w:World):CallsD prog 327 #[v1,v2,v3] .returning w fun e u' w'=>e= .returned (.tuple #[])/\u'= .returning/\w'=w:=by
 refine callsD_of_wpS func327 rfl fun c₀ cs hu=> ?_
 apply wpS_seq;apply wpS_region;simp[wpOpsS,go_sem,recoverD,hu,Tryz.ntmps327,Exit.thenS];apply wpS_seq;apply wpS_region;simp[wpOpsS,go_sem,Exit.thenS];refine wpS_cond (t:=false) (by simp[Act.eval,Array.replicate]) ?_
 simp only[bM,az];refine wpS_of_wp (wp_skip ?_);cases c₀;simp_all[bodyPostS,results,Tryz.results327]
noncomputable abbrev sV:Code:=Tryz.f203.body.getD .skip
theorem aa1 (a:Act) (w:World) (Q:Exit->Act->World->Prop) (hd:a.defers=[]) (hs:a.tmps.size=Tryz.f203.ntmps) (hQ: ∀a' d,a'.tmps.size=Tryz.f203.ntmps->(∀k,k≠56->a'.tmps.getD k undef=a.tmps.getD k undef)->a'.defers=[d]->Idle prog d->Q .normal a' w):(vz (GM 5 sV)).wp prog Q a w:=by
 have hmf: ∀(fn:Fn) (first cap:Array Value) (w:World),(Instr.makeFunc fn first cap).run prog w= .ok (.func fn first cap) w:=fun _ _ _ _=>rfl
 show(Code.region 6 _ false).wp prog Q a w;apply wp_region;simp[wpOps,go_sem,hd];have h10:56<a.tmps.size:=by rw[hs,Tryz.ntmps203];decide
 refine .inl ?_;refine .inl ?_;rw[ah h10];refine hQ {tmps:=a.tmps.setIfInBounds 56 (.func (.func 327) #[] #[a.tmps[8]?.getD undef,a.tmps[9]?.getD undef,a.tmps[10]?.getD undef]),defers:=[⟨.fn (.func 327) #[a.tmps[8]?.getD undef,a.tmps[9]?.getD undef,a.tmps[10]?.getD undef], #[]⟩]} ⟨.fn (.func 327) #[a.tmps[8]?.getD undef,a.tmps[9]?.getD undef,a.tmps[10]?.getD undef], #[]⟩ ?_ ?_ ?_ ⟨.func 327, #[a.tmps[8]?.getD undef,a.tmps[9]?.getD undef,a.tmps[10]?.getD undef],327, #[a.tmps[8]?.getD undef,a.tmps[9]?.getD undef,a.tmps[10]?.getD undef],rfl,fun w=>⟨?_,S3 _ _ _ w⟩⟩
 ·simp[hs]
 ·intro k hk;simp[yq (kQ hk)]
 ·rfl
 ·simp[invoke,go_sem]
theorem S2:Tryz.f203.body=some (S7 [vz (GM 0 sV),vz (GM 1 sV),vz (GM 2 sV),vz (GM 3 sV),vz (GM 4 sV)] (.seq (vz (GM 5 sV)) (GM 6 sV))):=by kernel_rfl
theorem OI {nt:Nat} {c:Code} {sc:SC} {r:List Code} {s s1 s2:AS} (h:CW prog (fun e x=>e= .normal/\s1.Le x) sc [] s) (hr:Ux prog nt r s1 s2) (hc:j7 prog Xf nt c=some sc:=by cbv) (hng:sc.eU=true:=by exact rfl):Ux prog nt (c::r) s s2:= .cons (ka.1 _ _ _ hc) hng (CW.start h) hr
theorem S1 (vs:List Bytes) (sd:Bytes) (a:Int) (hl:vs.length<1000000):aE 203 [C0, .sl [], .s [],T vs sd a] (.tup [.agg [.sl [], .sl [], .sl [], .sl []],T vs sd a,E 0]):=by
 have hc:=Bt vs hl;have ho:aE 217 [C0] (.s []):=by
  refine eW call217 func217 ?_;exact Qc
 refine qX.Om (sl:=56) (pre:=[vz (GM 0 sV),vz (GM 1 sV),vz (GM 2 sV),vz (GM 3 sV),vz (GM 4 sV)]) (cD:=vz (GM 5 sV)) (c2:=GM 6 sV) (s2:=⟨[(1, .v (.sl [])),(8, .p 1002 0 0),(9, .p 1003 0 0),(10, .p 1004 0 0),(11, .v (.sl [])),(12, .p 1014 0 0)],[(1002,⟨0,[.sn, .sn, .sn, .sn],false,some 165⟩),(1003,⟨0,[.sn, .v (.s []), .v (.i .i64 0)],false,some 41⟩),(1004,⟨0,[.v (.i .i64 0)],false,some 53⟩),(1014,⟨0,[.v (.sl []), .v (.sl []), .v (.s []), .v (.sl (vs.map .s)), .v (.s sd), .v (.i .i64 a), .v (.sl []), .rs 1020 0 0 0 1, .rs 1024 0 0 0 1, .rs 1028 0 0 0 1],false,none⟩),(1020,⟨0,[],false,none⟩),(1024,⟨0,[],false,none⟩),(1028,⟨0,[],false,none⟩)],1042⟩) mixed call203 func203 S2 rfl (ka.1 _ _ _ (by cbv)) (ka.2 _ _ (by cbv)) aa1 (dr rfl) rfl (OI (s1:=⟨[(1, .v (.sl [])),(2, .v (.s [])),(4, .p 1000 0 0),(7, .p 1001 0 0),(8, .p 1002 0 0),(9, .p 1003 0 0),(10, .p 1004 0 0)],[(1000,⟨0,[.v (.sl []), .v (.sl [])],false,none⟩),(1001,⟨0,[.v (.sl (vs.map .s)), .v (.s sd), .v (.i .i64 a)],false,none⟩),(1002,⟨0,[.sn, .sn, .sn, .sn],false,some 165⟩),(1003,⟨0,[.sn, .v (.s []), .v (.i .i64 0)],false,some 41⟩),(1004,⟨0,[.v (.i .i64 0)],false,some 53⟩)],1005⟩) ?_ (OI (s1:=⟨[(1, .v (.sl [])),(2, .v (.s [])),(4, .p 1000 0 0),(7, .p 1001 0 0),(8, .p 1002 0 0),(9, .p 1003 0 0),(10, .p 1004 0 0),(11, .v (.sl []))],[(1000,⟨0,[.v (.sl []), .v (.sl [])],false,none⟩),(1001,⟨0,[.v (.sl (vs.map .s)), .v (.s sd), .v (.i .i64 a)],false,none⟩),(1002,⟨0,[.sn, .sn, .sn, .sn],false,some 165⟩),(1003,⟨0,[.sn, .v (.s []), .v (.i .i64 0)],false,some 41⟩),(1004,⟨0,[.v (.i .i64 0)],false,some 53⟩)],1009⟩) ?_ (OI (s1:=⟨[(1, .v (.sl [])),(2, .v (.s [])),(4, .p 1000 0 0),(7, .p 1001 0 0),(8, .p 1002 0 0),(9, .p 1003 0 0),(10, .p 1004 0 0),(11, .v (.sl [])),(12, .p 1014 0 0)],[(1000,⟨0,[.v (.sl []), .v (.sl [])],false,none⟩),(1001,⟨0,[.v (.sl (vs.map .s)), .v (.s sd), .v (.i .i64 a)],false,none⟩),(1002,⟨0,[.sn, .sn, .sn, .sn],false,some 165⟩),(1003,⟨0,[.sn, .v (.s []), .v (.i .i64 0)],false,some 41⟩),(1004,⟨0,[.v (.i .i64 0)],false,some 53⟩),(1014,⟨0,[.v (.sl []), .v (.sl []), .v (.s []), .v (.sl (vs.map .s)), .v (.s sd), .v (.i .i64 a), .sn, .sn, .sn, .sn],false,none⟩)],1016⟩) ?_ ?_))) (CW.start ?_)
 ·simp only[nU,List.mapIdx_nil];refine xF ?_;exact lE
 ·refine xF ?_;exact lE
 ·refine zx1 @ho ?_;exact lE
 ·refine OI (s1:=⟨[(1, .v (.sl [])),(8, .p 1002 0 0),(9, .p 1003 0 0),(10, .p 1004 0 0),(11, .v (.sl [])),(12, .p 1014 0 0)],[(1002,⟨0,[.sn, .sn, .sn, .sn],false,some 165⟩),(1003,⟨0,[.sn, .v (.s []), .v (.i .i64 0)],false,some 41⟩),(1004,⟨0,[.v (.i .i64 0)],false,some 53⟩),(1014,⟨0,[.v (.sl []), .v (.sl []), .v (.s []), .v (.sl (vs.map .s)), .v (.s sd), .v (.i .i64 a), .v (.sl []), .rs 1020 0 0 0 1, .rs 1024 0 0 0 1, .rs 1028 0 0 0 1],false,none⟩),(1020,⟨0,[],false,none⟩),(1024,⟨0,[],false,none⟩),(1028,⟨0,[],false,none⟩)],1033⟩) ?_ (OI ?_ (.nil _))
  ·refine xF ?_;exact lE
  ·refine xF ?_;exact lE
 ·exact Xn @hc
theorem MG (l:List Bytes) (hl:l.length<1000000):aE 214 [.sl (l.map .s)] (.b (l.all aa)):=by
 have h1: ∀x,aE 344 [PV.s x] (.b (!aa x)):=fun x=>by
  have hv:=aI x;generalize aa x=b at*;refine eW call344 func344 ?_;exact z1 @hv
 have hc:=iv l _ _ oO h1;rw[jG]at hc;generalize l.all aa=b at*;refine eW call214 func214 ?_;repeat' first|simp only[go_sem,seval,rP]|refine cP hc ?_|refine oE ?_|apply xX<;>intro hc
theorem Fq (vs:List Bytes) (sd:Bytes) (a:Int) (hl:vs.length<1000000):aE 201 [T vs sd a] (.b (eT vs a)):=by
 have h:=MG vs hl;unfold eT;rw[jG,rP];generalize vs.all aa=b at*;refine eW call201 func201 ?_;repeat' first|simp only[go_sem,seval]|refine cP h ?_|refine oE ?_|apply xX<;>intro hc
 all_goals simp_all
 all_goals (intros;omega)
theorem VI:aE 200 [.sl []] (.b true):=by
 have hi:aE 314 [.sl [], .fn (.func 324)] (E (-1)):=by
  refine eW call314 func314 ?_;exact Qc
 have h:aE 189 [.sl [], .fn (.func 324)] (.b false):=by
  refine eW call189 func189 ?_;exact z1 @hi
 refine eW call200 func200 ?_;exact z1 @h
theorem Xe:aE 318 [F0, .sl []] (.sl []):=by
 refine eW call318 func318 ?_;exact Qc
theorem yO:aE 196 [F0, .sl []] (.tup [.sl [],E 0]):=by
 refine eW call196 func196 ?_;exact z2 @IV @Xe
theorem Qy:aE 326 [F0, .sl []] (.tup [.sl [],E 0]):=by
 refine eW call326 func326 ?_;exact z1 @yO
theorem RK:aE 202 [C0, .sl []] (.tup [.sl [],E 0]):=by
 refine eW call202 func202 ?_;repeat' first|simp only[go_sem,seval]|(refine aj ?_)|(refine Il [1011] Qy rfl rfl rfl ?_)|refine oE ?_|apply xX<;>intro hc
abbrev BS0:PV:= .agg [.sl [], .sl [], .sl [], .sl []]
theorem Qu {vs:List Bytes} {a:Int} (sd:Bytes) (hg:eT vs a=true) (hl:vs.length<1000000):aE 102 [C0, .sl [],T vs sd a] (.tup [BS0,T vs sd a,E 0]):=by
 have h:=Fq vs sd a hl;rw[hg]at h;have hr:=S1 vs sd a hl;refine eW call102 func102 ?_;exact z7 @Iz @VI @h @RK @hr oT oT
end Go.Proofs.Tryz
namespace Go.Proofs.Tryz
open Go Go.Dom Go.Num
variable {M i:Nat} {n sd x:Bytes} {vs:List Bytes}
def ux (vs:List Bytes) (sd:Bytes) (i M:Nat):Except Int Int:=
 match ij vs sd i (bQ (2*M-1))with
 | .error e=> .error e
 | .ok x=> .ok ((num x:Int)-(M-1:Nat))
theorem wK (st:Bytes) {c:Bytes} (h:2<=num c):gK st c<num c:=aQ _ oO
theorem S6 {f:Nat->Bytes} {n:Nat}: ∀{k a:Nat},rV f n a k=some x->num x<n/\ ∃b,x=f b:=by
 intro k
 induction k with
 |zero=>intro a h;cases h
 |succ k ih=>
  intro a h;rw[rV]at h
  split at h
  ·rename_i hlt;injection h with h
   subst h;exact⟨hlt,a,rfl⟩
  ·exact ih h
theorem iX (hv:vs.all aa=true) (hn:aa n=true) (hl:vs.length<1000000) (hi:i<=2147483647) (h:ij vs sd i n= .ok x):aa x=true/\num x<num n/\i+1<=2147483647:=by
 unfold ij at h
 split at h
 ·rename_i hiv
  split at h
  ·cases h
  ·rename_i hlt;injection h with h
   subst h;exact⟨bH.1 hv _ (zo hiv),oO,oO⟩
 ·split at h
  ·cases h
  ·rename_i hs;have hi2:i≠2147483647:=fun e=>hs (.inr e)
   split at h
   ·rename_i y hy;injection h with h
    subst h;obtain⟨h1,b,hb⟩:=S6 hy;exact⟨by rw[hb];exact sw sd i b (yU hn),h1,oO⟩
   ·cases h
theorem Px {z:Int} (hv:vs.all aa=true) (h1:1<=M) (h2:2*M<da) (hl:vs.length<1000000) (hi:i<=2147483647) (h:ux vs sd i M= .ok z):z.natAbs<M/\i+1<=2147483647:=by
 unfold ux at h
 split at h
 ·cases h
 ·rename_i x hx;obtain⟨-,h3,h4⟩:=iX hv (vB oO) hl hi hx;rw[ba]at h3;injection h with h
  subst h;exact⟨oO,h4⟩
theorem kq {e:Int} (h:ij vs sd i n= .error e):e=2\/e=14:=by
 unfold ij at h
 split at h
 ·split at h
  ·injection h with h;exact .inl h.symm
  ·cases h
 ·split at h
  ·injection h with h;exact .inr h.symm
  ·split at h
   ·cases h
   ·injection h with h;exact .inr h.symm
theorem LS {e:Int} (h:ux vs sd i M= .error e):e=2\/e=14:=by
 unfold ux at h
 split at h
 ·rename_i e' he;injection h with h
  subst h;exact kq he
 ·cases h
theorem tZ (h:aa x=true):fQ (num x:Int)=(false,x):=by
 have e:bQ (num x)=x:=by have:=dN h;injection this
 simp[fQ,zs,zb,e]
end Go.Proofs.Tryz
namespace Go.Proofs.Tryz
open Go Go.Dom Go.Num
variable {M i:Nat} {sd:Bytes} {vs:List Bytes}
def j9 (vs:List Bytes) (sd:Bytes) (i:Nat):Except Int Int->PV
 | .ok z=> .tup [Z z,T vs sd (i+1:Nat),E 0]
 | .error e=> .tup [.agg [.b false, .s []],T [] [] 0,E e]
theorem Bx (hv:vs.all aa=true) (hi:i<=2147483647) (hl:vs.length<1000000) (hsd:sd.length<1000000) (h1:1<=M) (h2:3*M<da):aE 323 [T vs sd i,N M] (j9 vs sd i (ux vs sd i M)):=by
 have hM:bQ M≠[]:=by rw[ne_eq,fS];omega
 have hN:aa (bQ (2*M-1))=true:=vB oO;have hr:=Aq vs sd i (bQ M) oO;rw[OY hv (vB oO) hM hi]at hr;have ha:=UE (a:=M) (b:=M) oO;have hs:=Bo (a:=M) (b:=1) oO oO;have ho:=Bo (a:=M+M) (b:=1) oO oO;have hd:=E7 (sd:=sd) hv hN (by rw[ba];omega) hi hl hsd
 rw[<-dQ]at hs ho;rw[show M+M-1=2*M-1 by omega]at ho
 unfold ux;generalize hD:ij vs sd i (bQ (2*M-1))=r at*
 cases r with
 |error e=>
  unfold lB at hd;unfold j9;rcases kq hD with rfl|rfl
  ·refine eW call323 func323 ?_;exact z7 @hr @ha @hs @ho @hd oT oT
  ·refine eW call323 func323 ?_;exact z7 @hr @ha @hs @ho @hd oT oT
 |ok x=>
  obtain⟨vx,hx,-⟩:=iX hv hN hl hi hD;rw[ba]at hx;have hz:=TK (x:=(num x:Int)) (y:=((M-1:Nat):Int)) oO;have e1:Z (num x:Int)= .agg [.b false, .s x]:=by rw[<-RO,tZ vx];rfl
  have e2:Z ((M-1:Nat):Int)= .agg [.b false,N (M-1)]:=rfl;rw[e1,e2]at hz;unfold lB at hd;unfold j9;simp only;refine eW call323 func323 ?_;exact z7 @hr @ha @hs @ho @hd @hz oT
theorem EV (sd:Bytes) (at' a k:Nat):(nZ sd at' a k).length=32*k:=by
 induction k with
 |zero=>rfl
 |succ k ih=>rw[nZ,bU,ih,tJ,C6,fG];omega
theorem F2 {at' a len:Nat} (hsd:sd.length<1000000) (ha:at'<4294967296) (ha2:a<4294967296) (hl0:0<len) (hl:len<100000):aE 231 [.s sd, .i .i64 at', .i .i64 a, .i .i64 len] (.s (yQ sd at' a len)):=by
 have hsz: ∀ _:True,IntKind.i64.wrap (((len:Int)+7).tdiv 8)=(((len+7)/8:Nat):Int):=by
  intro _;rw[JW oO,IntWalk.i64_in _ oO];omega
 have hs1:1<=(len+7)/8/\(len+7)/8<=13000:=oO;have hd7:8*((len+7)/8)-len<8/\len<=8*((len+7)/8):=oO;have d1:=wk at' ha;have d2:=wk a ha2;have n1:=pd ha;have n2:=pd ha2;unfold yQ;generalize hS:(len+7)/8=S at*;have hcl:=EV sd at' a (jl S);refine eW call231 func231 ?_;repeat' first|simp only[go_sem,seval,hsz oT]|refine oE ?_|apply xX<;>intro hc
 refine ak (α:=Nat) (fun b=>jl S-b) (fun b=>⟨[(0, .v (.s sd)),(1, .v (.i .i64 (at':Nat))),(2, .v (.i .i64 (a:Nat))),(3, .v (.i .i64 (len:Nat))),(9, .v (.i .i64 (S:Nat))),(10, .v (.s (nZ sd at' a b))),(11,E' b)],[],_⟩) (fun b=>b<=jl S) 0 (fun _=>aD _) (aO _) ?_ ?_
 ·(refine AS.Le.of (by first|decide|omega) ?_ ?_<;>simp[dw,du,aS,aC,AV.bd,AV.bd.bdL,u8,an,ar,aA])
  all_goals rfl
 ·intro b hb R hR;have hcb:=EV sd at' a b;have hb3:b<=1000:=by unfold jl at hb;omega
  by_cases hlt:32*b<S
  ·have hbr:b<jl S:=by unfold jl;omega
   have d3:=wk b oO;have n3:=pd (n:=b) oO;have hm:=SJ (k:=sd) (s:=CG at' a b) hsd (by unfold CG;simp;omega)
   have hgo:=hR (b+1) oO oO;have hbk:(tJ sd at' a b).length=32:=by unfold tJ C6;rw[fG]
   rw[<-tJ]at hm;rw[nZ]at hgo;unfold CG at hm;generalize tJ sd at' a b=x at*;generalize nZ sd at' a b=o at*;generalize Lib.decDigits at'=D1 at*;generalize Lib.decDigits a=D2 at*;generalize Lib.decDigits b=D3 at*;simp only[ft]at hm;clear hR;repeat' first|simp only[go_sem,seval,hcb,hbk,ft,bU,List.length_cons,List.length_nil]|refine cP d1 ?_|refine cP d2 ?_|refine cP d3 ?_|refine cP hm ?_|refine oE ?_|apply xX<;>intro hc
   refine hgo _ ?_;exact lE
  ·obtain rfl:b=jl S:=by unfold jl at hb⊢;omega
   clear hR;obtain⟨x0,r,hxr⟩: ∃x0 r,nZ sd at' a (jl S)=x0::r:=by
    cases h:nZ sd at' a (jl S)with
    |nil=>rw[h]at hcl;unfold jl at hcl;simp at hcl;omega
    |cons x0 r=>exact⟨_,_,rfl⟩
   rw[hxr]at hcl hcb⊢;rw[vT hs1.1];have hx0:=x0.toNat_lt;refine dH @hcb ?_;refine ak (α:=Nat) (fun j=>j) (fun j=>⟨[(3, .v (.i .i64 (len:Nat))),(9, .v (.i .i64 (S:Nat))),(10, .v (.s (x0::r))),(12,E' (x0.toNat%2^j)),(13, .v (.i .i64 ((j:Int)-1)))],[],_⟩) (fun j=>j<=8/\8<=j+(8*S-len)) 8 (fun _=>aD _) ⟨aD _,oO⟩ ?_ ?_
   ·(refine AS.Le.of (by first|decide|omega) ?_ ?_<;>simp[dw,du,aS,aC,AV.bd,AV.bd.bdL,u8,an,ar,aA])
    all_goals omega
   ·rintro j ⟨hj,hjd⟩ R hR
    by_cases hlt2:9<=j+(8*S-len)
    ·obtain⟨k,rfl⟩: ∃k,j=k+1:=⟨j-1,oO⟩;have hgo:=hR k ⟨oO,oO⟩ oO;have hj1:((((k+1:Nat):Int)-1).toNat)=k:=oO;have hsh: ∀ _:True,IntKind.i64.wrap (1*2^(if k<=64 then k else 64))=((2^k:Nat):Int):=fun _=>by
      have hp:2^k<=2^7:=cQ oC oO;rw[ah oO,uO,show(2:Int)^k=((2^k:Nat):Int) by simp]
      exact(fun(B:Nat) (h:B<=2^7)=>IntWalk.i64_in (B:Int) oO) _ hp
     have hA:=Nat.mod_pow_succ (x:=x0.toNat) (b:=2) (k:=k);have hC:=aQ x0.toNat (gZ (n:=k) (show 0<2 by decide))
     have hp:2^k<=2^7:=cQ oC oO;have ht2:x0.toNat/2^k%2<2:=aQ _ oC;generalize x0.toNat/2^k%2=tt at*;generalize x0.toNat%2^(k+1)=A at*;generalize x0.toNat%2^k=C at*;generalize 2^k=B at*;have htt:tt=0/\A=C\/tt=1/\A=C+B:=by
      have:tt=0\/tt=1:=oO;rcases this with rfl|rfl
      ·left;simpa using hA
      ·right;simpa using hA
     clear hA ht2 hR hxr;rcases htt with⟨-,rfl⟩|⟨-,rfl⟩
     ·refine eJ (aN @hj1 (hsh oT)) ?_;refine hgo _ ?_
      (refine AS.Le.of (by first|decide|omega) ?_ ?_<;>simp[dw,du,aS,aC,AV.bd,AV.bd.bdL,u8,an,ar,aA])
      all_goals omega
     ·refine eJ (aN @hj1 (hsh oT)) ?_;refine hgo _ ?_
      (refine AS.Le.of (by first|decide|omega) ?_ ?_<;>simp[dw,du,aS,aC,AV.bd,AV.bd.bdL,u8,an,ar,aA])
      all_goals omega
    ·obtain rfl:j=8-(8*S-len):=oO;clear hR;have hlr:r.length+1=32*jl S:=by simpa using hcb
     have hle:=rM x0.toNat (2^(8-(8*S-len)));generalize x0.toNat%2^(8-(8*S-len))=y at*;have hw8: ∀ _:True,IntKind.u8.wrap (y:Int)=(y:Int):=fun _=>by show(((UInt8.ofNat y).toNat:Nat):Int)=y;rw[UInt8.toNat_ofNat_of_lt' (show y<256 by omega)]
     have hcut: ∀z:UInt8,List.take S (z::r)=z::List.take (S-1) r:=fun z=>by
      obtain⟨S',rfl⟩: ∃S',S=S'+1:=⟨S-1,oO⟩;rfl
     have hca:=LG (UInt8.ofNat y::List.take (S-1) r) (by simp;omega)
     have hl3:(List.take (S-1) r).length<=r.length:=by rw[cd];exact Nat.min_le_right _ _
     rw[hcut];have hcd:List.drop 1 (List.take S (x0::r))=List.take (S-1) r:=by rw[hcut];rfl
     exact jE (aN (hw8 oT) @hcd) @hca
theorem qI (vs:List Bytes) (sd:Bytes) (a:Int) (hl:vs.length<1000000):aE 45 [T vs sd a] (.b (eT vs a)):=by
 unfold eT;rw[GW,rP];have l1:(vs.map PV.s).length=vs.length:=aG ..;refine eW call45 func45 ?_;refine qi ?_;refine ak (α:=Nat) (fun i=>vs.length-i) (fun i=>⟨[(1, .p 1000 0 0),(3,E' i)],[(1000,⟨0,[.v (.sl (vs.map .s)), .v (.s sd), .v (.i .i64 a)],false,none⟩)],_⟩) (fun i=>i<=vs.length/\(vs.drop i).all aa=vs.all aa) 0 (fun _=>aD _) ⟨aO _,rfl⟩ ?_ ?_
 ·exact lE
 ·rintro i ⟨hi,hf⟩ R hR;rw[<-hf]
  by_cases hlt:i<vs.length
  ·have e1:=gU hlt;have hgo:=hR (i+1);rw[<-hf]at hgo;rw[drop_cons hlt,List.all_cons]at hgo⊢;generalize vs.getD i []=x at*;clear hf hR;have hv:=aH x;generalize aa x=b at*;cases b
   ·repeat' first|simp only[go_sem,seval,l1,e1]|refine cP hv ?_|refine oE ?_|apply xX<;>intro hc
    all_goals simp
   ·have hgo:=hgo ⟨oO,by simp⟩ oO
    exact js (aN @l1 @e1) @hgo @hv
  ·obtain rfl:i=vs.length:=oO;rw[dj];repeat' first|simp only[go_sem,seval,l1]|refine oE ?_|apply xX<;>intro hc
   all_goals simp_all
   all_goals (intros;omega)
theorem F8 {n:Bytes} (hv:vs.all aa=true) (hn:aa n=true) (h0:num n≠0) (hi:i<=2147483647) (hl:vs.length<1000000) (hsd:sd.length<1000000):aE 112 [T vs sd i, .s n] (lB vs sd i (ij vs sd i n)):=by
 have l1:(vs.map PV.s).length=vs.length:=aG ..;have hbl:=yU hn;have hb0:0<cW (num n):=by unfold cW;rw[af h0];omega
 have hB:=Cc hn;have hA:=fun a (ha:a<256)=>F2 (sd:=sd) (at':=i) (a:=a) (len:=cW (num n)) hsd oO oO hb0 oO
 have hC:=fun a=>gF (yQ sd i a (cW (num n))) n
 have hV:=fun a=>sw sd i a hbl
 unfold ij;generalize hf:(fun a=>yQ sd i a (cW (num n)))=f
 have hA: ∀a:Nat,a<256->aE 231 [.s sd, .i .i64 i, .i .i64 a, .i .i64 (cW (num n))] (.s (f a)):=by rw[<-hf];exact hA
 have hC: ∀a,aE 46 [.s (f a), .s n] (E (aW (num (f a)) (num n))):=by
  intro a;have h:=hC a;rw[hV,hn]at h;rw[<-hf];exact h
 clear hf hV
 by_cases hvn:vs=[]
 ·have hz:vs.length=0:=by rw[hvn];rfl
  have hm0:vs.map PV.s=[]:=by rw[hvn];rfl
  rw[af oO]
  by_cases hs:sd=[]\/i=2147483647
  ·rw[ah hs];refine eW call112 func112 ?_;repeat' first|simp only[go_sem,seval,ah hz,l1]|refine oE ?_|apply xX<;>intro hc
   refine⟨fun x hx=>gA hx,?_⟩
   have hnl: ∀ _:True,(([]:Bytes)==[])=true:=fun _=>rfl
   have h47: ∀ _:True,((2147483647:Int)==2147483647)=true:=fun _=>rfl
   rcases hs with rfl|rfl
   ·exact fP (aN @l1 (aN (hnl oT) @l1))
   ·cases hsb:sd==[]with
    |true=>
     exact fP (aN @l1 (aN @hsb @l1))
    |false=>
     exact fP (aN @l1 (aN @hsb (aN (h47 oT) @l1)))
  ·rw[af hs];refine eW call112 func112 ?_;repeat' first|simp only[go_sem,seval,ah hz,l1]|refine oE ?_|apply xX<;>intro hc
   refine⟨fun x hx=>gA hx,?_⟩
   have hs1:sd≠[]:=fun h=>hs (.inl h)
   have hs2:i≠2147483647:=fun h=>hs (.inr h)
   have hsb:(sd==[])=false:=by rw[dL];exact hs1
   have hi47: ∀ _:True,((i:Int)==2147483647)=false:=fun _=>by rw[dL];omega
   refine dH (aN @l1 (aN @hsb (aN (hi47 oT) @l1))) ?_;refine ak (α:=Nat) (fun a=>256-a) (fun a=>⟨[(8, .v (.i .i64 a)),(1, .v (.s n)),(2, .p 1000 0 0),(5, .p 1002 0 0),(7, .p 1010 0 0)],[(1000,⟨0,[.v (.sl (vs.map .s)), .v (.s sd), .v (.i .i64 i)],false,none⟩),(1002,⟨0,[.sn, .v (.s []), .v (.i .i64 0)],false,some 41⟩),(1010,⟨0,[.sn, .v (.s sd), .v (.i .i64 ((i:Int)+1))],false,some 41⟩)],_⟩) (fun a=>a<=256/\rV f (num n) a (256-a)=rV f (num n) 0 256) 0 (fun _=>aD _) ⟨aO _,rfl⟩ ?_ ?_
   ·(refine AS.Le.of (by first|decide|omega) ?_ ?_<;>simp[dw,du,aS,aC,AV.bd,AV.bd.bdL,u8,an,ar,aA])
    all_goals rfl
   ·rintro a ⟨ha,hst⟩ R hR;rw[<-hst]
    by_cases hlt:a<256
    ·obtain⟨m,hm⟩: ∃m,256-a=m+1:=⟨255-a,oO⟩;have hAa:=hA a hlt;have hCa:=hC a;have hgo:=hR (a+1);rw[hm,rV]
     by_cases hle:num (f a)<num n
     ·rw[ah hle];have hcm: ∀ _:True,decide (aW (num (f a)) (num n)<0)=true:=fun _=>by rw[qv];exact aU hle
      generalize aW (num (f a)) (num n)=cm at*;repeat' first|simp only[go_sem,seval,hcm oT,hm0]|refine cP hB ?_|refine cP hAa ?_|refine cP hCa ?_|refine oE ?_|apply xX<;>intro hc
      all_goals (unfold lB;simp only[T,hm0];rfl)
     ·rw[af hle];have hgo:=hgo ⟨hlt,by rw[<-hst,hm,rV,af hle,show 256-(a+1)=m from by omega]⟩ oO
      have hcm: ∀ _:True,decide (aW (num (f a)) (num n)<0)=false:=fun _=>by rw[qv];exact bu hle
      generalize aW (num (f a)) (num n)=cm at*;exact aaa (hcm oT) @hgo @hB @hAa @hCa oT
    ·obtain rfl:a=256:=oO;exact z0
 ·obtain⟨r1,r2,r3,r4⟩:=LL vs;have hz:vs.length≠0:=fun h=>hvn (eH.1 h)
  by_cases hiv:i<vs.length
  ·rw[ah hiv];have hx:aa (vs.getD i [])=true:=bH.1 hv _ (zo hiv);have hcm:=gF (vs.getD i []) n;rw[hx,hn]at hcm;simp only[cT,aB]at hcm;have e1:=gU hiv;have e2:decide (aW (num (vs.getD i [])) (num n)>=0)= !decide (num (vs.getD i [])<num n):=Fm _ _;generalize aW (num (vs.getD i [])) (num n)=cm at*;generalize vs.getD i []=x at*;clear hA hC
   by_cases hle:num n<=num x
   ·rw[ah hle];rw[bu (show¬num x<num n by omega)]at e2
    refine eW call112 func112 ?_;repeat' first|simp only[go_sem,seval,af hz,l1]|refine oE ?_|apply xX<;>intro hc
    refine⟨⟨fun x hx=>gA hx,fun y hy=>kA hy,oO,oO⟩,?_⟩
    exact jE (aN @l1 (aN @e1 @e2)) @hcm
   ·rw[af hle];rw[aU (show num x<num n by omega)]at e2
    refine eW call112 func112 ?_;repeat' first|simp only[go_sem,seval,af hz,l1]|refine oE ?_|apply xX<;>intro hc
    refine⟨⟨fun x hx=>gA hx,fun y hy=>kA hy,oO,oO⟩,?_⟩
    exact jE (aN @l1 (aN @e1 (aN @e2 (aN @r2 (aN @r3 (aN @r4 (aN @oe @fX))))))) @hcm
  ·rw[af hiv]
   by_cases hs:sd=[]\/i=2147483647
   ·rw[ah hs];refine eW call112 func112 ?_;repeat' first|simp only[go_sem,seval,af hz,l1]|refine oE ?_|apply xX<;>intro hc
    refine⟨⟨fun x hx=>gA hx,fun y hy=>kA hy,oO,oO⟩,?_⟩
    have hnl: ∀ _:True,(([]:Bytes)==[])=true:=fun _=>rfl
    have h47: ∀ _:True,((2147483647:Int)==2147483647)=true:=fun _=>rfl
    rcases hs with rfl|rfl
    ·exact fP (aN @l1 (aN (hnl oT) @l1))
    ·cases hsb:sd==[]with
     |true=>
      exact fP (aN @l1 (aN @hsb @l1))
     |false=>
      exact fP (aN @l1 (aN @hsb (aN (h47 oT) @l1)))
   ·rw[af hs];refine eW call112 func112 ?_;repeat' first|simp only[go_sem,seval,af hz,l1]|refine oE ?_|apply xX<;>intro hc
    refine⟨⟨fun x hx=>gA hx,fun y hy=>kA hy,oO,oO⟩,?_⟩
    have hs1:sd≠[]:=fun h=>hs (.inl h)
    have hs2:i≠2147483647:=fun h=>hs (.inr h)
    have hsb:(sd==[])=false:=by rw[dL];exact hs1
    have hi47: ∀ _:True,((i:Int)==2147483647)=false:=fun _=>by rw[dL];omega
    refine dH (aN @l1 (aN @hsb (aN (hi47 oT) @l1))) ?_;refine ak (α:=Nat) (fun a=>256-a) (fun a=>⟨[(8, .v (.i .i64 a)),(1, .v (.s n)),(2, .p 1000 0 0),(5, .p 1002 0 0),(7, .p 1010 0 0)],[(1000,⟨0,[.v (.sl (vs.map .s)), .v (.s sd), .v (.i .i64 i)],false,none⟩),(1002,⟨0,[.sn, .v (.s []), .v (.i .i64 0)],false,some 41⟩),(1010,⟨0,[.rs 1016 0 0 vs.length 1, .v (.s sd), .v (.i .i64 ((i:Int)+1))],false,some 41⟩),(1016,⟨0,List.map AV.v (vs.map .s),true,some 22⟩)],_⟩) (fun a=>a<=256/\rV f (num n) a (256-a)=rV f (num n) 0 256) 0 (fun _=>aD _) ⟨aO _,rfl⟩ ?_ ?_
    ·(refine AS.Le.of (by first|decide|omega) ?_ ?_<;>simp[dw,du,aS,aC,AV.bd,AV.bd.bdL,u8,an,ar,aA])
     all_goals rw[oe,ig]
    ·rintro a ⟨ha,hst⟩ R hR;rw[<-hst]
     by_cases hlt:a<256
     ·obtain⟨m,hm⟩: ∃m,256-a=m+1:=⟨255-a,oO⟩;have hAa:=hA a hlt;have hCa:=hC a;have hgo:=hR (a+1);rw[hm,rV]
      by_cases hle:num (f a)<num n
      ·rw[ah hle];have hcm: ∀ _:True,decide (aW (num (f a)) (num n)<0)=true:=fun _=>by rw[qv];exact aU hle
       generalize aW (num (f a)) (num n)=cm at*;exact wO (aN (hcm oT) (aN @r2 (aN @r3 (aN @r4 (aN @oe @fX))))) @hB @hAa @hCa oT
      ·rw[af hle];have hgo:=hgo ⟨hlt,by rw[<-hst,hm,rV,af hle,show 256-(a+1)=m from by omega]⟩ oO
       have hcm: ∀ _:True,decide (aW (num (f a)) (num n)<0)=false:=fun _=>by rw[qv];exact bu hle
       generalize aW (num (f a)) (num n)=cm at*;exact aaa (hcm oT) @hgo @hB @hAa @hCa oT
     ·obtain rfl:a=256:=oO;exact z0
theorem Ap (hv:vs.all aa=true) (hi:i<=2147483647) (hl:vs.length<1000000) (hsd:sd.length<1000000) (h1:1<=M) (h2:3*M<da):aE 244 [T vs sd i,N M] (j9 vs sd i (ux vs sd i M)):=by
 have hM:bQ M≠[]:=by rw[ne_eq,fS];omega
 have hMb:(bQ M==[])=false:=by simpa using hM
 have hN:aa (bQ (2*M-1))=true:=vB oO;have hr:=qI vs sd i hl;rw[tV hv hi]at hr;have hva:=aH (bQ M);rw[vB oO]at hva;have hs:=Jw (a:=M) (b:=1) oO oO;have ho:=OO (a:=M) (b:=M-1) oO;have hd:=F8 (sd:=sd) hv hN (by rw[ba];omega) hi hl hsd
 have hf2:=sT (n:=M-1) oO;rw[<-dQ]at hs;rw[show M+(M-1)=2*M-1 by omega]at ho
 unfold ux;generalize hD:ij vs sd i (bQ (2*M-1))=r at*
 cases r with
 |error e=>
  unfold lB at hd;unfold j9;rcases kq hD with rfl|rfl
  ·refine eW call244 func244 ?_;exact P7 @hMb @hr @hva @FW @hs @ho @hd oT
  ·refine eW call244 func244 ?_;exact P7 @hMb @hr @hva @FW @hs @ho @hd oT
 |ok x=>
  obtain⟨vx,hx,-⟩:=iX hv hN hl hi hD;rw[ba]at hx;have hz:=OT (x:=(num x:Int)) (y:=((M-1:Nat):Int)) oO;have hf1:=sT (n:=num x) oO;rw[dN vx]at hf1;unfold lB at hd;unfold j9;simp only;refine eW call244 func244 ?_;exact Ex @hMb @hr @hva @FW @hs @ho @hd @hf1 @hf2 @hz oT oT oT
