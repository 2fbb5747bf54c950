/- Part of the proof. -/
import Derived.Test.YtkmahpcpmgedkaaGreatDoorFB32
import Derived.WideLaws
import Derived.Tactics
import Derived.Tactics2
set_option linter.all false
set_option maxHeartbeats 16000000
set_option maxRecDepth 100000
namespace Go.Proofs.Tryz
open Go Go.Dom
def AQ (b:Bytes) (i:Nat):eF:=⟨b,i,false,[1]⟩
structure abg (s:cG):Prop where
 l:s.eqs.length=s.vars.length
 t: ∀i,i<s.eqs.length-> ∃b,(s.eqs.getD i gF).terms=[AQ b i]
end Go.Proofs.Tryz
namespace Go.Proofs.Tryz
open Go Go.Dom Go.Num
theorem kY {n i:Nat} {p:Nat->Bool} (hi:i<n) (h:p i=false):(List.range n).all p=false:=by
 rw[fy];intro g;have:=bM.1 g i (dV.2 hi);rw[h]at this;cases this
theorem lO {n:Nat} {p:Nat->Bool} (h: ∀i,i<n->p i=true):(List.range n).all p=true:=by
 rw[bM];intro i hi;exact h i (dV.1 hi)
theorem Iw {L:List Bytes} {es:List da} (hl:L.length=es.length) (h: ∀j,j<es.length->L.getD j []=(es.getD j gF).tgt):L=es.map (·.tgt):=by
 refine qV (by simpa using hl) fun j h1 h2=> ?_
 have h2:j<es.length:=by simpa using h2
 have:=h j h2;rw[bu,bu,bC h1,bC h2]at this;simpa using this
end Go.Proofs.Tryz
namespace Go.Proofs.Tryz
open Go Go.Dom
theorem n8:dY dI 2:=⟨fun _=>rfl,fun x y hy=>by obtain⟨n,a⟩:=x;simp[dI,PV.cells]at hy;rcases hy with rfl|rfl<;>rfl,fun h=>oO,fun _ x=>rfl⟩
theorem HZ:aD 60 [.sl []] (.sl []):=by
 refine eW call60 func60 ?_;exact z0
theorem Jw {l:List (Bool×Bytes)} (h0:l≠[]) (hl:l.length<1000000):aD 325 [.sl (l.map dI)] (.sl (l.map dI)):=by
 obtain⟨x,r,rfl⟩: ∃x r,l=x::r:=by cases l with
  |nil=>exact aW rfl h0
  |cons a b=>exact⟨a,b,rfl⟩
 rw[br];have k1:(dI x::r.map dI)=(x::r).map dI:=rfl;have k0:(r.map dI).length=r.length:=aB ..;refine eW call325 func325 ?_;refine dH @k0 ?_;have hrow:List.map AV.v ((dI x).cells++List.flatMap PV.cells (List.map dI r))=bj dI (x::r):=by
  rw[bj,eD,xW]
 have hL:((dI x).cells++List.flatMap PV.cells (List.map dI r)).length=(r.length+1)*2:=by
  have:=cz n8 (x::r);rw[<-hrow,aB]at this;exact this
 have q1:List.take ((r.length+1)*2) (bj dI (x::r))=bj dI (x::r):=cM n8 (x::r);have q2:=ff n8 (x::r);have q3:chunk 2 (r.length+1) ((x::r).flatMap fun x=>(dI x).cells)=(x::r).map dI:=dD n8 (x::r)
 have q4: ∀y∈bj dI (x::r),y.one=true:=fun y hy=>bM.1 q2 y hy
 rw[hrow];refine⟨⟨⟨n8.len x,fun y hy=>by obtain⟨z,-,rfl⟩:=bG.1 hy;exact n8.len z⟩,q4,by simp at hl;omega,by simp at hl;omega⟩,?_⟩
 simp only[hL,q1,q2,q3,fk,ay,and_self,au,Option.map_some];exact⟨trivial,rfl⟩
def X0 (c sl:Bytes) (s:cG):PV:= .agg [.s c, .s sl, .sl (s.groups.map eu), .sl (s.vars.map cl), .sl (s.eqs.map da.pv), .sl [], .sl [], .s []]
def kE (c:Bytes) (nv:Nat) (ch:Bytes) (rs:List (Bool×Bytes)) (gs:List Bytes) (ls:List (List (Bool×Bytes))):Int:=
 if !(aa ch&&rs.all cJ&&ls.all (fun l=>l.all cJ)&&gs.all aa)then 3 else if rs.length≠nv\/gs≠[]\/ls≠[]then 6 else if num c<=num ch then 2 else 0
def Lk (ch:Bytes) (rs:List (Bool×Bytes)) (gs:List Bytes) (ls:List (List (Bool×Bytes))):PV:= .agg [.s ch, .sl (rs.map dI), .sl (gs.map .s), .sl (ls.map GU)]
theorem CU {c sl:Bytes} (vc:aa c=true) (s:cG) (ch:Bytes) (rs:List (Bool×Bytes)) (gs:List Bytes) (ls:List (List (Bool×Bytes))) (h1:rs.length<1000000) (h2:gs.length<=1000) (h3:ls.length<=1000) (h4: ∀l∈ls,l.length<4611686018427387904):aD 322 [X0 c sl s,Lk ch rs gs ls] (E (kE c s.vars.length ch rs gs ls)):=by
 have v1:=aS ch;have v2:=EP rs oO;have v3:=om ls 413 [Xj] (fun l=> !l.all cJ) oO fun l hl=>EP l (h4 l hl)
 rw[nu]at v3;have v4:=np gs _ _ oO MX;rw[nu]at v4;have v5:=Zo 415 [.pt (X0 c sl s) 0];obtain⟨gq,vs,es⟩:=s;unfold GU at v2;simp only[X0,Lk,kE]at v5⊢;have l1:(rs.map dI).length=rs.length:=aB ..;have l2:(vs.map cl).length=vs.length:=aB ..;have l3:(gs.map PV.s).length=gs.length:=aB ..;have l4:(ls.map GU).length=ls.length:=aB ..
 by_cases hok:(aa ch&&rs.all cJ&&ls.all (fun l=>l.all cJ)&&gs.all aa)=true
 ·rw[hok];simp only[aZ]at hok;obtain⟨⟨⟨o1,o2⟩,o3⟩,o4⟩:=hok;rw[o1]at v1;rw[o2]at v2;rw[o3]at v3;rw[o4]at v4
  by_cases hm:rs.length≠vs.length\/gs≠[]\/ls≠[]
  ·simp only[bQ,bm,an,ah hm];have hm':rs.length≠vs.length\/(rs.length=vs.length/\gs.length≠0)\/(rs.length=vs.length/\gs.length=0/\ls.length≠0):=by
    rcases hm with h|h|h
    ·exact .inl h
    ·have:gs.length≠0:=fun h0=>h (gS.1 h0)
     omega
    ·have:ls.length≠0:=fun h0=>h (gS.1 h0)
     omega
   clear hm v5 o2 o3 o4 h4;rcases hm' with h|⟨h,h'⟩|⟨h,h',h''⟩
   all_goals (
   refine eW call322 func322 ?_;repeat' first|simp only[go_sem,seval,aV,l1,l2,l3,l4]|refine cP v1 ?_|refine cV v2 ?_|refine cV v3 ?_|refine cP v4 ?_|refine oE ?_|apply xX<;>intro hc
   try trivial)
   all_goals fail "a"
  ·simp only[bQ,bm,an,ae hm];have hm':rs.length=vs.length/\gs=[]/\ls=[]:=by
    refine⟨uy fun h=>hm (.inl h),uy fun h=>hm (.inr (.inl h)),uy fun h=>hm (.inr (.inr h))⟩
   obtain⟨e1,e2,e3⟩:=hm';subst e2;subst e3;have cm:=rG o1 vc;simp only[bK]at v3 v4;clear hm h4
   by_cases hge:num c<=num ch
   ·rw[ah hge];have h7: ∀ _:True,(0:Int)<=ba (num ch) (num c):=fun _=>kZ.2 hge
    have h5: ∀ _:True,decide (ba (num ch) (num c)>=0)=true:=fun _=>aI (h7 oT)
    generalize ba (num ch) (num c)=z at*;refine eW call322 func322 ?_;repeat' first|simp only[go_sem,seval,aV,l1,l2,h5 oT]|refine cP v1 ?_|refine cV v2 ?_|refine cV v3 ?_|refine cP v4 ?_|refine cP cm ?_|(refine ai ?_)|refine oE ?_|apply xX<;>intro hc
   ·rw[ae hge];have h7: ∀ _:True,¬(0:Int)<=ba (num ch) (num c):=fun _ h=>hge (kZ.1 h)
    have h5: ∀ _:True,decide (ba (num ch) (num c)>=0)=false:=fun _=>aH (h7 oT)
    generalize ba (num ch) (num c)=z at*;refine eW call322 func322 ?_;repeat' first|simp only[go_sem,seval,aV,l1,l2,h5 oT]|refine cP v1 ?_|refine cV v2 ?_|refine cV v3 ?_|refine cP v4 ?_|refine cP cm ?_|refine cV v5 ?_|(refine ai ?_)|refine oE ?_|apply xX<;>intro hc
 ·have hf:(aa ch&&rs.all cJ&&ls.all (fun l=>l.all cJ)&&gs.all aa)=false:=by simpa using hok
  rw[hf];simp only[ca,au];clear hok v5 h4;generalize aa ch=b1 at*;generalize rs.all cJ=b2 at*;generalize (ls.all fun l=>l.all cJ)=b3 at*
  generalize gs.all aa=b4 at*;cases b1
  ·refine eW call322 func322 ?_;repeat' first|simp only[go_sem,seval,aV,l1,l2,l3,l4]|refine cP v1 ?_|refine cV v2 ?_|refine cV v3 ?_|refine cP v4 ?_|refine oE ?_|apply xX<;>intro hc
  ·cases b2
   ·refine eW call322 func322 ?_;repeat' first|simp only[go_sem,seval,aV,l1,l2,l3,l4]|refine cP v1 ?_|refine cV v2 ?_|refine cV v3 ?_|refine cP v4 ?_|refine oE ?_|apply xX<;>intro hc
   ·cases b3
    ·refine eW call322 func322 ?_;repeat' first|simp only[go_sem,seval,aV,l1,l2,l3,l4]|refine cP v1 ?_|refine cV v2 ?_|refine cV v3 ?_|refine cP v4 ?_|refine oE ?_|apply xX<;>intro hc
    ·cases b4
     ·refine eW call322 func322 ?_;repeat' first|simp only[go_sem,seval,aV,l1,l2,l3,l4]|refine cP v1 ?_|refine cV v2 ?_|refine cV v3 ?_|refine cP v4 ?_|refine oE ?_|apply xX<;>intro hc
     ·exact aW hf (by simp)
end Go.Proofs.Tryz
namespace Go.Proofs.Tryz
open Go Go.Dom Go.Num
theorem Jy (l:List Bytes) (hl:l.length<1000000):aD 60 [.sl (l.map .s)] (.sl (l.map .s)):=by
 cases l with
 |nil=>exact HZ
 |cons x r=>
  rw[br];have k1:(PV.s x::r.map .s)=(x::r).map .s:=rfl;have k0:(r.map PV.s).length=r.length:=aB ..;refine eW call60 func60 ?_;refine dH @k0 ?_;obtain⟨-,r2,r3,-⟩:=OA r;obtain⟨-,-,-,r4⟩:=OA (x::r);rw[qg];refine⟨⟨fun x hx=>my hx,fun x hx=>bM.1 r2 x hx,by simp at hl;omega,by simp at hl;omega⟩,?_⟩
  simp only[aB,ay,r3,r2,eQ,and_self,au,Option.map_some];exact⟨trivial,congrArg PV.sl r4⟩
theorem Su (v1 v2 v3:Value) (w:World):CallsD prog 263 #[v1,v2,v3] .returning w fun e u' w'=>e= .returned (.tuple #[])/\u'= .returning/\w'=w:=by
 refine callsD_of_wpS func263 rfl fun c₀ cs hu=> ?_
 apply wpS_seq;apply wpS_region;simp[wpOpsS,go_sem,recoverD,hu,Tryz.ntmps263,Exit.thenS];apply wpS_seq;apply wpS_region;simp[wpOpsS,go_sem,Exit.thenS];refine wpS_cond (t:=false) (by simp[Act.eval,Array.replicate]) ?_
 simp only[bm,an];refine wpS_of_wp (wp_skip ?_);cases c₀;simp_all[bodyPostS,results,Tryz.results263]
noncomputable abbrev sy:Code:=Tryz.f154.body.getD .skip
theorem aau (a:Act) (w:World) (Q:Exit->Act->World->Prop) (hd:a.defers=[]) (hs:a.tmps.size=Tryz.f154.ntmps) (hQ: ∀a' d,a'.tmps.size=Tryz.f154.ntmps->(∀k,k≠56->a'.tmps.getD k undef=a.tmps.getD k undef)->a'.defers=[d]->Idle prog d->Q .normal a' w):(vu (Gl 5 sy)).wp prog Q a w:=by
 have hmf: ∀(fn:Fn) (first cap:Array Value) (w:World),(Instr.makeFunc fn first cap).run prog w= .ok (.func fn first cap) w:=fun _ _ _ _=>rfl
 show(Code.region 6 _ false).wp prog Q a w;apply wp_region;simp[wpOps,go_sem,hd];have h10:56<a.tmps.size:=by rw[hs,Tryz.ntmps154];decide
 refine .inl ?_;refine .inl ?_;rw[ah h10];refine hQ {tmps:=a.tmps.setIfInBounds 56 (.func (.func 263) #[] #[a.tmps[8]?.getD undef,a.tmps[9]?.getD undef,a.tmps[10]?.getD undef]),defers:=[⟨.fn (.func 263) #[a.tmps[8]?.getD undef,a.tmps[9]?.getD undef,a.tmps[10]?.getD undef], #[]⟩]} ⟨.fn (.func 263) #[a.tmps[8]?.getD undef,a.tmps[9]?.getD undef,a.tmps[10]?.getD undef], #[]⟩ ?_ ?_ ?_ ⟨.func 263, #[a.tmps[8]?.getD undef,a.tmps[9]?.getD undef,a.tmps[10]?.getD undef],263, #[a.tmps[8]?.getD undef,a.tmps[9]?.getD undef,a.tmps[10]?.getD undef],rfl,fun w=>⟨?_,Su _ _ _ w⟩⟩
 ·simp[hs]
 ·intro k hk;simp[yx (nT hk)]
 ·rfl
 ·simp[invoke,go_sem]
theorem St:Tryz.f154.body=some (SD [vu (Gl 0 sy),vu (Gl 1 sy),vu (Gl 2 sy),vu (Gl 3 sy),vu (Gl 4 sy)] (.seq (vu (Gl 5 sy)) (Gl 6 sy))):=by kernel_rfl
theorem N8 {nt:Nat} {c:Code} {sc:SC} {r:List Code} {s s1 s2:AS} (h:CW prog (fun e x=>e= .normal/\s1.Le x) sc [] s) (hr:T8 prog nt r s1 s2) (hc:nD prog Wm nt c=some sc:=by cbv) (hng:sc.eU=true:=by exact rfl):T8 prog nt (c::r) s s2:= .cons (nf.1 _ _ _ hc) hng (CW.start h) hr
theorem Ss (vs:List Bytes) (sd:Bytes) (a:Int) (hl:vs.length<1000000):aD 154 [C0, .sl [], .s [],T vs sd a] (.tup [.agg [.sl [], .sl [], .sl [], .sl []],T vs sd a,E 0]):=by
 have hc:=Jy vs hl;have ho:aD 168 [C0] (.s []):=by
  refine eW call168 func168 ?_;exact PG
 refine ry.NO (sl:=56) (pre:=[vu (Gl 0 sy),vu (Gl 1 sy),vu (Gl 2 sy),vu (Gl 3 sy),vu (Gl 4 sy)]) (cD:=vu (Gl 5 sy)) (c2:=Gl 6 sy) (s2:=⟨[(1, .v (.sl [])),(8, .p 1002 0 0),(9, .p 1003 0 0),(10, .p 1004 0 0),(11, .v (.sl [])),(12, .p 1014 0 0)],[(1002,⟨0,[.sn, .sn, .sn, .sn],false,some 138⟩),(1003,⟨0,[.sn, .v (.s []), .v (.i .i64 0)],false,some 37⟩),(1004,⟨0,[.v (.i .i64 0)],false,some 48⟩),(1014,⟨0,[.v (.sl []), .v (.sl []), .v (.s []), .v (.sl (vs.map .s)), .v (.s sd), .v (.i .i64 a), .v (.sl []), .rs 1020 0 0 0 1, .rs 1024 0 0 0 1, .rs 1028 0 0 0 1],false,none⟩),(1020,⟨0,[],false,none⟩),(1024,⟨0,[],false,none⟩),(1028,⟨0,[],false,none⟩)],1042⟩) mixed call154 func154 St rfl (nf.1 _ _ _ (by cbv)) (nf.2 _ _ (by cbv)) aau (bZ rfl) rfl (N8 (s1:=⟨[(1, .v (.sl [])),(2, .v (.s [])),(4, .p 1000 0 0),(7, .p 1001 0 0),(8, .p 1002 0 0),(9, .p 1003 0 0),(10, .p 1004 0 0)],[(1000,⟨0,[.v (.sl []), .v (.sl [])],false,none⟩),(1001,⟨0,[.v (.sl (vs.map .s)), .v (.s sd), .v (.i .i64 a)],false,none⟩),(1002,⟨0,[.sn, .sn, .sn, .sn],false,some 138⟩),(1003,⟨0,[.sn, .v (.s []), .v (.i .i64 0)],false,some 37⟩),(1004,⟨0,[.v (.i .i64 0)],false,some 48⟩)],1005⟩) ?_ (N8 (s1:=⟨[(1, .v (.sl [])),(2, .v (.s [])),(4, .p 1000 0 0),(7, .p 1001 0 0),(8, .p 1002 0 0),(9, .p 1003 0 0),(10, .p 1004 0 0),(11, .v (.sl []))],[(1000,⟨0,[.v (.sl []), .v (.sl [])],false,none⟩),(1001,⟨0,[.v (.sl (vs.map .s)), .v (.s sd), .v (.i .i64 a)],false,none⟩),(1002,⟨0,[.sn, .sn, .sn, .sn],false,some 138⟩),(1003,⟨0,[.sn, .v (.s []), .v (.i .i64 0)],false,some 37⟩),(1004,⟨0,[.v (.i .i64 0)],false,some 48⟩)],1009⟩) ?_ (N8 (s1:=⟨[(1, .v (.sl [])),(2, .v (.s [])),(4, .p 1000 0 0),(7, .p 1001 0 0),(8, .p 1002 0 0),(9, .p 1003 0 0),(10, .p 1004 0 0),(11, .v (.sl [])),(12, .p 1014 0 0)],[(1000,⟨0,[.v (.sl []), .v (.sl [])],false,none⟩),(1001,⟨0,[.v (.sl (vs.map .s)), .v (.s sd), .v (.i .i64 a)],false,none⟩),(1002,⟨0,[.sn, .sn, .sn, .sn],false,some 138⟩),(1003,⟨0,[.sn, .v (.s []), .v (.i .i64 0)],false,some 37⟩),(1004,⟨0,[.v (.i .i64 0)],false,some 48⟩),(1014,⟨0,[.v (.sl []), .v (.sl []), .v (.s []), .v (.sl (vs.map .s)), .v (.s sd), .v (.i .i64 a), .sn, .sn, .sn, .sn],false,none⟩)],1016⟩) ?_ ?_))) (CW.start ?_)
 ·simp only[nR,List.mapIdx_nil];refine xB ?_;exact lE
 ·refine xB ?_;exact lE
 ·refine Zk @ho ?_;exact lE
 ·refine N8 (s1:=⟨[(1, .v (.sl [])),(8, .p 1002 0 0),(9, .p 1003 0 0),(10, .p 1004 0 0),(11, .v (.sl [])),(12, .p 1014 0 0)],[(1002,⟨0,[.sn, .sn, .sn, .sn],false,some 138⟩),(1003,⟨0,[.sn, .v (.s []), .v (.i .i64 0)],false,some 37⟩),(1004,⟨0,[.v (.i .i64 0)],false,some 48⟩),(1014,⟨0,[.v (.sl []), .v (.sl []), .v (.s []), .v (.sl (vs.map .s)), .v (.s sd), .v (.i .i64 a), .v (.sl []), .rs 1020 0 0 0 1, .rs 1024 0 0 0 1, .rs 1028 0 0 0 1],false,none⟩),(1020,⟨0,[],false,none⟩),(1024,⟨0,[],false,none⟩),(1028,⟨0,[],false,none⟩)],1033⟩) ?_ (N8 ?_ (.nil _))
  ·refine xB ?_;exact lE
  ·refine xB ?_;exact lE
 ·exact TK @hc
theorem Mi (l:List Bytes) (hl:l.length<1000000):aD 165 [.sl (l.map .s)] (.b (l.all aa)):=by
 have h1: ∀x,aD 282 [PV.s x] (.b (!aa x)):=fun x=>by
  have hv:=aS x;generalize aa x=b at*;refine eW call282 func282 ?_;exact z1 @hv
 have hc:=np l _ _ oO h1;rw[nu]at hc;generalize l.all aa=b at*;refine eW call165 func165 ?_;repeat' first|simp only[go_sem,seval,ux]|refine cP hc ?_|refine oE ?_|apply xX<;>intro hc
theorem EU (vs:List Bytes) (sd:Bytes) (a:Int) (hl:vs.length<1000000):aD 152 [T vs sd a] (.b (e9 vs a)):=by
 have h:=Mi vs hl;unfold e9;rw[nu,ux];generalize vs.all aa=b at*;refine eW call152 func152 ?_;repeat' first|simp only[go_sem,seval]|refine cP h ?_|refine oE ?_|apply xX<;>intro hc
 all_goals simp_all
 all_goals (intros;omega)
theorem U8:aD 151 [.sl []] (.b true):=by
 have hi:aD 250 [.sl [], .fn (.func 260)] (E (-1)):=by
  refine eW call250 func250 ?_;exact PG
 have h:aD 140 [.sl [], .fn (.func 260)] (.b false):=by
  refine eW call140 func140 ?_;exact z1 @hi
 refine eW call151 func151 ?_;exact z1 @h
theorem Wl:aD 254 [F0, .sl []] (.sl []):=by
 refine eW call254 func254 ?_;exact PG
theorem yO:aD 147 [F0, .sl []] (.tup [.sl [],E 0]):=by
 refine eW call147 func147 ?_;exact z2 @Iz @Wl
theorem PT:aD 262 [F0, .sl []] (.tup [.sl [],E 0]):=by
 refine eW call262 func262 ?_;exact z1 @yO
theorem Re:aD 153 [C0, .sl []] (.tup [.sl [],E 0]):=by
 refine eW call153 func153 ?_;repeat' first|simp only[go_sem,seval]|(refine ai ?_)|(refine nk [1011] PT rfl rfl rfl ?_)|refine oE ?_|apply xX<;>intro hc
abbrev Zl:PV:= .agg [.sl [], .sl [], .sl [], .sl []]
theorem PQ {vs:List Bytes} {a:Int} (sd:Bytes) (hg:e9 vs a=true) (hl:vs.length<1000000):aD 72 [C0, .sl [],T vs sd a] (.tup [Zl,T vs sd a,E 0]):=by
 have h:=EU vs sd a hl;rw[hg]at h;have hr:=Ss vs sd a hl;refine eW call72 func72 ?_;exact z7 @H8 @U8 @h @Re @hr oT oT
theorem SN (x:Bool×Bytes):aD 137 [dI x] (.b (!cJ x)):=by
 obtain⟨n,a⟩:=x;have hv:=hO n a;have e:cJ (n,a)=(aa a&& !(n&&a==[])):=rfl;rw[e];generalize (aa a&& !(n&&a==[]))=b at*;simp only[dI];refine eW call137 func137 ?_;exact z1 @hv
theorem SP (b:Bytes):aD 142 [cl b] (.s b):=by
 unfold cl;refine eW call142 func142 ?_;exact z0
theorem SQ (m:Bytes):aD 143 [.sl [G m []], .fn (.func 144)] (E (-1)):=by
 have h:aD 144 [G m []] (.b false):=by
  refine eW call144 func144 ?_;exact z0
 refine eW call143 func143 ?_;refine pU ?_;refine ai ?_;refine WH @h ?_;refine ai ?_;exact z0
theorem H5 {vs:List Bytes} (sd:Bytes) {a:Int} (hl:vs.length<1000000):aD 66 [T vs sd a, .s [1],E 0] (if e9 vs a then .tup [.sl [],T vs sd a,E 0]else .tup [.sl [],T [] [] 0,E 3]):=by
 have h1:=tW vs sd a [1] oO;have e:wk vs a [1]=if e9 vs a then 0 else 3:=by unfold wk;cases e9 vs a<;>rfl
 rw[e]at h1;generalize e9 vs a=b at*;cases b
 ·refine eW call66 func66 ?_;exact z1 @h1
 ·refine eW call66 func66 ?_;exact TK @h1
end Go.Proofs.Tryz
namespace Go.Proofs.Tryz
open Go Go.Dom
variable {c ch sl:Bytes} {ls:List (List (Bool×Bytes))} {rs:List (Bool×Bytes)}
abbrev PZ0:PV:= .agg [.sl [], .s [], .sl []]
abbrev B0:PV:= .agg [.sl [], .sl []]
theorem Kv (hr:sR c sl) {s:cG} {gs:List Bytes} (h1:rs.length<1000000) (h2:gs.length<=1000) (h3:ls.length<=1000) (h4: ∀l∈ls,l.length<4611686018427387904) (hf:kE c s.vars.length ch rs gs ls≠0):
  aD 209 [X0 c sl s,Lk ch rs gs ls] (.tup [PZ0,B0,E (kE c s.vars.length ch rs gs ls)]):=by
 have hfo:=CU (c:=c) (sl:=sl) hr.vc s ch rs gs ls h1 h2 h3 h4;have hb:(kE c s.vars.length ch rs gs ls==0)=false:=by simpa using hf
 generalize kE c s.vars.length ch rs gs ls=e at*;obtain⟨gq,vs,es⟩:=s;simp only[X0,Lk]at hfo⊢;refine eW call209 func209 ?_;repeat' first|simp only[go_sem,seval,hb]|refine cP hfo ?_|refine oE ?_|apply xX<;>intro hc
 all_goals skip
abbrev sA:Bytes:=[100,111,109,105,110,111,32,112,114,111,111,102]
abbrev wu:Bytes:=[99,111,110,116,101,120,116]
abbrev HA:Bytes:=[102,111,114,109,117,108,97]
abbrev OL:Bytes:=[102,105,114,115,116]
def Bj (ctx:Bytes) (s:cG) (fs:List Bytes):Bytes:=gJ (fI (mQ (fI (mq sA) wu ctx) s) HA []) OL fs
theorem Gr (s:cG) (x:PV) (n:Bytes):aD 210 [X0 c sl s,B0, .s n] (.b true):=by
 obtain⟨gq,vs,es⟩:=s;simp only[X0];refine eW call210 func210 ?_;exact z0
noncomputable def xg (s:cG) (ch:Bytes) (rs:List (Bool×Bytes)):List Bytes:=s.eqs.map fun q=>aX (oe s.groups ch rs q)
theorem Ka {nv:Nat} {gs:List Bytes} (h:kE c nv ch rs gs ls=0):gs=[]/\ls=[]:=by
 unfold kE at h
 split at h
 ·exact aW h oC
 ·split at h
  ·exact aW h oC
  ·rename_i hm;exact⟨uy fun h=>hm (.inr (.inl h)),uy fun h=>hm (.inr (.inr h))⟩
end Go.Proofs.Tryz
namespace Go.Proofs.Tryz
open Go Go.Dom Go.Num
variable {M i:Nat} {n sd x:Bytes} {vs:List Bytes}
def uf (vs:List Bytes) (sd:Bytes) (i M:Nat):Except Int Int:=
 match gb vs sd i (aX (2*M-1))with
 | .error e=> .error e
 | .ok x=> .ok ((num x:Int)-(M-1:Nat))
theorem wF (st:Bytes) {c:Bytes} (h:2<=num c):iQ st c<num c:=aL _ oO
theorem Sz {f:Nat->Bytes} {n:Nat}: ∀{k a:Nat},rp f n a k=some x->num x<n/\ ∃b,x=f b:=by
 intro k
 induction k with
 |zero=>intro a h;cases h
 |succ k ih=>
  intro a h;rw[rp]at h
  split at h
  ·rename_i hlt;injection h with h
   subst h;exact⟨hlt,a,rfl⟩
  ·exact ih h
theorem gG (hv:vs.all aa=true) (hn:aa n=true) (hl:vs.length<1000000) (hi:i<=2147483647) (h:gb vs sd i n= .ok x):aa x=true/\num x<num n/\i+1<=2147483647:=by
 unfold gb at h
 split at h
 ·rename_i hiv
  split at h
  ·cases h
  ·rename_i hlt;injection h with h
   subst h;exact⟨bM.1 hv _ (zt hiv),oO,oO⟩
 ·split at h
  ·cases h
  ·rename_i hs;have hi2:i≠2147483647:=fun e=>hs (.inr e)
   split at h
   ·rename_i y hy;injection h with h
    subst h;obtain⟨h1,b,hb⟩:=Sz hy;exact⟨by rw[hb];exact rQ sd i b (yU hn),h1,oO⟩
   ·cases h
theorem OX {z:Int} (hv:vs.all aa=true) (h1:1<=M) (h2:2*M<cW) (hl:vs.length<1000000) (hi:i<=2147483647) (h:uf vs sd i M= .ok z):z.natAbs<M/\i+1<=2147483647:=by
 unfold uf at h
 split at h
 ·cases h
 ·rename_i x hx;obtain⟨-,h3,h4⟩:=gG hv (vB oO) hl hi hx;rw[aP]at h3;injection h with h
  subst h;exact⟨oO,h4⟩
theorem mI {e:Int} (h:gb vs sd i n= .error e):e=2\/e=14:=by
 unfold gb at h
 split at h
 ·split at h
  ·injection h with h;exact .inl h.symm
  ·cases h
 ·split at h
  ·injection h with h;exact .inr h.symm
  ·split at h
   ·cases h
   ·injection h with h;exact .inr h.symm
theorem Lj {e:Int} (h:uf vs sd i M= .error e):e=2\/e=14:=by
 unfold uf at h
 split at h
 ·rename_i e' he;injection h with h
  subst h;exact mI he
 ·cases h
theorem xH (h:aa x=true):gW (num x:Int)=(false,x):=by
 have e:aX (num x)=x:=by have:=eE h;injection this
 simp[gW,zs,zb,e]
end Go.Proofs.Tryz
namespace Go.Proofs.Tryz
open Go Go.Dom Go.Num
def kF (vs:List Bytes) (sd:Bytes) (i:Nat):Except Int Int->PV
 | .ok z=> .tup [Z z,T vs sd (i+1:Nat),E 0]
 | .error e=> .tup [.agg [.b false, .s []],T [] [] 0,E e]
theorem BC {vs:List Bytes} {sd:Bytes} {i M:Nat} (hv:vs.all aa=true) (hi:i<=2147483647) (hl:vs.length<1000000) (hsd:sd.length<1000000) (h1:1<=M) (h2:3*M<cW):aD 259 [T vs sd i,N M] (kF vs sd i (uf vs sd i M)):=by
 have hM:aX M≠[]:=by rw[ne_eq,gM];omega
 have hN:aa (aX (2*M-1))=true:=vB oO;have hr:=tW vs sd i (aX M) oO;rw[Ht hv (vB oO) hM hi]at hr;have ha:=Qh (a:=M) (b:=M) oO;have hs:=xy (a:=M) (b:=1) oO oO;have ho:=xy (a:=M+M) (b:=1) oO oO;have hd:=zk (sd:=sd) hv hN (by rw[aP];omega) hi hl hsd
 rw[<-fb]at hs ho;rw[show M+M-1=2*M-1 by omega]at ho
 unfold uf;generalize hD:gb vs sd i (aX (2*M-1))=r at*
 cases r with
 |error e=>
  unfold jS at hd;unfold kF;rcases mI hD with rfl|rfl
  ·refine eW call259 func259 ?_;exact z7 @hr @ha @hs @ho @hd oT oT
  ·refine eW call259 func259 ?_;exact z7 @hr @ha @hs @ho @hd oT oT
 |ok x=>
  obtain⟨vx,hx,-⟩:=gG hv hN hl hi hD;rw[aP]at hx;have hz:=Ti (x:=(num x:Int)) (y:=((M-1:Nat):Int)) oO;have e1:Z (num x:Int)= .agg [.b false, .s x]:=by rw[<-Rh,xH vx];rfl
  have e2:Z ((M-1:Nat):Int)= .agg [.b false,N (M-1)]:=rfl;rw[e1,e2]at hz;unfold jS at hd;unfold kF;simp only;refine eW call259 func259 ?_;exact z7 @hr @ha @hs @ho @hd @hz oT
theorem ru:dY Zp 2:=⟨fun _=>rfl,fun x y hy=>by simp[Zp,dI,gW,PV.cells]at hy;rcases hy with rfl|rfl<;>rfl,fun h=>oO,fun _ x=>rfl⟩
def NC (vs:List Bytes) (sd:Bytes) (j:Nat):Except Int (List Int)->PV
 | .ok ms=> .tup [.sl (ms.map Zp),T vs sd j,E 0]
 | .error e=> .tup [.sl [],T [] [] 0,E e]
theorem tE {c sl b:Bytes} (hr:sR c sl) (vb:aa b=true) (hb:b≠[]) (lb:b.length<=16):1<=qj c sl b/\3*qj c sl b<cW:=by
 have h1:=hr.c2;have h2:=hr.s2;have h3:=vP vb hb;unfold qj;refine⟨pF (pF oO oO) oO,?_⟩;have g1:num sl<256^8:=bH (cL sl) (dF oC hr.ls);have g2:num c<256^8:=bH (cL c) (dF oC hr.lc);have g3:num b<256^16:=bH (cL b) (dF oC lb);have g4:num sl*num c*num b<=256^8*256^8*256^16:=j8 (j8 (ku g1) (ku g2)) (ku g3);exact fh (je 3 g4) (by unfold cW;decide+kernel)
theorem uW (ms:List Int) (z:Int):bj Zp (ms++[z])=bj Zp ms++[.v (.b (zs z)), .v (.s (zb z))]:=by rw[cf];rfl

def RS (vs:List Bytes) (sd:Bytes):Except Int (Bytes×List Int×Nat)->PV
 | .ok (ch,rs,j)=> .tup [.agg [.s ch, .sl (rs.map Zp), .sl [], .sl []],T vs sd j,E 0]
 | .error e=> .tup [.agg [.s [], .sl [], .sl [], .sl []],T [] [] 0,E e]
end Go.Proofs.Tryz
namespace Go.Proofs.Tryz
open Go Go.Dom
theorem FB {s:cG} (h1:aD 297 [s.pv] (.b true)) (hr:aD 298 [s.pv] (E 0)) {w:List (Bool×Bytes)} (hw:w.length<1000000):aD 181 [s.pv, .sl (w.map dI)] (E (if !(w.all cJ)then 3 else if w.length≠s.vars.length then 6 else 0)):=by
 have l1:(w.map dI).length=w.length:=aB ..;obtain⟨gs,vs,es⟩:=s;have l2:(vs.map cl).length=vs.length:=aB ..;simp only[cG.pv]at h1 hr⊢;refine eW call181 func181 ?_;refine nc @l1 @h1 ?_;refine af (α:=Nat) (fun i=>w.length-i) (fun i=>⟨[(1, .v (.sl (w.map dI))),(2, .p 1000 0 0),(5,E' i)],[(1000,⟨0,[.v (.sl (gs.map eu)), .v (.sl (vs.map cl)), .v (.sl (es.map da.pv))],false,none⟩)],_⟩) (fun i=>i<=w.length/\(w.drop i).all cJ=w.all cJ) 0 (fun _=>ay _) ⟨aJ _,rfl⟩ ?_ ?_
 ·exact lE
 ·rintro i ⟨hi,hf⟩ R hR;rw[<-hf]
  by_cases hlt:i<w.length
  ·have e1:=getD_map dI w kJ hlt;have hgo:=hR (i+1);rw[<-hf]at hgo;rw[aT kJ hlt,List.all_cons]at hgo⊢;obtain⟨x,hx⟩: ∃x,x=w.getD i kJ:=⟨_,rfl⟩;rw[<-hx]at e1 hgo⊢;clear hx hf hR;obtain⟨n,a⟩:=x;have hv:=iw n a;have e:cJ (n,a)=(aa a&& !(n&&a==[])):=rfl;rw[e]at hgo⊢;simp only[dI]at e1;generalize (aa a&& !(n&&a==[]))=b at*;cases b
   ·clear hgo;exact mi (aN @l1 @e1) @hv
   ·have hgo:=hgo ⟨oO,by simp⟩ oO
    exact gV (aN @l1 @e1) @hgo @hv
  ·obtain rfl:i=w.length:=oO;clear hR hf;rw[cO]
   by_cases hl:w.length=vs.length
   ·repeat' first|simp only[go_sem,seval,l1,l2]|refine cP hr ?_|refine oE ?_|apply xX<;>intro hc
    all_goals simp[hl]
   ·repeat' first|simp only[go_sem,seval,l1,l2]|refine cP hr ?_|refine oE ?_|apply xX<;>intro hc
    all_goals simp[hl]
end Go.Proofs.Tryz
namespace Go.Proofs.Tryz
open Go Go.Dom Go.Num
theorem EB (sd:Bytes) (at' a k:Nat):(nX sd at' a k).length=32*k:=by
 induction k with
 |zero=>rfl
 |succ k ih=>rw[nX,bJ,ih,sU,C6,fH];omega
theorem Fz {sd:Bytes} {at' a len:Nat} (hsd:sd.length<1000000) (ha:at'<4294967296) (ha2:a<4294967296) (hl0:0<len) (hl:len<100000):aD 402 [.s sd, .i .i64 at', .i .i64 a, .i .i64 len] (.s (yQ sd at' a len)):=by
 have hsz: ∀ _:True,IntKind.i64.wrap (((len:Int)+7).tdiv 8)=(((len+7)/8:Nat):Int):=by
  intro _;rw[Jr oO,IntWalk.i64_in _ oO];omega
 have hs1:1<=(len+7)/8/\(len+7)/8<=13000:=oO;have hd7:8*((len+7)/8)-len<8/\len<=8*((len+7)/8):=oO;have d1:=qR at' ha;have d2:=qR a ha2;have n1:=oX ha;have n2:=oX ha2;unfold yQ;generalize hS:(len+7)/8=S at*;have hcl:=EB sd at' a (js S);refine eW call402 func402 ?_;repeat' first|simp only[go_sem,seval,hsz oT]|refine oE ?_|apply xX<;>intro hc
 refine af (α:=Nat) (fun b=>js S-b) (fun b=>⟨[(0, .v (.s sd)),(1, .v (.i .i64 (at':Nat))),(2, .v (.i .i64 (a:Nat))),(3, .v (.i .i64 (len:Nat))),(9, .v (.i .i64 (S:Nat))),(10, .v (.s (nX sd at' a b))),(11,E' b)],[],_⟩) (fun b=>b<=js S) 0 (fun _=>ay _) (aJ _) ?_ ?_
 ·(refine AS.Le.of (by first|decide|omega) ?_ ?_<;>simp[dy,dx,aO,az,AV.bd,AV.bd.bdL,u8,ar,ax,aA])
  all_goals rfl
 ·intro b hb R hR;have hcb:=EB sd at' a b;have hb3:b<=1000:=by unfold js at hb;omega
  by_cases hlt:32*b<S
  ·have hbr:b<js S:=by unfold js;omega
   have d3:=qR b oO;have n3:=oX (n:=b) oO;have hm:=Sf (k:=sd) (s:=CD at' a b) hsd (by unfold CD;simp;omega)
   have hgo:=hR (b+1) oO oO;have hbk:(sU sd at' a b).length=32:=by unfold sU C6;rw[fH]
   rw[<-sU]at hm;rw[nX]at hgo;unfold CD at hm;generalize sU sd at' a b=x at*;generalize nX sd at' a b=o at*;generalize Lib.decDigits at'=D1 at*;generalize Lib.decDigits a=D2 at*;generalize Lib.decDigits b=D3 at*;simp only[fw]at hm;clear hR;repeat' first|simp only[go_sem,seval,hcb,hbk,fw,bJ,List.length_cons,List.length_nil]|refine cP d1 ?_|refine cP d2 ?_|refine cP d3 ?_|refine cP hm ?_|refine oE ?_|apply xX<;>intro hc
   refine hgo _ ?_;exact lE
  ·obtain rfl:b=js S:=by unfold js at hb⊢;omega
   clear hR;obtain⟨x0,r,hxr⟩: ∃x0 r,nX sd at' a (js S)=x0::r:=by
    cases h:nX sd at' a (js S)with
    |nil=>rw[h]at hcl;unfold js at hcl;simp at hcl;omega
    |cons x0 r=>exact⟨_,_,rfl⟩
   rw[hxr]at hcl hcb⊢;rw[vL hs1.1];have hx0:=x0.toNat_lt;refine cU @hcb ?_;refine af (α:=Nat) (fun j=>j) (fun j=>⟨[(3, .v (.i .i64 (len:Nat))),(9, .v (.i .i64 (S:Nat))),(10, .v (.s (x0::r))),(12,E' (x0.toNat%2^j)),(13, .v (.i .i64 ((j:Int)-1)))],[],_⟩) (fun j=>j<=8/\8<=j+(8*S-len)) 8 (fun _=>ay _) ⟨ay _,oO⟩ ?_ ?_
   ·(refine AS.Le.of (by first|decide|omega) ?_ ?_<;>simp[dy,dx,aO,az,AV.bd,AV.bd.bdL,u8,ar,ax,aA])
    all_goals omega
   ·rintro j ⟨hj,hjd⟩ R hR
    by_cases hlt2:9<=j+(8*S-len)
    ·obtain⟨k,rfl⟩: ∃k,j=k+1:=⟨j-1,oO⟩;have hgo:=hR k ⟨oO,oO⟩ oO;have hj1:((((k+1:Nat):Int)-1).toNat)=k:=oO;have hsh: ∀ _:True,IntKind.i64.wrap (1*2^(if k<=64 then k else 64))=((2^k:Nat):Int):=fun _=>by
      have hp:2^k<=2^7:=dF oC oO;rw[ah oO,xY,show(2:Int)^k=((2^k:Nat):Int) by simp]
      exact(fun(B:Nat) (h:B<=2^7)=>IntWalk.i64_in (B:Int) oO) _ hp
     have hA:=Nat.mod_pow_succ (x:=x0.toNat) (b:=2) (k:=k);have hC:=aL x0.toNat (gR (n:=k) (show 0<2 by decide))
     have hp:2^k<=2^7:=dF oC oO;have ht2:x0.toNat/2^k%2<2:=aL _ oC;generalize x0.toNat/2^k%2=tt at*;generalize x0.toNat%2^(k+1)=A at*;generalize x0.toNat%2^k=C at*;generalize 2^k=B at*;have htt:tt=0/\A=C\/tt=1/\A=C+B:=by
      have:tt=0\/tt=1:=oO;rcases this with rfl|rfl
      ·left;simpa using hA
      ·right;simpa using hA
     clear hA ht2 hR hxr;rcases htt with⟨-,rfl⟩|⟨-,rfl⟩
     ·refine dH (aN @hj1 (hsh oT)) ?_;refine hgo _ ?_
      (refine AS.Le.of (by first|decide|omega) ?_ ?_<;>simp[dy,dx,aO,az,AV.bd,AV.bd.bdL,u8,ar,ax,aA])
      all_goals omega
     ·refine dH (aN @hj1 (hsh oT)) ?_;refine hgo _ ?_
      (refine AS.Le.of (by first|decide|omega) ?_ ?_<;>simp[dy,dx,aO,az,AV.bd,AV.bd.bdL,u8,ar,ax,aA])
      all_goals omega
    ·obtain rfl:j=8-(8*S-len):=oO;clear hR;have hlr:r.length+1=32*js S:=by simpa using hcb
     have hle:=uA x0.toNat (2^(8-(8*S-len)));generalize x0.toNat%2^(8-(8*S-len))=y at*;have hw8: ∀ _:True,IntKind.u8.wrap (y:Int)=(y:Int):=fun _=>by show(((UInt8.ofNat y).toNat:Nat):Int)=y;rw[UInt8.toNat_ofNat_of_lt' (show y<256 by omega)]
     have hcut: ∀z:UInt8,List.take S (z::r)=z::List.take (S-1) r:=fun z=>by
      obtain⟨S',rfl⟩: ∃S',S=S'+1:=⟨S-1,oO⟩;rfl
     have hca:=KV (UInt8.ofNat y::List.take (S-1) r) (by simp;omega)
     have hl3:(List.take (S-1) r).length<=r.length:=by rw[bV];exact Nat.min_le_right _ _
     rw[hcut];have hcd:List.drop 1 (List.take S (x0::r))=List.take (S-1) r:=by rw[hcut];rfl
     exact mi (aN (hw8 oT) @hcd) @hca
theorem qt (vs:List Bytes) (sd:Bytes) (a:Int) (hl:vs.length<1000000):aD 37 [T vs sd a] (.b (e9 vs a)):=by
 unfold e9;rw[CA,ux];have l1:(vs.map PV.s).length=vs.length:=aB ..;refine eW call37 func37 ?_;refine pU ?_;refine af (α:=Nat) (fun i=>vs.length-i) (fun i=>⟨[(1, .p 1000 0 0),(3,E' i)],[(1000,⟨0,[.v (.sl (vs.map .s)), .v (.s sd), .v (.i .i64 a)],false,none⟩)],_⟩) (fun i=>i<=vs.length/\(vs.drop i).all aa=vs.all aa) 0 (fun _=>ay _) ⟨aJ _,rfl⟩ ?_ ?_
 ·exact lE
 ·rintro i ⟨hi,hf⟩ R hR;rw[<-hf]
  by_cases hlt:i<vs.length
  ·have e1:=dM hlt;have hgo:=hR (i+1);rw[<-hf]at hgo;rw[drop_cons hlt,List.all_cons]at hgo⊢;generalize vs.getD i []=x at*;clear hf hR;have hv:=aK x;generalize aa x=b at*;cases b
   ·repeat' first|simp only[go_sem,seval,l1,e1]|refine cP hv ?_|refine oE ?_|apply xX<;>intro hc
    all_goals simp
   ·have hgo:=hgo ⟨oO,by simp⟩ oO
    exact gV (aN @l1 @e1) @hgo @hv
  ·obtain rfl:i=vs.length:=oO;rw[cO];repeat' first|simp only[go_sem,seval,l1]|refine oE ?_|apply xX<;>intro hc
   all_goals simp_all
   all_goals (intros;omega)
theorem FC {vs:List Bytes} {sd:Bytes} {i:Nat} {n:Bytes} (hv:vs.all aa=true) (hn:aa n=true) (h0:num n≠0) (hi:i<=2147483647) (hl:vs.length<1000000) (hsd:sd.length<1000000):aD 300 [T vs sd i, .s n] (jS vs sd i (gb vs sd i n)):=by
 have l1:(vs.map PV.s).length=vs.length:=aB ..;have hbl:=yU hn;have hb0:0<cE (num n):=by unfold cE;rw[ae h0];omega
 have hB:=Cb hn;have hA:=fun a (ha:a<256)=>Fz (sd:=sd) (at':=i) (a:=a) (len:=cE (num n)) hsd oO oO hb0 oO
 have hC:=fun a=>mA (yQ sd i a (cE (num n))) n
 have hV:=fun a=>rQ sd i a hbl
 unfold gb;generalize hf:(fun a=>yQ sd i a (cE (num n)))=f
 have hA: ∀a:Nat,a<256->aD 402 [.s sd, .i .i64 i, .i .i64 a, .i .i64 (cE (num n))] (.s (f a)):=by rw[<-hf];exact hA
 have hC: ∀a,aD 39 [.s (f a), .s n] (E (ba (num (f a)) (num n))):=by
  intro a;have h:=hC a;rw[hV,hn]at h;rw[<-hf];exact h
 clear hf hV
 by_cases hvn:vs=[]
 ·have hz:vs.length=0:=by rw[hvn];rfl
  have hm0:vs.map PV.s=[]:=by rw[hvn];rfl
  rw[ae oO]
  by_cases hs:sd=[]\/i=2147483647
  ·rw[ah hs];refine eW call300 func300 ?_;repeat' first|simp only[go_sem,seval,ah hz,l1]|refine oE ?_|apply xX<;>intro hc
   refine⟨fun x hx=>my hx,?_⟩
   have hnl: ∀ _:True,(([]:Bytes)==[])=true:=fun _=>rfl
   have h47: ∀ _:True,((2147483647:Int)==2147483647)=true:=fun _=>rfl
   rcases hs with rfl|rfl
   ·exact gn (aN @l1 (aN (hnl oT) @l1))
   ·cases hsb:sd==[]with
    |true=>
     exact gn (aN @l1 (aN @hsb @l1))
    |false=>
     exact gn (aN @l1 (aN @hsb (aN (h47 oT) @l1)))
  ·rw[ae hs];refine eW call300 func300 ?_;repeat' first|simp only[go_sem,seval,ah hz,l1]|refine oE ?_|apply xX<;>intro hc
   refine⟨fun x hx=>my hx,?_⟩
   have hs1:sd≠[]:=fun h=>hs (.inl h)
   have hs2:i≠2147483647:=fun h=>hs (.inr h)
   have hsb:(sd==[])=false:=by rw[ey];exact hs1
   have hi47: ∀ _:True,((i:Int)==2147483647)=false:=fun _=>by rw[ey];omega
   refine cU (aN @l1 (aN @hsb (aN (hi47 oT) @l1))) ?_;refine af (α:=Nat) (fun a=>256-a) (fun a=>⟨[(8, .v (.i .i64 a)),(1, .v (.s n)),(2, .p 1000 0 0),(5, .p 1002 0 0),(7, .p 1010 0 0)],[(1000,⟨0,[.v (.sl (vs.map .s)), .v (.s sd), .v (.i .i64 i)],false,none⟩),(1002,⟨0,[.sn, .v (.s []), .v (.i .i64 0)],false,some 37⟩),(1010,⟨0,[.sn, .v (.s sd), .v (.i .i64 ((i:Int)+1))],false,some 37⟩)],_⟩) (fun a=>a<=256/\rp f (num n) a (256-a)=rp f (num n) 0 256) 0 (fun _=>ay _) ⟨aJ _,rfl⟩ ?_ ?_
   ·(refine AS.Le.of (by first|decide|omega) ?_ ?_<;>simp[dy,dx,aO,az,AV.bd,AV.bd.bdL,u8,ar,ax,aA])
    all_goals rfl
   ·rintro a ⟨ha,hst⟩ R hR;rw[<-hst]
    by_cases hlt:a<256
    ·obtain⟨m,hm⟩: ∃m,256-a=m+1:=⟨255-a,oO⟩;have hAa:=hA a hlt;have hCa:=hC a;have hgo:=hR (a+1);rw[hm,rp]
     by_cases hle:num (f a)<num n
     ·rw[ah hle];have hcm: ∀ _:True,decide (ba (num (f a)) (num n)<0)=true:=fun _=>by rw[qe];exact aI hle
      generalize ba (num (f a)) (num n)=cm at*;repeat' first|simp only[go_sem,seval,hcm oT,hm0]|refine cP hB ?_|refine cP hAa ?_|refine cP hCa ?_|refine oE ?_|apply xX<;>intro hc
      all_goals (unfold jS;simp only[T,hm0];rfl)
     ·rw[ae hle];have hgo:=hgo ⟨hlt,by rw[<-hst,hm,rp,ae hle,show 256-(a+1)=m from by omega]⟩ oO
      have hcm: ∀ _:True,decide (ba (num (f a)) (num n)<0)=false:=fun _=>by rw[qe];exact aH hle
      generalize ba (num (f a)) (num n)=cm at*;exact Y5 (hcm oT) @hgo @hB @hAa @hCa oT
    ·obtain rfl:a=256:=oO;exact z0
 ·obtain⟨r1,r2,r3,r4⟩:=OA vs;have hz:vs.length≠0:=fun h=>hvn (gS.1 h)
  by_cases hiv:i<vs.length
  ·rw[ah hiv];have hx:aa (vs.getD i [])=true:=bM.1 hv _ (zt hiv);have hcm:=mA (vs.getD i []) n;rw[hx,hn]at hcm;simp only[dE,au]at hcm;have e1:=dM hiv;have e2:decide (ba (num (vs.getD i [])) (num n)>=0)= !decide (num (vs.getD i [])<num n):=Kc _ _;generalize ba (num (vs.getD i [])) (num n)=cm at*;generalize vs.getD i []=x at*;clear hA hC
   by_cases hle:num n<=num x
   ·rw[ah hle];rw[aH (show¬num x<num n by omega)]at e2
    refine eW call300 func300 ?_;repeat' first|simp only[go_sem,seval,ae hz,l1]|refine oE ?_|apply xX<;>intro hc
    refine⟨⟨fun x hx=>my hx,fun y hy=>vT hy,oO,oO⟩,?_⟩
    exact mi (aN @l1 (aN @e1 @e2)) @hcm
   ·rw[ae hle];rw[aI (show num x<num n by omega)]at e2
    refine eW call300 func300 ?_;repeat' first|simp only[go_sem,seval,ae hz,l1]|refine oE ?_|apply xX<;>intro hc
    refine⟨⟨fun x hx=>my hx,fun y hy=>vT hy,oO,oO⟩,?_⟩
    exact mi (aN @l1 (aN @e1 (aN @e2 (aN @r2 (aN @r3 (aN @r4 (aN @qg @eQ))))))) @hcm
  ·rw[ae hiv]
   by_cases hs:sd=[]\/i=2147483647
   ·rw[ah hs];refine eW call300 func300 ?_;repeat' first|simp only[go_sem,seval,ae hz,l1]|refine oE ?_|apply xX<;>intro hc
    refine⟨⟨fun x hx=>my hx,fun y hy=>vT hy,oO,oO⟩,?_⟩
    have hnl: ∀ _:True,(([]:Bytes)==[])=true:=fun _=>rfl
    have h47: ∀ _:True,((2147483647:Int)==2147483647)=true:=fun _=>rfl
    rcases hs with rfl|rfl
    ·exact gn (aN @l1 (aN (hnl oT) @l1))
    ·cases hsb:sd==[]with
     |true=>
      exact gn (aN @l1 (aN @hsb @l1))
     |false=>
      exact gn (aN @l1 (aN @hsb (aN (h47 oT) @l1)))
   ·rw[ae hs];refine eW call300 func300 ?_;repeat' first|simp only[go_sem,seval,ae hz,l1]|refine oE ?_|apply xX<;>intro hc
    refine⟨⟨fun x hx=>my hx,fun y hy=>vT hy,oO,oO⟩,?_⟩
    have hs1:sd≠[]:=fun h=>hs (.inl h)
    have hs2:i≠2147483647:=fun h=>hs (.inr h)
    have hsb:(sd==[])=false:=by rw[ey];exact hs1
    have hi47: ∀ _:True,((i:Int)==2147483647)=false:=fun _=>by rw[ey];omega
    refine cU (aN @l1 (aN @hsb (aN (hi47 oT) @l1))) ?_;refine af (α:=Nat) (fun a=>256-a) (fun a=>⟨[(8, .v (.i .i64 a)),(1, .v (.s n)),(2, .p 1000 0 0),(5, .p 1002 0 0),(7, .p 1010 0 0)],[(1000,⟨0,[.v (.sl (vs.map .s)), .v (.s sd), .v (.i .i64 i)],false,none⟩),(1002,⟨0,[.sn, .v (.s []), .v (.i .i64 0)],false,some 37⟩),(1010,⟨0,[.rs 1016 0 0 vs.length 1, .v (.s sd), .v (.i .i64 ((i:Int)+1))],false,some 37⟩),(1016,⟨0,List.map AV.v (vs.map .s),true,some 22⟩)],_⟩) (fun a=>a<=256/\rp f (num n) a (256-a)=rp f (num n) 0 256) 0 (fun _=>ay _) ⟨aJ _,rfl⟩ ?_ ?_
    ·(refine AS.Le.of (by first|decide|omega) ?_ ?_<;>simp[dy,dx,aO,az,AV.bd,AV.bd.bdL,u8,ar,ax,aA])
     all_goals rw[qg,iB]
    ·rintro a ⟨ha,hst⟩ R hR;rw[<-hst]
     by_cases hlt:a<256
     ·obtain⟨m,hm⟩: ∃m,256-a=m+1:=⟨255-a,oO⟩;have hAa:=hA a hlt;have hCa:=hC a;have hgo:=hR (a+1);rw[hm,rp]
      by_cases hle:num (f a)<num n
      ·rw[ah hle];have hcm: ∀ _:True,decide (ba (num (f a)) (num n)<0)=true:=fun _=>by rw[qe];exact aI hle
       generalize ba (num (f a)) (num n)=cm at*;exact yG (aN (hcm oT) (aN @r2 (aN @r3 (aN @r4 (aN @qg @eQ))))) @hB @hAa @hCa oT
      ·rw[ae hle];have hgo:=hgo ⟨hlt,by rw[<-hst,hm,rp,ae hle,show 256-(a+1)=m from by omega]⟩ oO
       have hcm: ∀ _:True,decide (ba (num (f a)) (num n)<0)=false:=fun _=>by rw[qe];exact aH hle
       generalize ba (num (f a)) (num n)=cm at*;exact Y5 (hcm oT) @hgo @hB @hAa @hCa oT
     ·obtain rfl:a=256:=oO;exact z0
theorem As {vs:List Bytes} {sd:Bytes} {i M:Nat} (hv:vs.all aa=true) (hi:i<=2147483647) (hl:vs.length<1000000) (hsd:sd.length<1000000) (h1:1<=M) (h2:3*M<cW):aD 185 [T vs sd i,N M] (kF vs sd i (uf vs sd i M)):=by
 have hM:aX M≠[]:=by rw[ne_eq,gM];omega
 have hMb:(aX M==[])=false:=by simpa using hM
 have hN:aa (aX (2*M-1))=true:=vB oO;have hr:=qt vs sd i hl;rw[oz hv hi]at hr;have hva:=aK (aX M);rw[vB oO]at hva;have hs:=Fy (a:=M) (b:=1) oO oO;have ho:=Fu (a:=M) (b:=M-1) oO;have hd:=FC (sd:=sd) hv hN (by rw[aP];omega) hi hl hsd
 have hf2:=ss (n:=M-1) oO;rw[<-fb]at hs;rw[show M+(M-1)=2*M-1 by omega]at ho
 unfold uf;generalize hD:gb vs sd i (aX (2*M-1))=r at*
 cases r with
 |error e=>
  unfold jS at hd;unfold kF;rcases mI hD with rfl|rfl
  ·refine eW call185 func185 ?_;exact AU @hMb @hr @hva @Ov @hs @ho @hd oT
  ·refine eW call185 func185 ?_;exact AU @hMb @hr @hva @Ov @hs @ho @hd oT
 |ok x=>
  obtain⟨vx,hx,-⟩:=gG hv hN hl hi hD;rw[aP]at hx;have hz:=Oq (x:=(num x:Int)) (y:=((M-1:Nat):Int)) oO;have hf1:=ss (n:=num x) oO;rw[eE vx]at hf1;unfold jS at hd;unfold kF;simp only;refine eW call185 func185 ?_;exact HW @hMb @hr @hva @Ov @hs @ho @hd @hf1 @hf2 @hz oT oT oT
theorem RO {b:Int} {c:Nat} (h:(c:Int)*b≠0):zs ((c:Int)*b)=zs b:=by
 have hc:(c:Int)≠0:=fun e=>h (by rw[e,Int.zero_mul])
 unfold zs;rw[lF];constructor
 ·intro g
  by_cases hb:b<0
  ·exact hb
  ·have:=Int.mul_nonneg (Int.natCast_nonneg c) (show 0<=b by omega);omega
 ·intro g;exact Int.mul_neg_of_pos_of_neg oO g
theorem OF {a b:Int} {c:Nat} (h:a.natAbs+((c:Int)*b).natAbs<cW) (hc:c<cW) (hb:b.natAbs<cW):aD 314 [Z a,N c,Z b] (Z (a+c*b)):=by
 have hl: ∀n,n<cW->(aX n).length<1048576:=fun n hn=>by have:=lf.2 hn;omega
 have hX:((c:Int)*b).natAbs=c*b.natAbs:=by rw[jg,Int.natAbs_natCast]
 have ht:=Dm (x:=c) (y:=b.natAbs) (hl _ hc) (hl _ hb);rw[<-hX]at ht;have hyz:=RO (b:=b) (c:=c);obtain⟨y,hy⟩: ∃y:Int,y=c*b:=⟨_,rfl⟩;rw[<-hy]at h ht hyz⊢;clear hX hy;have hl2: ∀n,n<cW->(aX n).length<1099511627776:=fun n hn=>by have:=hl n hn;omega
 by_cases h1:(zs a==zs b||aX y.natAbs==[])=true
 ·have hp:=Hq (x:=a.natAbs) (y:=y.natAbs) (hl2 _ oO) (hl2 _ oO);have hk:=jX (zs a) (a.natAbs+y.natAbs) (z:=a+y) (by
   by_cases h0:y=0
   ·subst h0;unfold zs;split<;>simp_all<;>omega
   ·refine Ps ?_;rw[hyz h0];simp only[lB,eT,gM]at h1;rcases h1 with h1|h1
    ·exact h1
    ·omega)
  clear hyz hl hl2 h hc hb;simp only[lB,eT]at h1
  by_cases hz:zs a=zs b
  ·have hz1:(zs a==zs b)=true:=by simpa using hz
   refine eW call314 func314 ?_;repeat' first|simp only[go_sem,seval,Z,hz1]|refine cP ht ?_|refine cP hp ?_|refine cP hk ?_|refine oE ?_|apply xX<;>intro hc
   all_goals rfl
  ·have hz1:(zs a==zs b)=false:=by simpa using hz
   have hz2:(aX y.natAbs==[])=true:=by simpa using(h1.resolve_left hz)
   refine eW call314 func314 ?_;repeat' first|simp only[go_sem,seval,Z,hz1,hz2]|refine cP ht ?_|refine cP hp ?_|refine cP hk ?_|refine oE ?_|apply xX<;>intro hc
   all_goals rfl
 ·simp only[lB,eT,not_or]at h1;obtain⟨h1,h2⟩:=h1;have h0:y≠0:=fun e=>h2 (by rw[e];rfl)
  have hyb:=hyz h0;have hz1:(zs a==zs b)=false:=by simpa using h1
  have hz2:(aX y.natAbs==[])=false:=by simpa using h2
  have ho:=xO (x:=a.natAbs) (y:=y.natAbs) (hl2 _ oO) (hl2 _ oO);have hd:=Kc a.natAbs y.natAbs;have hzz:zs a≠zs y:=by rw[hyb];exact h1
  by_cases hle:y.natAbs<=a.natAbs
  ·have hm:=xN (x:=a.natAbs) (y:=y.natAbs) (hl2 _ oO) (hl2 _ oO) hle;have hk:=jX (zs a) (a.natAbs-y.natAbs) (Ju hzz hle);rw[aH (show¬a.natAbs<y.natAbs by omega)]at hd
   generalize ba a.natAbs y.natAbs=cm at*;clear hyz hl hl2 h hc hb;refine eW call314 func314 ?_;repeat' first|simp only[go_sem,seval,Z,hz1,hz2,hd,ca]|refine cP ht ?_|refine cP ho ?_|refine cP hm ?_|refine cP hk ?_|refine oE ?_|apply xX<;>intro hc
   all_goals rfl
  ·have hm:=xN (x:=y.natAbs) (y:=a.natAbs) (hl2 _ oO) (hl2 _ oO) oO;have hk:=jX (zs y) (y.natAbs-a.natAbs) (Pt hzz oO);rw[hyb]at hk;rw[aI (show a.natAbs<y.natAbs by omega)]at hd
   generalize ba a.natAbs y.natAbs=cm at*;clear hyz hl hl2 h hc hb;refine eW call314 func314 ?_;repeat' first|simp only[go_sem,seval,Z,hz1,hz2,hd,bQ]|refine cP ht ?_|refine cP ho ?_|refine cP hm ?_|refine cP hk ?_|refine oE ?_|apply xX<;>intro hc
   all_goals rfl
