/- Part of the proof. -/
import Derived.Test.YtnhhajlcpjgkjaaGreatDoorUC32
import Derived.WideLaws
import Derived.Tactics
import Derived.Tactics2
set_option linter.all false
set_option maxHeartbeats 16000000
set_option maxRecDepth 100000
namespace Go.Proofs.Tryz
open Go Go.Dom
theorem mf:cT cU 2:=⟨fun _=>rfl,fun x y hy=>by obtain⟨n,a⟩:=x;simp[cU,PV.cells]at hy;rcases hy with rfl|rfl<;>rfl,fun h=>oO,fun _ x=>rfl⟩
theorem G8:aE 80 [.sl []] (.sl []):=by
 refine eW call80 func80 ?_;exact z0
theorem IL {l:List (Bool×Bytes)} (h0:l≠[]) (hl:l.length<1000000):aE 401 [.sl (l.map cU)] (.sl (l.map cU)):=by
 obtain⟨x,r,rfl⟩: ∃x r,l=x::r:=by cases l with
  |nil=>exact aM rfl h0
  |cons a b=>exact⟨a,b,rfl⟩
 rw[bV];have k1:(cU x::r.map cU)=(x::r).map cU:=rfl;have k0:(r.map cU).length=r.length:=aL ..;refine eW call401 func401 ?_;refine eC @k0 ?_;have hrow:List.map AV.v ((cU x).cells++List.flatMap PV.cells (List.map cU r))=aX cU (x::r):=by
  rw[aX,fb,oZ]
 have hL:((cU x).cells++List.flatMap PV.cells (List.map cU r)).length=(r.length+1)*2:=by
  have:=cF mf (x::r);rw[<-hrow,aL]at this;exact this
 have q1:List.take ((r.length+1)*2) (aX cU (x::r))=aX cU (x::r):=cR mf (x::r);have q2:=dU mf (x::r);have q3:chunk 2 (r.length+1) ((x::r).flatMap fun x=>(cU x).cells)=(x::r).map cU:=dj mf (x::r)
 have q4: ∀y∈aX cU (x::r),y.one=true:=fun y hy=>bH.1 q2 y hy
 rw[hrow];refine⟨⟨⟨mf.len x,fun y hy=>by obtain⟨z,-,rfl⟩:=cv.1 hy;exact mf.len z⟩,q4,by simp at hl;omega,by simp at hl;omega⟩,?_⟩
 simp only[hL,q1,q2,q3,eJ,aD,and_self,az,Option.map_some];exact⟨trivial,rfl⟩
def X0 (c sl:Bytes) (s:cK):PV:= .agg [.s c, .s sl, .sl (s.groups.map dS), .sl (s.vars.map cO), .sl (s.eqs.map dr.pv), .sl [], .sl [], .s []]
def fJ (c:Bytes) (nv:Nat) (ch:Bytes) (rs:List (Bool×Bytes)) (gs:List Bytes) (ls:List (List (Bool×Bytes))):Int:=
 if !(aa ch&&rs.all cr&&ls.all (fun l=>l.all cr)&&gs.all aa)then 3 else if rs.length≠nv\/gs≠[]\/ls≠[]then 6 else if num c<=num ch then 2 else 0
def uL (ch:Bytes) (rs:List (Bool×Bytes)) (gs:List Bytes) (ls:List (List (Bool×Bytes))):PV:= .agg [.s ch, .sl (rs.map cU), .sl (gs.map .s), .sl (ls.map qM)]
theorem BH {c sl:Bytes} (vc:aa c=true) (s:cK) (ch:Bytes) (rs:List (Bool×Bytes)) (gs:List Bytes) (ls:List (List (Bool×Bytes))) (h1:rs.length<1000000) (h2:gs.length<=1000) (h3:ls.length<=1000) (h4: ∀l∈ls,l.length<4611686018427387904):aE 398 [X0 c sl s,uL ch rs gs ls] (E (fJ c s.vars.length ch rs gs ls)):=by
 have v1:=aG ch;have v2:=DX rs oO;have v3:=nE ls 468 [WM] (fun l=> !l.all cr) oO fun l hl=>DX l (h4 l hl)
 rw[jh]at v3;have v4:=gV gs _ _ oO L3;rw[jh]at v4;have v5:=YY 470 [.pt (X0 c sl s) 0];obtain⟨gq,vs,es⟩:=s;unfold qM at v2;simp only[X0,uL,fJ]at v5⊢;have l1:(rs.map cU).length=rs.length:=aL ..;have l2:(vs.map cO).length=vs.length:=aL ..;have l3:(gs.map PV.s).length=gs.length:=aL ..;have l4:(ls.map qM).length=ls.length:=aL ..
 by_cases hok:(aa ch&&rs.all cr&&ls.all (fun l=>l.all cr)&&gs.all aa)=true
 ·rw[hok];simp only[ba]at hok;obtain⟨⟨⟨o1,o2⟩,o3⟩,o4⟩:=hok;rw[o1]at v1;rw[o2]at v2;rw[o3]at v3;rw[o4]at v4
  by_cases hm:rs.length≠vs.length\/gs≠[]\/ls≠[]
  ·simp only[cl,bO,ar,ah hm];have hm':rs.length≠vs.length\/(rs.length=vs.length/\gs.length≠0)\/(rs.length=vs.length/\gs.length=0/\ls.length≠0):=by
    rcases hm with h|h|h
    ·exact .inl h
    ·have:gs.length≠0:=fun h0=>h (fg.1 h0)
     omega
    ·have:ls.length≠0:=fun h0=>h (fg.1 h0)
     omega
   clear hm v5 o2 o3 o4 h4;rcases hm' with h|⟨h,h'⟩|⟨h,h',h''⟩
   all_goals (
   refine eW call398 func398 ?_;repeat' first|simp only[go_sem,seval,bC,l1,l2,l3,l4]|refine cP v1 ?_|refine cV v2 ?_|refine cV v3 ?_|refine cP v4 ?_|refine oE ?_|apply xX<;>intro hc
   try trivial)
   all_goals fail "a"
  ·simp only[cl,bO,ar,af hm];have hm':rs.length=vs.length/\gs=[]/\ls=[]:=by
    refine⟨gQ fun h=>hm (.inl h),gQ fun h=>hm (.inr (.inl h)),gQ fun h=>hm (.inr (.inr h))⟩
   obtain⟨e1,e2,e3⟩:=hm';subst e2;subst e3;have cm:=jH o1 vc;simp only[bj]at v3 v4;clear hm h4
   by_cases hge:num c<=num ch
   ·rw[ah hge];have h7: ∀ _:True,(0:Int)<=aZ (num ch) (num c):=fun _=>fH.2 hge
    have h5: ∀ _:True,decide (aZ (num ch) (num c)>=0)=true:=fun _=>aV (h7 oT)
    generalize aZ (num ch) (num c)=z at*;refine eW call398 func398 ?_;repeat' first|simp only[go_sem,seval,bC,l1,l2,h5 oT]|refine cP v1 ?_|refine cV v2 ?_|refine cV v3 ?_|refine cP v4 ?_|refine cP cm ?_|(refine aj ?_)|refine oE ?_|apply xX<;>intro hc
   ·rw[af hge];have h7: ∀ _:True,¬(0:Int)<=aZ (num ch) (num c):=fun _ h=>hge (fH.1 h)
    have h5: ∀ _:True,decide (aZ (num ch) (num c)>=0)=false:=fun _=>bL (h7 oT)
    generalize aZ (num ch) (num c)=z at*;refine eW call398 func398 ?_;repeat' first|simp only[go_sem,seval,bC,l1,l2,h5 oT]|refine cP v1 ?_|refine cV v2 ?_|refine cV v3 ?_|refine cP v4 ?_|refine cP cm ?_|refine cV v5 ?_|(refine aj ?_)|refine oE ?_|apply xX<;>intro hc
 ·have hf:(aa ch&&rs.all cr&&ls.all (fun l=>l.all cr)&&gs.all aa)=false:=by simpa using hok
  rw[hf];simp only[cG,az];clear hok v5 h4;generalize aa ch=b1 at*;generalize rs.all cr=b2 at*;generalize (ls.all fun l=>l.all cr)=b3 at*
  generalize gs.all aa=b4 at*;cases b1
  ·refine eW call398 func398 ?_;repeat' first|simp only[go_sem,seval,bC,l1,l2,l3,l4]|refine cP v1 ?_|refine cV v2 ?_|refine cV v3 ?_|refine cP v4 ?_|refine oE ?_|apply xX<;>intro hc
  ·cases b2
   ·refine eW call398 func398 ?_;repeat' first|simp only[go_sem,seval,bC,l1,l2,l3,l4]|refine cP v1 ?_|refine cV v2 ?_|refine cV v3 ?_|refine cP v4 ?_|refine oE ?_|apply xX<;>intro hc
   ·cases b3
    ·refine eW call398 func398 ?_;repeat' first|simp only[go_sem,seval,bC,l1,l2,l3,l4]|refine cP v1 ?_|refine cV v2 ?_|refine cV v3 ?_|refine cP v4 ?_|refine oE ?_|apply xX<;>intro hc
    ·cases b4
     ·refine eW call398 func398 ?_;repeat' first|simp only[go_sem,seval,bC,l1,l2,l3,l4]|refine cP v1 ?_|refine cV v2 ?_|refine cV v3 ?_|refine cP v4 ?_|refine oE ?_|apply xX<;>intro hc
     ·exact aM hf (by simp)
end Go.Proofs.Tryz
namespace Go.Proofs.Tryz
open Go Go.Dom Go.Num
variable {S i len:Nat} {n sd:Bytes} {vs:List Bytes}
theorem xI (vs:List Bytes) (sd:Bytes) (at':Int) (a:Nat):aE 300 [T vs sd at', .i .i64 a] (.fc 410 [] [.pt (T vs sd at') 0, .pt (.agg [.i .i64 a]) 0]):=by
 refine eW call300 func300 ?_;exact z0
theorem Ln (sd:Bytes) (at' a:Nat): ∀(k b:Nat),∀y∈I4 sd at' a b k,y.length=1:=by
 intro k
 induction k with
 |zero=>intro b y hy;cases hy
 |succ k ih=>
  intro b y hy
  cases hy with
  |head=>rfl
  |tail _ h=>exact ih _ _ h
def oH (size:Nat):Nat:=max 1 ((size+31)/32)
def sy (sd:Bytes) (at' a:Nat):Nat->Bytes
 |0=>[]
 |k+1=>sy sd at' a k++Bu sd at' a k
def HW:Bytes->Nat->Bytes
 |[],_=>[]
 |x::r,d=>UInt8.ofNat (x.toNat%2^(8-d))::r
theorem Qa: ∀(d:Fin 8) (x:Fin 256),me .u8 (x.val:Int) (Int.fdiv 255 (2^d.val))=((UInt8.ofNat (x.val%2^(8-d.val))).toNat:Int):=by decide+kernel
theorem mK (c:UInt8) (r:Bytes):aJ (c::r)= .v (.i .u8 (c.toNat:Int))::aJ r:=rfl
def iP:Bytes->Bytes
 |[]=>[]
 |x::r=>if x=0 then iP r else x::r
def Fx (sd:Bytes) (at' a len:Nat):Bytes:=iP (HW ((sy sd at' a (oH ((len+7)/8))).take ((len+7)/8)) (8*((len+7)/8)-len))
theorem AE (h:1<=S) (x:UInt8) (r:Bytes) (d:Nat):HW (List.take S (x::r)) d=List.take S (UInt8.ofNat (x.toNat%2^(8-d))::r):=by
 obtain⟨S,rfl⟩: ∃m,S=m+1:=⟨S-1,oO⟩;rfl
theorem LO {q:Bytes} (h:i<S) (hS:S<=q.length):(q.take S).drop i=q.getD i 0::(q.take S).drop (i+1):=by
 rw[jt (by rw[cf];omega),List.getElem_take,ca,bZ oO];rfl
theorem Hz (q:Bytes) (S i:Nat):List.take (S-i) (List.drop i (aJ q))=aJ ((q.take S).drop i):=by
 rw[aJ,aJ,td,wM,tw]
theorem xw (l:Bytes): ∀y∈aJ l,y.isByte:=by
 intro y hy;obtain⟨c,_,rfl⟩:=cv.1 hy;exact oT
theorem Fy {at' a:Nat} (hv:vs.length<1000000) (hsd:sd.length<1000000) (ha:at'<4294967296) (ha2:a<4294967296) (hl0:0<len) (hl:len<100000):aE 179 [T vs sd at', .i .i64 a, .i .i64 len] (.s (Fx sd at' a len)):=by
 have hb:=xI vs sd at' a;have hit:=I6 (vs:= .sl (vs.map .s)) (sd:=sd) (at':=at') (a:=a) (k:=oH ((len+7)/8)) hsd (by unfold oH;omega) ha ha2
 have hsz: ∀ _:True,IntKind.i64.wrap (((len:Int)+7).tdiv 8)=(((len+7)/8:Nat):Int):=by
  intro _;rw[Int.tdiv_eq_ediv_of_nonneg oO,IntWalk.i64_in _ oO];omega
 have hs1:1<=(len+7)/8/\(len+7)/8<=13000:=oO;have hlen: ∀b,(Bu sd at' a b).length=32:=fun b=>by unfold Bu Ms;rw[iK]
 have hcat: ∀k,(sy sd at' a k).length=32*k:=by
  intro k
  induction k with
  |zero=>rfl
  |succ k ih=>rw[sy,bY,ih,hlen];omega
 have hR: ∀k,k<oH ((len+7)/8)-> ¬(len+7)/8<=32*k\/k=0:=by intro k h;unfold oH at h;omega
 refine eW call179 func179 ?_;refine jd (hsz oT) @hb ?_;unfold Fx;generalize hS:(len+7)/8=S at*;refine xd hit rfl ?_ ?_
 ·intro y hy;exact Ln _ _ _ _ _ y hy
 refine QW (α:=Nat) (fun k=>match k with|0=>⟨[(7, .p 1005 0 0),(8, .p 1007 0 0),(2, .v (.i .i64 len))],[(1005,⟨0,[.v (.i .i64 S)],false,some 3⟩),(1007,⟨0,[.sn],false,some 209⟩)],1011⟩|k+1=>⟨[(7, .p 1005 0 0),(8, .p 1007 0 0),(2, .v (.i .i64 len))],[(1005,⟨0,[.v (.i .i64 S)],false,some 3⟩),(1007,⟨0,[.rs 1014 k 0 (32*(k+1)) 1],false,some 209⟩),(1014,⟨k,aJ (sy sd at' a (k+1)),true,some 5⟩)],1020⟩) (fun xs k=>k<oH S/\xs=I4 sd at' a k (oH S-k)) 0 ?_ ⟨by unfold oH;omega,rfl⟩ ?_ ?_ ?_
 ·intro k;cases k
  ·exact aD _
  ·show 1011<=1020;decide
 ·refine AS.Le.of oC ?_ ?_<;>simp[dA,dz,aS,aB,AV.bd,AV.bd.bdL]
 ·rintro k ⟨h1,h2⟩;obtain⟨m,hm⟩: ∃m,oH S-k=m+1:=⟨oH S-k-1,oO⟩;rw[hm]at h2;cases h2
 ·rintro y ys k ⟨h1,h2⟩ R hRR;obtain⟨m,hm⟩: ∃m,oH S-k=m+1:=⟨oH S-k-1,oO⟩;rw[hm]at h2;injection h2 with e1 e2
  subst e1 e2;have hkb:k<1000:=by unfold oH at h1;omega
  have hx:=hlen k;have hc:=hcat k;have ho:=hcat (k+1);have hc1:sy sd at' a k++Bu sd at' a k=sy sd at' a (k+1):=rfl;have hgo:k+1<oH S-> _:=fun h=>hRR (k+1) ⟨h,by rw[show oH S-(k+1)=m from by omega]⟩
  clear hRR hit hb hcat hlen
  by_cases hf:S<=32*(k+1)
  ·have hk:oH S=k+1:=by unfold oH at h1⊢;omega
   rw[hk];clear hgo hR;have hd1: ∀ _:True,(8*(S:Int)-len).toNat=8*S-len:=fun _=>oO
   have hd2:8*S-len<8:=oO;have hd3:(if 8*S-len<=8 then 8*S-len else 8)=8*S-len:=by rw[ah];omega
   have hmask:=fun x:UInt8=>Qa ⟨8*S-len,hd2⟩ ⟨x.toNat,x.toNat_lt⟩
   simp only at hmask;generalize hd:8*S-len=d at*;generalize hcc:sy sd at' a (k+1)=o at*;obtain⟨x0,r,rfl⟩: ∃x0 r,o=x0::r:=by
    cases o with
    |nil=>simp at ho
    |cons x0 r=>exact⟨_,_,rfl⟩
   cases k with
   |zero=>
    generalize Bu sd at' a 0=x at*;generalize sy sd at' a 0=c at*;obtain rfl:c=[]:=j5 hc;obtain rfl:x=x0::r:=hc1;refine eC (aN @hx (aN @mK (aN (hd1 oT) (aN @hd3 @hmask)))) ?_;rw[AE hs1.1];simp only[<-mK];generalize hq:UInt8.ofNat (x0.toNat%2^(8-d))::r=q at*;have hql:q.length=32*(0+1):=by rw[<-hq];simpa using ho
    refine ak (α:=Nat) (fun i=>S-i) (fun i=>⟨[(8, .p 1007 0 0)],[(1007,⟨0,[.rs 1014 0 i (S-i) 1],false,some 209⟩),(1014,⟨0,aJ q,true,some 5⟩)],1037⟩) (fun i=>i<=S/\iP ((q.take S).drop i)=iP (q.take S)) 0 (fun _=>aD _) ⟨aR _,rfl⟩ ?_ ?_
    ·refine AS.Le.of oC ?_ ?_<;>simp[dA,dz,aS,aB,AV.bd,AV.bd.bdL,au]
    ·rintro i ⟨hi,hst⟩ R2 hR2;rw[<-hst]
     by_cases hlt:i<S
     ·have e1:=LO (q:=q) hlt oO;have e2:=iU (l:=q) (i:=i) oO;have e3: ∀ _:True,((S-i:Nat):Int)=(S:Int)-i:=fun _=>oO
      have e4:=Hz q S i
      by_cases hz:q.getD i 0=0
      ·have hgo2:=hR2 (i+1) ⟨hlt,by rw[<-hst,e1,iP,ah hz]⟩ oO
       clear hR2;refine eC (aN @e2 @hz) ?_;refine hgo2 _ ?_;refine AS.Le.of oO ?_ ?_<;>simp[dA,dz,aS,aB,AV.bd,AV.bd.bdL,au,Nat.sub_sub]
      ·rw[e1,iP,af hz,<-e1];have hz2: ∀ _:True,(((q.getD i 0).toNat:Int)==0)=false:=fun _=>by
        rw[ey];intro h;exact hz (jB.1 (by exact_mod_cast h))
       refine eC (aN @e2 (hz2 oT)) ?_;rw[e4];exact⟨⟨oO,xw _⟩,by rw[kI]⟩
     ·obtain rfl:i=S:=oO;refine vP ?_;rw[gS,List.take_zero,iS (by rw[cf];omega)]
      exact⟨⟨oO,fun y hy=>by cases hy⟩,rfl⟩
   |succ k=>
    dsimp only;generalize Bu sd at' a (k+1)=x at*;generalize sy sd at' a (k+1)=c at*;have htk:List.take (32*(k+1)) (aJ c)=aJ c:=by rw[<-hc];exact iV _
    refine eC (aN @hx (aN @hc1 (aN @htk (aN @mK (aN (hd1 oT) (aN @hd3 @hmask)))))) ?_;rw[AE hs1.1];simp only[<-mK];generalize hq:UInt8.ofNat (x0.toNat%2^(8-d))::r=q at*;have hql:q.length=32*(k+1+1):=by rw[<-hq];simpa using ho
    refine ak (α:=Nat) (fun i=>S-i) (fun i=>⟨[(8, .p 1007 0 0)],[(1007,⟨0,[.rs 1014 (k+1) i (S-i) 1],false,some 209⟩),(1014,⟨(k+1),aJ q,true,some 5⟩)],1046⟩) (fun i=>i<=S/\iP ((q.take S).drop i)=iP (q.take S)) 0 (fun _=>aD _) ⟨aR _,rfl⟩ ?_ ?_
    ·refine AS.Le.of oC ?_ ?_<;>simp[dA,dz,aS,aB,AV.bd,AV.bd.bdL,au]
    ·rintro i ⟨hi,hst⟩ R2 hR2;rw[<-hst]
     by_cases hlt:i<S
     ·have e1:=LO (q:=q) hlt oO;have e2:=iU (l:=q) (i:=i) oO;have e3: ∀ _:True,((S-i:Nat):Int)=(S:Int)-i:=fun _=>oO
      have e4:=Hz q S i
      by_cases hz:q.getD i 0=0
      ·have hgo2:=hR2 (i+1) ⟨hlt,by rw[<-hst,e1,iP,ah hz]⟩ oO
       clear hR2;refine eC (aN @e2 @hz) ?_;refine hgo2 _ ?_;refine AS.Le.of oO ?_ ?_<;>simp[dA,dz,aS,aB,AV.bd,AV.bd.bdL,au,Nat.sub_sub]
      ·rw[e1,iP,af hz,<-e1];have hz2: ∀ _:True,(((q.getD i 0).toNat:Int)==0)=false:=fun _=>by
        rw[ey];intro h;exact hz (jB.1 (by exact_mod_cast h))
       refine eC (aN @e2 (hz2 oT)) ?_;rw[e4];exact⟨⟨oO,xw _⟩,by rw[kI]⟩
     ·obtain rfl:i=S:=oO;refine vP ?_;rw[gS,List.take_zero,iS (by rw[cf];omega)]
      exact⟨⟨oO,fun y hy=>by cases hy⟩,rfl⟩
  ·have hgo:=hgo (by unfold oH;omega)
   cases k with
   |zero=>
    generalize Bu sd at' a 0=x at*;refine eC @hx ?_;refine hgo _ ?_;have hx1:sy sd at' a 1=x:=hc1.symm;refine AS.Le.of oC ?_ ?_<;>simp[dA,dz,aS,aB,AV.bd,AV.bd.bdL,hx1,au]
   |succ k=>
    have htk:List.take (32*(k+1)) (aJ (sy sd at' a (k+1)))=aJ (sy sd at' a (k+1)):=by rw[<-hc];exact iV _
    generalize Bu sd at' a (k+1)=x at*;repeat' first|simp only[go_sem,seval,hx,hc1]|refine oE ?_|apply xX<;>intro hc
    all_goals first
     |omega
     |skip
    refine hgo _ ?_;refine AS.Le.of oC ?_ ?_<;>simp[dA,dz,aS,aB,AV.bd,AV.bd.bdL,htk,jK,hc1,au];omega
theorem y9: ∀l:Bytes,(iP l).length<=l.length
 |[]=>aD _
 |x::r=>by
  rw[iP];split
  ·have:=y9 r;rw[List.length_cons];omega
  ·exact aD _
theorem vw: ∀l:Bytes,((iP l).length==0||(iP l).headD 0 !=0)=true
 |[]=>rfl
 |x::r=>by
  rw[iP];split
  ·exact vw r
  ·rename_i h;simp[h]
theorem JJ (l:Bytes) (d:Nat):(HW l d).length=l.length:=by cases l<;>rfl
theorem xr (sd:Bytes) (at' a:Nat) (h:len<=1024):aa (Fx sd at' a len)=true:=by
 unfold aa;rw[ba];refine⟨aV ?_,vw _⟩;have:=y9 (HW ((sy sd at' a (oH ((len+7)/8))).take ((len+7)/8)) (8*((len+7)/8)-len));rw[JJ,cf]at this;unfold Fx;omega
def EU (f:Nat->Bytes) (n a:Nat):Nat->Option Bytes
 |0=>none
 |k+1=>if num (f a)<n then some (f a)else EU f n (a+1) k
def kK (vs:List Bytes) (sd:Bytes) (i:Nat) (n:Bytes):Except Int Bytes:=
 if i<vs.length then(if num n<=num (vs.getD i [])then .error 2 else .ok (vs.getD i []))
 else if sd=[]\/i=2147483647 then .error 14
 else match EU (fun a=>Fx sd i a (cZ (num n))) (num n) 0 256 with
  |some x=> .ok x
  |none=> .error 14
def u6 (vs:List Bytes) (sd:Bytes) (i:Nat):Except Int Bytes->PV
 | .ok x=> .tup [.s x,T vs sd (i+1:Nat),E 0]
 | .error e=> .tup [.s [],T [] [] 0,E e]
theorem DC (hn:aa n=true):cZ (num n)<=1024:=by
 have h1:=ct n;have h2:n.length<=128:=by
  unfold aa at hn;rw[ba]at hn;exact of_decide_eq_true hn.1
 have h3:num n<2^1024:=b9 h1 (by rw[show(2:Nat)^1024=256^128 by decide+kernel];exact cM oC h2)
 unfold cZ;split
 ·omega
 ·rename_i h;have:=(wN h).2 h3;omega
theorem LF (x y:Nat):decide (aZ x y<0)=decide (x<y):=by
 have e:=xH x y;rw[eq_iff_iff]at e;rw[fz];omega
theorem Jy (x y:Nat):decide (aZ x y>=0)= !decide (x<y):=by
 have e:=xH x y;rw[eq_iff_iff]at e
 by_cases h:x<y
 ·rw[aV h,bL (fun g=>by have:=e.1 g;omega)];rfl
 ·rw[bL h,aV (e.2 oO)];rfl
theorem DN (hv:vs.all aa=true) (hn:aa n=true) (h0:num n≠0) (hi:i<=2147483647) (hl:vs.length<1000000) (hsd:sd.length<1000000):aE 91 [T vs sd i, .s n] (u6 vs sd i (kK vs sd i n)):=by
 by_cases hiv:i<vs.length
 ·have h:=PC sd hv hn hiv hl;unfold LN at h;unfold kK;rw[ah hiv];split
  ·rename_i hle;rw[ah hle]at h;exact h
  ·rename_i hle;rw[af hle]at h;exact h
 unfold kK;rw[af hiv]
 by_cases hs:sd=[]\/i=2147483647
 ·rw[ah hs];have hnl: ∀ _:True,(([]:Bytes)==[])=true:=fun _=>rfl
  have h47: ∀ _:True,((2147483647:Int)==2147483647)=true:=fun _=>rfl
  rcases hs with rfl|rfl
  ·refine eW call91 func91 ?_;exact gU (hnl oT)
  ·cases hsb:sd==[]with
   |true=>
    refine eW call91 func91 ?_;exact gU @hsb
   |false=>
    refine eW call91 func91 ?_;exact gU (aN @hsb (h47 oT))
 rw[af hs];have hs1:sd≠[]:=fun h=>hs (.inl h)
 have hs2:i≠2147483647:=fun h=>hs (.inr h)
 have hbl:=DC hn;have hb0:0<cZ (num n):=by unfold cZ;rw[af h0];omega
 have hB:=vQ hn;have hA:=fun a (ha:a<256)=>Fy (vs:=vs) (sd:=sd) (at':=i) (a:=a) (len:=cZ (num n)) hl hsd oO oO hb0 oO
 have hC:=fun a=>lV (Fx sd i a (cZ (num n))) n
 have hV:=fun a=>xr sd i a hbl
 obtain⟨r1,r2,r3,r4⟩:=Nv vs;have hsb:(sd==[])=false:=by rw[ey];exact hs1
 have hi47: ∀ _:True,((i:Int)==2147483647)=false:=fun _=>by rw[ey];omega
 generalize hf:(fun a=>Fx sd i a (cZ (num n)))=f
 have hA: ∀a:Nat,a<256->aE 179 [T vs sd i, .i .i64 a, .i .i64 (cZ (num n))] (.s (f a)):=by rw[<-hf];exact hA
 have hC: ∀a,aE 36 [.s (f a), .s n] (E (aZ (num (f a)) (num n))):=by
  intro a;have h:=hC a;rw[hV,hn]at h;rw[<-hf];exact h
 refine eW call91 func91 ?_;refine eC (aN @hsb (hi47 oT)) ?_;refine⟨⟨fun x hx=>kq hx,fun y hy=>ow hy,by rw[l9];exact aD _⟩,?_⟩
 refine ak (α:=Nat) (fun a=>256-a) (fun a=>⟨[(73, .v (.i .i64 a)),(1, .v (.s n)),(2, .p 1000 0 0),(5, .p 1002 0 0),(7, .p 1047 0 0)],[(1000,⟨0,[.v (.sl (vs.map .s)), .v (.s sd), .v (.i .i64 i)],false,none⟩),(1002,⟨0,[.sn, .v (.s []), .v (.i .i64 0)],false,some 41⟩),(1040,⟨0,List.map AV.v (vs.map .s),false,none⟩),(1047,⟨0,[.rs 1040 0 0 vs.length 1, .v (.s sd), .v (.i .i64 ((i:Int)+1))],false,some 41⟩)],1061⟩) (fun a=>a<=256/\EU f (num n) a (256-a)=EU f (num n) 0 256) 0 (fun _=>aD _) ⟨aR _,rfl⟩ ?_ ?_
 ·refine AS.Le.of oC ?_ ?_<;>simp[dA,dz,aS,aB,AV.bd,AV.bd.bdL,ry,r1,r3];rw[c9 (by simp)]
 ·rintro a ⟨ha,hst⟩ R hR;rw[<-hst]
  by_cases hlt:a<256
  ·obtain⟨m,hm⟩: ∃m,256-a=m+1:=⟨255-a,oO⟩;have hAa:=hA a hlt;have hCa:=hC a;have hgo:=hR (a+1);rw[hm,EU]
   by_cases hle:num (f a)<num n
   ·rw[ah hle];have hcm: ∀ _:True,decide (aZ (num (f a)) (num n)<0)=true:=fun _=>by rw[LF];exact aV hle
    generalize aZ (num (f a)) (num n)=cm at*;repeat' first|simp only[go_sem,seval,hcm oT,r1,r2,r3,r4,ry,ie]|refine cP hB ?_|refine cP hAa ?_|refine cP hCa ?_|refine oE ?_|apply xX<;>intro hc
    rfl
   ·rw[af hle];have hgo:=hgo ⟨hlt,by rw[<-hst,hm,EU,af hle,show 256-(a+1)=m from by omega]⟩ oO
    have hcm: ∀ _:True,decide (aZ (num (f a)) (num n)<0)=false:=fun _=>by rw[LF];exact bL hle
    generalize aZ (num (f a)) (num n)=cm at*;refine Di (hcm oT) @hB @hAa @hCa oT ?_;refine hgo _ ?_;refine AS.Le.of oC ?_ ?_<;>simp[dA,dz,aS,aB,AV.bd,AV.bd.bdL]
  ·obtain rfl:a=256:=oO;exact z0
theorem Ni (hv:vs.all aa=true) (hn:aa n=true) (h0:n≠[]) (hi:i<=2147483647):uI vs i n=0:=by
 have h1:(vs.any fun x=> !aa x)=false:=by
  rw[dy];intro g;obtain⟨x,hx,h⟩:=qI.1 g;simp[bH.1 hv x hx]at h
 have h2:fK vs i=true:=by
  unfold fK;rw[h1,aV (show(i:Int)>=0 by omega),aV (show(i:Int)<=2147483647 by omega)];rfl
 simp[uI,h2,hn,h0]
theorem Ga (hn:aa n=true) (h0:n≠[]):num n≠0:=fun h=>h0 ((sL hn).1 h)
theorem nD (hv:vs.all aa=true) (hn:aa n=true) (h0:n≠[]) (hi:i<=2147483647) (hl:vs.length<1000000) (hsd:sd.length<1000000):aE 37 [T vs sd i, .s n] (u6 vs sd i (kK vs sd i n)):=by
 have h1:=yS vs sd i n oO;rw[Ni hv hn h0 hi]at h1;have h2:=DN (sd:=sd) hv hn (Ga hn h0) hi hl hsd;generalize kK vs sd i n=r at*
 cases r with
 |ok x=>
  unfold u6 at*;refine eW call37 func37 ?_;exact z2 @h1 @h2
 |error e=>
  unfold u6 at*;refine eW call37 func37 ?_;exact z2 @h1 @h2
theorem KQ {α:Type} (l:List α) (p:α->Bool):(l.any fun x=> !p x)= !l.all p:=by
 induction l with
 |nil=>rfl
 |cons x l ih=>rw[List.any_cons,List.all_cons,ih];cases p x<;>simp
theorem D7 {a:Int} (h:fK vs a=true):vs.all aa=true/\0<=a/\a<=2147483647:=by
 unfold fK at h;rw[KQ,tC]at h;simp only[ba,bM]at h;exact⟨h.2,h.1.1,h.1.2⟩
theorem Ma (h:vs.all aa=true) (hi:i<=2147483647):fK vs i=true:=by
 unfold fK;rw[KQ,h,aV (show(i:Int)>=0 by omega),aV (show(i:Int)<=2147483647 by omega)];rfl
theorem Aa (l:List Bytes) (hl:l.length<1000000):aE 80 [.sl (l.map .s)] (.sl (l.map .s)):=by
 cases l with
 |nil=>exact G8
 |cons x r=>
  rw[bV];have k1:(PV.s x::r.map .s)=(x::r).map .s:=rfl;have k0:(r.map PV.s).length=r.length:=aL ..;refine eW call80 func80 ?_;refine eC @k0 ?_;obtain⟨-,r2,r3,-⟩:=Nv r;obtain⟨-,-,-,r4⟩:=Nv (x::r);rw[ry];refine⟨⟨fun x hx=>kq hx,fun x hx=>bH.1 r2 x hx,by simp at hl;omega,by simp at hl;omega⟩,?_⟩
  simp only[aL,aD,r3,r2,ie,and_self,az,Option.map_some];exact⟨trivial,congrArg PV.sl r4⟩
theorem Q2 (v1 v2 v3:Value) (w:World):CallsD prog 327 #[v1,v2,v3] .returning w fun e u' w'=>e= .returned (.tuple #[])/\u'= .returning/\w'=w:=by
 refine callsD_of_wpS func327 rfl fun c₀ cs hu=> ?_
 apply wpS_seq;apply wpS_region;simp[wpOpsS,go_sem,recoverD,hu,Tryz.ntmps327,Exit.thenS];apply wpS_seq;apply wpS_region;simp[wpOpsS,go_sem,Exit.thenS];refine wpS_cond (t:=false) (by simp[Act.eval,Array.replicate]) ?_
 simp only[bO,ar];refine wpS_of_wp (wp_skip ?_);cases c₀;simp_all[bodyPostS,results,Tryz.results327]
noncomputable abbrev rJ:Code:=Tryz.f203.body.getD .skip
theorem ZQ (a:Act) (w:World) (Q:Exit->Act->World->Prop) (hd:a.defers=[]) (hs:a.tmps.size=Tryz.f203.ntmps) (hQ: ∀a' d,a'.tmps.size=Tryz.f203.ntmps->(∀k,k≠56->a'.tmps.getD k undef=a.tmps.getD k undef)->a'.defers=[d]->Idle prog d->Q .normal a' w):(tY (Fp 5 rJ)).wp prog Q a w:=by
 have hmf: ∀(fn:Fn) (first cap:Array Value) (w:World),(Instr.makeFunc fn first cap).run prog w= .ok (.func fn first cap) w:=fun _ _ _ _=>rfl
 show(Code.region 6 _ false).wp prog Q a w;apply wp_region;simp[wpOps,go_sem,hd];have h10:56<a.tmps.size:=by rw[hs,Tryz.ntmps203];decide
 refine .inl ?_;refine .inl ?_;rw[ah h10];refine hQ {tmps:=a.tmps.setIfInBounds 56 (.func (.func 327) #[] #[a.tmps[8]?.getD undef,a.tmps[9]?.getD undef,a.tmps[10]?.getD undef]),defers:=[⟨.fn (.func 327) #[a.tmps[8]?.getD undef,a.tmps[9]?.getD undef,a.tmps[10]?.getD undef], #[]⟩]} ⟨.fn (.func 327) #[a.tmps[8]?.getD undef,a.tmps[9]?.getD undef,a.tmps[10]?.getD undef], #[]⟩ ?_ ?_ ?_ ⟨.func 327, #[a.tmps[8]?.getD undef,a.tmps[9]?.getD undef,a.tmps[10]?.getD undef],327, #[a.tmps[8]?.getD undef,a.tmps[9]?.getD undef,a.tmps[10]?.getD undef],rfl,fun w=>⟨?_,Q2 _ _ _ w⟩⟩
 ·simp[hs]
 ·intro k hk;simp[wJ (j7 hk)]
 ·rfl
 ·simp[invoke,go_sem]
theorem Q1:Tryz.f203.body=some (Q7 [tY (Fp 0 rJ),tY (Fp 1 rJ),tY (Fp 2 rJ),tY (Fp 3 rJ),tY (Fp 4 rJ)] (.seq (tY (Fp 5 rJ)) (Fp 6 rJ))):=by kernel_rfl
theorem MT {nt:Nat} {c:Code} {sc:SC} {r:List Code} {s s1 s2:AS} (h:CW prog (fun e x=>e= .normal/\s1.Le x) sc [] s) (hr:SJ prog nt r s1 s2) (hc:jI prog VQ nt c=some sc:=by cbv) (hng:sc.eB=true:=by exact rfl):SJ prog nt (c::r) s s2:= .cons (jJ.1 _ _ _ hc) hng (CW.start h) hr
theorem Q0 (vs:List Bytes) (sd:Bytes) (a:Int) (hl:vs.length<1000000):aE 203 [C0, .sl [], .s [],T vs sd a] (.tup [.agg [.sl [], .sl [], .sl [], .sl []],T vs sd a,E 0]):=by
 have hc:=Aa vs hl;have ho:aE 217 [C0] (.s []):=by
  refine eW call217 func217 ?_;exact On
 refine p9.MA (sl:=56) (pre:=[tY (Fp 0 rJ),tY (Fp 1 rJ),tY (Fp 2 rJ),tY (Fp 3 rJ),tY (Fp 4 rJ)]) (cD:=tY (Fp 5 rJ)) (c2:=Fp 6 rJ) (s2:=⟨[(1, .v (.sl [])),(8, .p 1002 0 0),(9, .p 1003 0 0),(10, .p 1004 0 0),(11, .v (.sl [])),(12, .p 1014 0 0)],[(1002,⟨0,[.sn, .sn, .sn, .sn],false,some 165⟩),(1003,⟨0,[.sn, .v (.s []), .v (.i .i64 0)],false,some 41⟩),(1004,⟨0,[.v (.i .i64 0)],false,some 53⟩),(1014,⟨0,[.v (.sl []), .v (.sl []), .v (.s []), .v (.sl (vs.map .s)), .v (.s sd), .v (.i .i64 a), .v (.sl []), .rs 1020 0 0 0 1, .rs 1024 0 0 0 1, .rs 1028 0 0 0 1],false,none⟩),(1020,⟨0,[],false,none⟩),(1024,⟨0,[],false,none⟩),(1028,⟨0,[],false,none⟩)],1042⟩) mixed call203 func203 Q1 rfl (jJ.1 _ _ _ (by cbv)) (jJ.2 _ _ (by cbv)) ZQ (dF rfl) rfl (MT (s1:=⟨[(1, .v (.sl [])),(2, .v (.s [])),(4, .p 1000 0 0),(7, .p 1001 0 0),(8, .p 1002 0 0),(9, .p 1003 0 0),(10, .p 1004 0 0)],[(1000,⟨0,[.v (.sl []), .v (.sl [])],false,none⟩),(1001,⟨0,[.v (.sl (vs.map .s)), .v (.s sd), .v (.i .i64 a)],false,none⟩),(1002,⟨0,[.sn, .sn, .sn, .sn],false,some 165⟩),(1003,⟨0,[.sn, .v (.s []), .v (.i .i64 0)],false,some 41⟩),(1004,⟨0,[.v (.i .i64 0)],false,some 53⟩)],1005⟩) ?_ (MT (s1:=⟨[(1, .v (.sl [])),(2, .v (.s [])),(4, .p 1000 0 0),(7, .p 1001 0 0),(8, .p 1002 0 0),(9, .p 1003 0 0),(10, .p 1004 0 0),(11, .v (.sl []))],[(1000,⟨0,[.v (.sl []), .v (.sl [])],false,none⟩),(1001,⟨0,[.v (.sl (vs.map .s)), .v (.s sd), .v (.i .i64 a)],false,none⟩),(1002,⟨0,[.sn, .sn, .sn, .sn],false,some 165⟩),(1003,⟨0,[.sn, .v (.s []), .v (.i .i64 0)],false,some 41⟩),(1004,⟨0,[.v (.i .i64 0)],false,some 53⟩)],1009⟩) ?_ (MT (s1:=⟨[(1, .v (.sl [])),(2, .v (.s [])),(4, .p 1000 0 0),(7, .p 1001 0 0),(8, .p 1002 0 0),(9, .p 1003 0 0),(10, .p 1004 0 0),(11, .v (.sl [])),(12, .p 1014 0 0)],[(1000,⟨0,[.v (.sl []), .v (.sl [])],false,none⟩),(1001,⟨0,[.v (.sl (vs.map .s)), .v (.s sd), .v (.i .i64 a)],false,none⟩),(1002,⟨0,[.sn, .sn, .sn, .sn],false,some 165⟩),(1003,⟨0,[.sn, .v (.s []), .v (.i .i64 0)],false,some 41⟩),(1004,⟨0,[.v (.i .i64 0)],false,some 53⟩),(1014,⟨0,[.v (.sl []), .v (.sl []), .v (.s []), .v (.sl (vs.map .s)), .v (.s sd), .v (.i .i64 a), .sn, .sn, .sn, .sn],false,none⟩)],1016⟩) ?_ ?_))) (CW.start ?_)
 ·simp only[np,List.mapIdx_nil];refine vP ?_;exact lE
 ·refine vP ?_;exact lE
 ·refine YV @ho ?_;exact lE
 ·refine MT (s1:=⟨[(1, .v (.sl [])),(8, .p 1002 0 0),(9, .p 1003 0 0),(10, .p 1004 0 0),(11, .v (.sl [])),(12, .p 1014 0 0)],[(1002,⟨0,[.sn, .sn, .sn, .sn],false,some 165⟩),(1003,⟨0,[.sn, .v (.s []), .v (.i .i64 0)],false,some 41⟩),(1004,⟨0,[.v (.i .i64 0)],false,some 53⟩),(1014,⟨0,[.v (.sl []), .v (.sl []), .v (.s []), .v (.sl (vs.map .s)), .v (.s sd), .v (.i .i64 a), .v (.sl []), .rs 1020 0 0 0 1, .rs 1024 0 0 0 1, .rs 1028 0 0 0 1],false,none⟩),(1020,⟨0,[],false,none⟩),(1024,⟨0,[],false,none⟩),(1028,⟨0,[],false,none⟩)],1033⟩) ?_ (MT ?_ (.nil _))
  ·refine vP ?_;exact lE
  ·refine vP ?_;exact lE
 ·exact YO @hc
theorem Lo (l:List Bytes) (hl:l.length<1000000):aE 214 [.sl (l.map .s)] (.b (l.all aa)):=by
 have h1: ∀x,aE 344 [PV.s x] (.b (!aa x)):=fun x=>by
  have hv:=aG x;generalize aa x=b at*;refine eW call344 func344 ?_;exact z1 @hv
 have hc:=gV l _ _ oO h1;rw[jh]at hc;generalize l.all aa=b at*;refine eW call214 func214 ?_;repeat' first|simp only[go_sem,seval,tC]|refine cP hc ?_|refine oE ?_|apply xX<;>intro hc
theorem D8 (vs:List Bytes) (sd:Bytes) (a:Int) (hl:vs.length<1000000):aE 201 [T vs sd a] (.b (fK vs a)):=by
 have h:=Lo vs hl;unfold fK;rw[jh,tC];generalize vs.all aa=b at*;refine eW call201 func201 ?_;repeat' first|simp only[go_sem,seval]|refine cP h ?_|refine oE ?_|apply xX<;>intro hc
 all_goals simp_all
 all_goals (intros;omega)
theorem Uo:aE 200 [.sl []] (.b true):=by
 have hi:aE 314 [.sl [], .fn (.func 324)] (E (-1)):=by
  refine eW call314 func314 ?_;exact On
 have h:aE 189 [.sl [], .fn (.func 324)] (.b false):=by
  refine eW call189 func189 ?_;exact z1 @hi
 refine eW call200 func200 ?_;exact z1 @h
theorem VP:aE 318 [F0, .sl []] (.sl []):=by
 refine eW call318 func318 ?_;exact On
theorem xp:aE 196 [F0, .sl []] (.tup [.sl [],E 0]):=by
 refine eW call196 func196 ?_;exact z2 @HB @VP
theorem OC:aE 326 [F0, .sl []] (.tup [.sl [],E 0]):=by
 refine eW call326 func326 ?_;exact z1 @xp
theorem PS:aE 202 [C0, .sl []] (.tup [.sl [],E 0]):=by
 refine eW call202 func202 ?_;repeat' first|simp only[go_sem,seval]|(refine aj ?_)|(refine G6 [1011] OC rfl rfl rfl ?_)|refine oE ?_|apply xX<;>intro hc
abbrev BS0:PV:= .agg [.sl [], .sl [], .sl [], .sl []]
theorem Oz {a:Int} (sd:Bytes) (hg:fK vs a=true) (hl:vs.length<1000000):aE 102 [C0, .sl [],T vs sd a] (.tup [BS0,T vs sd a,E 0]):=by
 have h:=D8 vs sd a hl;rw[hg]at h;have hr:=Q0 vs sd a hl;refine eW call102 func102 ?_;exact z7 @Hj @Uo @h @PS @hr oT oT
