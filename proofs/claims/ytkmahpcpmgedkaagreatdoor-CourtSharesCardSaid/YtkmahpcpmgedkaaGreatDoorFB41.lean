/- Part of the proof. -/
import Derived.Test.YtkmahpcpmgedkaaGreatDoorFB40
set_option linter.all false
set_option maxHeartbeats 16000000
set_option maxRecDepth 100000
namespace Go.Proofs.Tryz
open Go Go.Dom Go.Num
variable {a count e need:Int} {b i q sec x:Nat} {o sd:Bytes} {vs:List Bytes}
def HD (m o x:Bytes):Bool:=jn m o x&& !(x==[1])
theorem Dw {m:Bytes} (lm:m.length<=8) (lo:o.length<=8) (x:Bytes):aD 120 [G m o, .s x] (.b (HD m o x)):=by
 have h:=zq lm lo x;unfold HD;generalize jn m o x=b at*;cases b
 ·refine eW call120 func120 ?_;exact z1 @h
 ·refine eW call120 func120 ?_;exact z1 @h
theorem EH {n:Bytes} (h:gb vs sd i n= .error e):e=2\/e=14:=mI h
abbrev SK (m o g y:Bytes):PV:= .agg [.s m, .s o, .s g, .s y]
def nN (m o g y:Bytes):Int:=if !([m,o,g,y].all aa)then 3 else if gE m o≠0 then gE m o else if o==[]|| !HD m o g|| !HD m o y then 13 else 0
theorem Ld {m:Bytes} (lm:m.length<=8) (lo:o.length<=8) (g y:Bytes):aD 61 [SK m o g y] (E (nN m o g y)):=by
 have h1:=sB [m,o,g,y] (by simp)
 simp only[br,bK]at h1;have h2:=kL lm lo;have h3:=Dw lm lo g;have h4:=Dw lm lo y;unfold nN;generalize [m,o,g,y].all aa=b1 at*;generalize HD m o g=b3 at*;generalize HD m o y=b4 at*;cases b1
 ·refine eW call61 func61 ?_;exact z1 @h1
 ·by_cases h0:gE m o=0
  ·rw[h0]at h2⊢;obtain⟨b2,hb2⟩: ∃b2,(o==([]:Bytes))=b2:=⟨_,rfl⟩;rw[hb2]
   cases b2<;>cases b3<;>cases b4
   all_goals
    refine eW call61 func61 ?_;exact yG @hb2 @h1 @h2 @h3 @h4
  ·simp only[bQ,bm,an,ah h0];generalize gE m o=e at*;refine eW call61 func61 ?_;exact z2 @h1 @h2
def FP (m o base:Bytes) (vs:List Bytes) (sd:Bytes) (a:Int):Except Int (Nat×Nat×Nat):=
 if !([m,o,base].all aa)|| !e9 vs a then .error 3 else if gE m o≠0 then .error (gE m o)else if o==[]|| !HD m o base then .error 13
 else match gb vs sd a.toNat (aX (num o-1))with
  | .error e=> .error e
  | .ok c=>if num base^(num c+1)%num m=1 then .error 13 else .ok (num base^(num c+1)%num m,num c+1,a.toNat+1)
def Az (m o base:Bytes) (vs:List Bytes) (sd:Bytes):Except Int (Nat×Nat×Nat)->PV
 | .ok (y,x,j)=> .tup [.agg [.s m, .s o, .s base,N y],N x,T vs sd (j:Nat),E 0]
 | .error e=> .tup [SK [] [] [] [], .s [],T [] [] 0,E e]
theorem O0 {m:Bytes} (lm:m.length<=8) (lo:o.length<=8) (base:Bytes) (hl:vs.length<1000000) (hsd:sd.length<1000000):aD 58 [G m o, .s base,T vs sd a] (Az m o base vs sd (FP m o base vs sd a)):=by
 have h1:=sB [m,o,base] (by simp)
 simp only[br,bK]at h1;have h2:=kL lm lo;have h3:=Dw lm lo base;have h4:=OS vs sd a hl;unfold FP
 cases hb1:[m,o,base].all aa with
 |false=>
  rw[hb1]at h1;simp only[ca,j7,au,Az];refine eW call58 func58 ?_;exact z1 @h1
 |true=>
 rw[hb1]at h1
 cases hg:e9 vs a with
 |false=>
  rw[hg]at h4;simp only[ca,uu,au,Az];refine eW call58 func58 ?_;exact z2 @h1 @h4
 |true=>
 rw[hg]at h4;simp only[bQ,rf,bm,an]
 by_cases h0:gE m o=0
 case neg=>
  rw[ah h0];simp only[Az];generalize gE m o=e at*;refine eW call58 func58 ?_;exact z4 @h1 @h4 @h2 oT
 rw[h0]at h2;rw[ae (by simpa using h0)]
 cases hb3:HD m o base with
 |false=>
  rw[hb3]at h3;simp only[ca,uu,au,Az]
  by_cases ho:o=[]
  ·subst ho;refine eW call58 func58 ?_;repeat' first|simp only[go_sem,seval,dO]|refine cP h1 ?_|refine cP h4 ?_|refine cP h2 ?_|refine cP h3 ?_|refine oE ?_|apply xX<;>intro hc
   all_goals rfl
  ·have ho':(o==([]:Bytes))=false:=by simpa using ho
   refine eW call58 func58 ?_;exact yG @ho' @h1 @h4 @h2 @h3
 |true=>
 rw[hb3]at h3
 by_cases ho:o=[]
 ·subst ho;simp only[dO,j7,au,Az];refine eW call58 func58 ?_;repeat' first|simp only[go_sem,seval,dO]|refine cP h1 ?_|refine cP h4 ?_|refine cP h2 ?_|refine cP h3 ?_|refine oE ?_|apply xX<;>intro hc
  all_goals rfl
 have ho':(o==([]:Bytes))=false:=by simpa using ho
 simp only[ho',bQ,rf,bm,an];obtain⟨vm,vo,m1,-,hoq⟩:=jm h0;obtain⟨q1,-⟩:=hoq ho;have hqW:=eP lo;have hmW:=eP lm;have hW:=jQ;unfold HD at hb3;rw[aZ]at hb3;have hin:=hb3.1;unfold jn at hin;rw[aZ]at hin;obtain⟨vb,gp⟩:=(cH h0).1 hin.2;obtain⟨hv,a0,a1⟩:=tq hg;obtain⟨i,rfl⟩: ∃i:Nat,a=i:=⟨a.toNat,oO⟩;rw[Int.toNat_natCast];have s1:=xy (a:=num o) (b:=1) oO oO;rw[eE vo,<-fb]at s1;have hbn:aX (num o-1)≠[]:=fun h=>by have:=gM.1 h;omega
 have dB:=uY (vs:=vs) (sd:=sd) (i:=i) (n:=aX (num o-1)) hv (vN oO) hbn oO hl hsd
 cases hd:gb vs sd i (aX (num o-1))with
 |error e=>
  rw[hd]at dB;have he:=EH hd;simp only[jS,Az]at dB⊢;clear hd;refine eW call58 func58 ?_;exact AU @ho' @h1 @h4 @h2 @h3 @s1 @dB oT
 |ok c=>
  rw[hd]at dB;obtain⟨vc,c2,c3⟩:=gG hv (vN oO) hl oO hd;rw[aP]at c2;simp only[jS]at dB;have s2:=Qh (a:=num c) (b:=1) oO;rw[eE vc,<-fb]at s2;have s3:=jT lm lo (ng:=false) (e:=aX (num c+1)) h0 gp (vN oO) rfl;rw[eE vb,aP]at s3;have hz:dh (num m) (num base) false (num c+1)=num base^(num c+1)%num m:=rfl;rw[hz]at s3;simp only;generalize num base^(num c+1)%num m=y at*;have e1:=RK y;clear hd hz
  by_cases hy:y=1
  ·rw[ah hy];rw[aI hy]at e1;simp only[Az];refine eW call58 func58 ?_;exact HW (aN @ho' @e1) @h1 @h4 @h2 @h3 @s1 @dB @s2 @s3 oT oT oT oT
  ·rw[ae hy];rw[aH hy]at e1;simp only[Az];refine eW call58 func58 ?_;exact HW (aN @ho' @e1) @h1 @h4 @h2 @h3 @s1 @dB @s2 @s3 oT oT oT oT
theorem V2 {a b m:Nat} (ha:a<(2^64)) (hb:b<(2^64)) (hm:m<(2^64)) (h0:0<m):aD 426 [N a,N b,N m] (.tup [N ((a+b)%m),E 0]):=by
 have w2:=j2;have hW:=jQ;have hc:=I6 (aX a) (aX b) (aX m);rw[wN ha (vN hb) hm h0]at hc;have d1:=iI (a:=a) (m:=m) oO oO h0;have d2:=iI (a:=b) (m:=m) oO oO h0;have l1:=aL a h0;have l2:=aL b h0;have hs:=Fu (a:=a%m) (b:=b%m) oO;have d3:=iI (a:=a%m+b%m) (m:=m) oO oO h0;rw[<-iM]at d3;refine eW call426 func426 ?_;exact z7 @hc @d1 @d2 @hs @d3 oT oT
theorem V3 {a b m:Nat} (ha:a<(2^64)) (hb:b<(2^64)) (hm:m<(2^64)) (h0:0<m):aD 427 [N a,N b,N m] (.tup [N (((a:Int)-b)%m).toNat,E 0]):=by
 have w2:=j2;have hW:=jQ;have hc:=I6 (aX a) (aX b) (aX m);rw[wN ha (vN hb) hm h0]at hc;have d1:=iI (a:=a) (m:=m) oO oO h0;have d2:=iI (a:=b) (m:=m) oO oO h0;have l1:=aL a h0;have l2:=aL b h0;have hs:=Fu (a:=a%m) (b:=m) oO;have hu:=Fy (a:=a%m+m) (b:=b%m) oO oO;have d3:=iI (a:=a%m+m-b%m) (m:=m) oO oO h0;have e:(a%m+m-b%m)%m=(((a:Int)-b)%m).toNat:=by
  rw[Yf h0];split
  ·rename_i h;rw[h,Nat.sub_zero,Nat.add_mod_right,ep]
  ·rw[Nat.add_sub_assoc oO]
 rw[e]at d3;refine eW call427 func427 ?_;exact z7 @hc @d1 @d2 @hs @hu @d3 oT
theorem He {a:Nat} (ha:a<(2^64)) (hb:b<(2^64)) (hq:q<(2^64)) (h0:0<q):aD 343 [N q,N a,N b] (N ((a+b)%q)):=by
 have h:=V2 ha hb hq h0;refine eW call343 func343 ?_;exact z1 @h
theorem Og {a:Nat} (ha:a<(2^64)) (hb:b<(2^64)) (hq:q<(2^64)) (h0:0<q):aD 345 [N q,N a,N b] (N (((a:Int)-b)%q).toNat):=by
 have h:=V3 ha hb hq h0;refine eW call345 func345 ?_;exact z1 @h
theorem Ak {a:Nat} (ha:a<(2^64)) (hb:b<(2^64)) (hq:q<(2^64)) (h0:0<q):aD 344 [N q,N a,N b] (N (a*b%q)):=by
 have h:=Ou ha hb hq h0;refine eW call344 func344 ?_;exact z1 @h
theorem V0 {a:Nat} (ha:a<(2^64)) (hb:b<(2^64)) (hq:q<(2^64)) (h0:0<q) (hg:Nat.gcd b q=1):aD 346 [N q,N a,N b] (N (a*fR b q%q)):=by
 have h:=wX hb hq h0 hg;have hi:=(gL h0 hg).inv.1;have hm:=Ak ha (b:=fR b q) oO hq h0;refine eW call346 func346 ?_;exact z2 @h @hm
theorem Oh {l:List Bytes} (hv: ∀x∈l,aa x=true) (hl:l.length<1000000):aD 340 [.sl (l.map .s)] (.b true):=by
 have l5:(l.map PV.s).length=l.length:=aB ..;refine eW call340 func340 ?_;refine pU ?_;refine af (α:=Nat) (fun i=>l.length-i) (fun i=>⟨[(0, .v (.sl (l.map .s))),(3,E' i)],[],_⟩) (fun i=>i<=l.length) 0 (fun _=>ay _) (aJ _) ?_ ?_
 ·exact lE
 ·intro i hi R hR
  by_cases hlt:i<l.length
  ·have e1:=dM hlt;have hgo:=hR (i+1) oO oO;have vx:=aK (l.getD i []);rw[hv _ (aq [] hlt)]at vx;generalize l.getD i []=x at*;clear hR;exact gV (aN @l5 @e1) @hgo @vx
  ·obtain rfl:i=l.length:=oO;exact gn @l5
theorem Oe {q:Bytes} (vq:aa q=true) {l:List Bytes} (hv: ∀x∈l,aa x=true/\num x<num q) (hl:l.length<1000000):aD 342 [.s q, .sl (l.map .s)] (.b true):=by
 have l5:(l.map PV.s).length=l.length:=aB ..;refine eW call342 func342 ?_;refine pU ?_;refine af (α:=Nat) (fun i=>l.length-i) (fun i=>⟨[(0, .v (.s q)),(1, .v (.sl (l.map .s))),(5,E' i)],[],_⟩) (fun i=>i<=l.length) 0 (fun _=>ay _) (aJ _) ?_ ?_
 ·exact lE
 ·intro i hi R hR
  by_cases hlt:i<l.length
  ·have e1:=dM hlt;have hgo:=hR (i+1) oO oO;obtain⟨vx,lx⟩:=hv _ (aq [] hlt);have hc:=mA (l.getD i []) q;rw[vx,vq]at hc;simp only[dE,au]at hc;generalize l.getD i []=x at*;have hg:=Kc (num x) (num q);rw[aI lx]at hg;generalize ba (num x) (num q)=cm at*;clear hR;exact gV (aN @l5 (aN @e1 @hg)) @hgo @hc
  ·obtain rfl:i=l.length:=oO;exact gn @l5
theorem Of (hq:q<(2^64)) (hp:fj q=true):aD 341 [N q] (E 0):=by
 have h:=Hn (aX q) (by have:=lN hq;omega)
 rw[vN hq,aI (lN hq),aP,hp,ah rfl,ah (lN hq)]at h;simp only[dE]at h;refine eW call341 func341 ?_;exact z1 @h
theorem Oi (hq:q<(2^64)) (h0:0<q) {cs:List Nat} (hc: ∀c∈cs,c<(2^64)) (hx:x<(2^64)) (hl:cs.length<1000000):aD 223 [N q, .sl (cs.map dr),N x] (N (xG q (nI cs) x).toNat):=by
 have l5:(cs.map dr).length=cs.length:=aB ..;have hw: ∀ _:True,IntKind.i64.wrap ((cs.length:Int)-1)=(cs.length:Int)-1:=fun _=>IntWalk.i64_in _ oO
 refine eW call223 func223 ?_;refine cU (aN @l5 (hw oT)) ?_;refine af (α:=Nat) (fun k=>k) (fun k=>⟨[(0, .v (N q)),(1, .v (.sl (cs.map dr))),(2, .v (N x)),(7, .v (N (xG q ((nI cs).drop k) x).toNat)),(8, .v (.i .i64 ((k:Int)-1)))],[],_⟩) (fun k=>k<=cs.length) cs.length (fun _=>ay _) (ay _) ?_ ?_
 ·have e:(nI cs).drop cs.length=[]:=gU (by rw[sf];exact ay _)
  have e2:N (xG q ((nI cs).drop cs.length) x).toNat= .s []:=by rw[e];exact congrArg PV.s Xi
  rw[e2];exact lE
 ·intro k hk R hR
  cases k with
  |zero=>
   rw[pA];exact z0
  |succ k=>
   have hgo:=hR k oO oO;rw[Nf h0 cs x oO]at hgo;have hb:=zw (q:=q) oO x ((nI cs).drop (k+1));have e1: ∀ _:True,((k+1:Nat):Int)-1=(k:Int):=fun _=>oO
   have hge: ∀ _:True,decide ((k:Int)>=0)=true:=fun _=>by simp
   have hwk: ∀ _:True,IntKind.i64.wrap ((k:Int)-1)=(k:Int)-1:=fun _=>IntWalk.i64_in _ oO
   have e2:=o6 cs (i:=k) oO;have hck:=hc _ (aq 0 (show k<cs.length by omega))
   obtain⟨y,hy⟩: ∃y,y=(xG q ((nI cs).drop (k+1)) x).toNat:=⟨_,rfl⟩;rw[<-hy]at hgo⊢;have hyq:y<q:=oO;generalize cs.getD k 0=c at*;have m1:=Ak (a:=y) (b:=x) (q:=q) oO hx hq h0;have m2:=He (a:=y*x%q) (b:=c) (q:=q) (by have:=aL (y*x) h0;omega) hck hq h0
   clear hR hy hb hc;exact rv (aN (e1 oT) (aN (hge oT) (aN (hwk oT) (aN @l5 @e2)))) @hgo @m1 @m2
theorem Ca {m:Bytes} (lm:m.length<=8) (lo:o.length<=8) (x:Bytes):aD 174 [G m o, .s x] (.b (!(o==[])&&HD m o x)):=by
 have h:=oH lm lo x;unfold HD;generalize jn m o x=b at*
 by_cases ho:o=[]
 ·subst ho;refine eW call174 func174 ?_;repeat' first|simp only[go_sem,seval,nn]|refine cP h ?_|refine oE ?_|apply xX<;>intro hc
  all_goals simp
 ·have ho':(o==([]:Bytes))=false:=by simpa using ho
  cases b
  ·refine eW call174 func174 ?_;repeat' first|simp only[go_sem,seval,ho']|refine cP h ?_|refine oE ?_|apply xX<;>intro hc
   all_goals simp
  ·refine eW call174 func174 ?_;exact Wq @ho' @h
theorem Al (n:Bytes) (hn:n.length<=60):aD 78 [.s n] (.b (mn n)):=by
 refine eW call78 func78 ?_;refine pU ?_;refine af (α:=Nat) (fun i=>n.length-i) (fun i=>⟨[(0, .v (.s n)),(3, .v (.i .i64 (i:Nat)))],[],_⟩) (fun i=>i<=n.length/\ ∀j,j<i->vn j (JP n j)=false) 0 (fun _=>ay _) ⟨aJ _,fun j hj=>oO⟩ ?_ ?_
 ·exact lE
 ·rintro i ⟨hi,ha⟩ R hR
  by_cases hlt:i<n.length
  ·have hlt':(i:Int)<n.length:=oO;have hbad:vn i (JP n i)=true->mn n=false:=by
    intro h;unfold mn;have:(List.range n.length).all (fun i=> !vn i (JP n i))=false:=by
     rw[fy];intro g;have:=bM.1 g i (dV.2 hlt);rw[h]at this;cases this
    rw[this];rfl
   have hgo:vn i (JP n i)=false-> ∀s',(AS.mk [(0, .v (.s n)),(3, .v (.i .i64 ((i+1:Nat):Int)))] [] 1002).Le s'->R s':=by
    intro h s' hs;refine hR (i+1) ⟨oO,fun j hj=> ?_⟩ oO s' hs
    by_cases e:j=i
    ·subst e;exact h
    ·exact ha j oO
   clear hR ha;obtain⟨c,hcc⟩: ∃c,JP n i=c:=⟨_,rfl⟩;have hcd:((n.getD i 0).toNat:Int)=c:=hcc;have h0:0<=c/\c<256:=by rw[<-hcd];have:=(n.getD i 0).toNat_lt;omega
   rw[hcc]at hbad hgo;unfold vn at hbad hgo;obtain⟨b1,h1⟩: ∃b,decide (c>=97)=b:=⟨_,rfl⟩;obtain⟨b2,h2⟩: ∃b,decide (c<=122)=b:=⟨_,rfl⟩;obtain⟨b3,h3⟩: ∃b,decide (c>=65)=b:=⟨_,rfl⟩;obtain⟨b4,h4⟩: ∃b,decide (c<=90)=b:=⟨_,rfl⟩;obtain⟨b5,h5⟩: ∃b,((i:Int)==0)=b:=⟨_,rfl⟩;obtain⟨b6,h6⟩: ∃b,(c !=95)=b:=⟨_,rfl⟩;obtain⟨b7,h7⟩: ∃b,decide (c<48)=b:=⟨_,rfl⟩;obtain⟨b8,h8⟩: ∃b,decide (c>57)=b:=⟨_,rfl⟩;rw[h1,h2,h3,h4,h5,h6,h7,h8]at hbad hgo;have e1:decide ((i:Int)<(n.length:Int))=true:=aI hlt';repeat' first|simp only[go_sem,seval,hcd,h1,h2,h3,h4,h5,h6,h7,h8,e1]|refine oE ?_|apply xX<;>intro hc
   all_goals clear h1 h2 h3 h4 h5 h6 h7 h8 hcd hcc h0
   all_goals try simp only[fJ,Bool.not_eq_false']at*
   all_goals subst_vars
   all_goals first
     |(refine hgo rfl _ ?_;(refine AS.Le.of (by first|decide|omega) ?_ ?_<;>simp[dy,dx,aO,az,AV.bd,AV.bd.bdL,u8,ar,ax,aA]);done)
     |(rw[hbad rfl];done)
     |(cases b6<;>first|(simp at hc;done)|(refine hgo rfl _ ?_;(refine AS.Le.of (by first|decide|omega) ?_ ?_<;>simp[dy,dx,aO,az,AV.bd,AV.bd.bdL,u8,ar,ax,aA]);done)|(rw[hbad rfl];done)|fail)
     |fail
  ·obtain rfl:i=n.length:=oO;have e:mn n=(!(n==[])&&decide (n.length<=32)):=by
    unfold mn;have:(List.range n.length).all (fun i=> !vn i (JP n i))=true:=by
     rw[bM];intro j hj;rw[ha j (dV.1 hj)];rfl
    rw[this,cj]
   rw[e];have e2:decide ((n.length:Int)<=32)=decide (n.length<=32):=by rw[lF];omega
   clear ha hR e;exact Zi
theorem vY {l:List Nat} (hv: ∀x∈l,x<(2^64)) (hl:l.length<1000000):aD 340 [.sl (l.map dr)] (.b true):=by
 have:=Oh (l:=l.map aX) (fun x hx=>by obtain⟨y,hy,rfl⟩:=bG.1 hx;exact vN (hv y hy)) (by rw[aB];exact hl)
 rwa[iB]at this
theorem vX (hq:q<(2^64)) {l:List Nat} (hv: ∀x∈l,x<q) (hl:l.length<1000000):aD 342 [N q, .sl (l.map dr)] (.b true):=by
 have:=Oe (q:=aX q) (vN hq) (l:=l.map aX) (fun x hx=>by obtain⟨y,hy,rfl⟩:=bG.1 hx;exact⟨vN (by have:=hv y hy;omega),by rw[aP,aP];exact hv y hy⟩) (by rw[aB];exact hl)
 rwa[iB]at this
theorem Di (hq:q<(2^64)) (hp:fj q=true) {xs ys:List Nat} (hl:ys.length=xs.length) (h256:xs.length<=256) (hx: ∀a∈xs,a<q) (hy: ∀a∈ys,a<q) (hxq:x<q) (hd:xs.Nodup):aD 222 [N q, .sl (xs.map dr), .sl (ys.map dr),N x] (E 0):=by
 have v1:aD 340 [.sl [N q,N x]] (.b true):=vY (l:=[q,x]) (by simp;omega) (by simp)
 have v2:=vY (l:=xs) (fun a h=>by have:=hx a h;omega) oO
 have v3:=vY (l:=ys) (fun a h=>by have:=hy a h;omega) oO
 have f:=Of hq hp;have b1:aD 342 [N q, .sl [N x]] (.b true):=vX hq (l:=[x]) (by simpa using hxq) (by simp)
 have b2:=vX hq hx oO;have b3:=vX hq hy oO;obtain⟨n,hn⟩: ∃n,n=xs.length:=⟨_,rfl⟩;have lX:(xs.map dr).length=n:=by rw[aB,hn]
 have lY:(ys.map dr).length=n:=by rw[aB,hl,hn]
 have hne: ∀i j,i<n->j<i->(aX (xs.getD i 0)==aX (xs.getD j 0))=false:=fun i j hi hj=>by
  rw[wM,aH];intro e;have h1:j<xs.length:=oO;have h2:i<xs.length:=oO;have:=(List.pairwise_iff_getElem.1 hd) j i h1 h2 hj;rw[bu,bC h2,bu,bC h1]at e;exact this e.symm
 refine eW call222 func222 ?_;refine Gj (aN @lX @lY) @v1 @v2 @v3 @f @b1 @b2 @b3 ?_;refine af (α:=Nat) (fun i=>n-i) (fun i=>⟨[(1, .v (.sl (xs.map dr))),(10,E' i)],[],_⟩) (fun i=>i<=n) 0 (fun _=>ay _) (aJ _) ?_ ?_
 ·exact lE
 ·intro i hi R hR
  by_cases hlt:i<n
  ·have hgo:=hR (i+1) oO oO;have e1:=o6 xs (i:=i) oO;have hne:=hne i;generalize xs.getD i 0=xi at*;clear hR v1 v2 v3 f b1 b2 b3;refine cU @lX ?_;refine af (α:=Nat) (fun j=>i-j) (fun j=>⟨[(1, .v (.sl (xs.map dr))),(10,E' i),(11,E' j)],[],_⟩) (fun j=>j<=i) 0 (fun _=>ay _) (aJ _) ?_ ?_
   ·exact lE
   ·intro j hj R hR
    by_cases hlt:j<i
    ·have hg2:=hR (j+1) oO oO;have e2:=o6 xs (i:=j) oO;have hne:=hne j oO hlt;generalize xs.getD j 0=xj at*;clear hR hgo;exact jC (aN @lX (aN @e1 (aN @e2 @hne))) @hg2
    ·obtain rfl:j=i:=oO;clear hR;exact jC @lX @hgo
  ·obtain rfl:i=n:=oO;exact gn @lX
theorem wV {m:Bytes} (lm:m.length<=8) (lo:o.length<=8) (g y:Bytes):aD 79 [SK m o g y] (E (nN m o g y)):=by
 have v1:=aK m;have v2:=aK o;have v3:=aK g;have v4:=aK y;have h2:=jJ lm lo;have h3:=Ca lm lo g;have h4:=Ca lm lo y;unfold nN;simp only[List.all_cons,List.all_nil,jB];generalize HD m o g=b3 at*;generalize HD m o y=b4 at*;generalize aa m=c1 at*;generalize aa o=c2 at*;generalize aa g=c3 at*;generalize aa y=c4 at*;cases c1
 ·refine eW call79 func79 ?_;exact TK @v1
 cases c2
 ·refine eW call79 func79 ?_;exact Pz @v1 @v2
 cases c3
 ·refine eW call79 func79 ?_;exact Y7 @v1 @v2 @v3
 cases c4
 ·refine eW call79 func79 ?_;exact Y8 @v1 @v2 @v3 @v4
 simp only[dE,bQ,bm,an]
 by_cases h0:gE m o=0
 ·rw[h0]at h2⊢;generalize (o==([]:Bytes))=b2 at*
  cases b2<;>cases b3<;>cases b4
  all_goals simp only[bQ,ca,dE,jB,uL,cj,dW]at h3 h4
  all_goals
   refine eW call79 func79 ?_;repeat' first|simp only[go_sem,seval,fY,eK]|refine cP v1 ?_|refine cP v2 ?_|refine cP v3 ?_|refine cP v4 ?_|(refine ai ?_)|refine cP h2 ?_|refine cP h3 ?_|refine cP h4 ?_|refine oE ?_|apply xX<;>intro hc
   all_goals rfl
 ·rw[ah h0];generalize gE m o=e at*;refine eW call79 func79 ?_;exact zu5 @v1 @v2 @v3 @v4 @h2
noncomputable def UZ (name m o base:Bytes) (need count:Int) (vs:List Bytes) (sd:Bytes) (a:Int):Except Int (Nat×List Nat×Nat):=
 if !([m,o,base].all aa)|| !e9 vs a then .error 3 else if !mn name then .error 1
 else match FP m o base vs sd a with
  | .error e=> .error e
  | .ok (y,x,i)=>match Bu (num o) x need count vs sd i with
   | .error e=> .error e
   | .ok (ls,j)=> .ok (y,ls,j)
def RP (m base:Nat) (ls:List Nat):List Nat:=ls.map fun s=>base^s%m
def EN (name m o base:Bytes) (need:Int) (vs:List Bytes) (sd:Bytes):Except Int (Nat×List Nat×Nat)->PV
 | .ok (y,ls,j)=> .tup [.agg [.s name, .s m, .s o, .s base,N y,E need, .sl ((RP (num m) (num base) ls).map dr)], .sl (ls.map dr),T vs sd (j:Nat),E 0]
 | .error e=> .tup [CK0, .sl [],T [] [] 0,E e]
theorem OO {m o base:Bytes} (h:FP m o base vs sd a= .error e):e≠0:=by
 unfold FP at h
 split at h
 ·injection h with h;omega
 ·split at h
  ·rename_i h1;injection h with h;rw[<-h];exact h1
  ·split at h
   ·injection h with h;omega
   ·split at h
    ·rename_i e' he;injection h with h;have:=EH he;omega
    ·split at h
     ·injection h with h;omega
     ·cases h
structure ZA (m o base:Bytes) (vs:List Bytes) (a:Int) (y x i:Nat):Prop where
 vb:aa base=true
 e:gE m o=0
 o0:o≠[]
 gp:GP m o (num base)
 g1:base≠[1]
 hv:vs.all aa=true
 x0:1<=x
 xq:x<num o
 ye:y=num base^x%num m
 y1:y≠1
 ib:i<=2147483647
theorem Sy {m o base:Bytes} {y:Nat} (lo:o.length<=8) (hl:vs.length<1000000) (h:FP m o base vs sd a= .ok (y,x,i)):ZA m o base vs a y x i:=by
 unfold FP at h
 split at h
 ·cases h
 ·rename_i h1
  split at h
  ·cases h
  ·rename_i h2
   split at h
   ·cases h
   ·rename_i h3;have h0:gE m o=0:=by simpa using h2
    simp only[lB,fJ,not_or,D8]at h1 h3;have ho:o≠[]:=by simpa using h3.1
    obtain⟨-,-,-,-,hoq⟩:=jm h0;obtain⟨q1,-⟩:=hoq ho;have hqW:=eP lo;have hs:=h3.2;unfold HD jn at hs;simp only[aZ,fJ,ey]at hs;obtain⟨vb,gp⟩:=(cH h0).1 hs.1.2;obtain⟨hv,a0,a1⟩:=tq h1.2
    split at h
    ·cases h
    ·rename_i c hc;obtain⟨-,c2,c3⟩:=gG hv (vN oO) hl oO hc;rw[aP]at c2
     split at h
     ·cases h
     ·rename_i hy;simp only[yp,dU]at h;obtain⟨rfl,rfl,rfl⟩:=h;exact⟨vb,h0,ho,gp,hs.2,hv,oO,oO,rfl,hy,c3⟩
theorem O2 (h:Bu q sec need count vs sd i= .error e):e≠0:=by
 unfold Bu at h
 split at h
 ·injection h with h;omega
 ·split at h
  ·injection h with h;omega
  ·split at h
   ·rename_i e' he;injection h with h;have:=vK he;omega
   ·cases h
theorem O3 {ls:List Nat} {j:Nat} (h:Bu q sec need count vs sd i= .ok (ls,j)):1<=need/\need<=count/\count<=255/\count<q/\ls.length=count.toNat/\ ∃l,lU vs sd (aX q) (need-1).toNat i []= .ok l/\ls=xw q sec l count.toNat/\fj q=true:=by
 unfold Bu at h
 split at h
 ·cases h
 ·rename_i h1
  split at h
  ·cases h
  ·rename_i h2
   split at h
   ·cases h
   ·rename_i l hl;simp only[yp,dU]at h;obtain⟨rfl,rfl⟩:=h;exact⟨oO,oO,oO,oO,FX _ _ _ _,l,hl,rfl,by simpa using h1⟩
theorem SE (h0:0<q) (l:List Bytes) (k:Nat): ∀s∈xw q sec l k,s<q:=fun s hs=>by
 obtain⟨j,-,rfl⟩:=bG.1 hs;have:=zw (q:=(q:Int)) oO ((j+1:Nat):Int) (nI (sec::l.map num));omega
theorem MY {name m o:Bytes} (ln:name.length<=60) (lm:m.length<=8) (lo:o.length<=8) (base:Bytes) (need:Int) (hc:count<=8\/count>255) (hl:vs.length<1000000) (hsd:sd.length<1000000):
  aD 19 [.s name,G m o, .s base,E need,E count,T vs sd a] (EN name m o base need vs sd (UZ name m o base need count vs sd a)):=by
 have h1:=mH [m,o,base] (by simp)
 simp only[br,bK]at h1;have h2:=zf vs sd a hl;have h3:=EC name ln;have h4:=O0 lm lo base (vs:=vs) (sd:=sd) (a:=a) hl hsd;have f3:=sX 3;have f1:=sX 1;unfold UZ
 cases hb1:[m,o,base].all aa with
 |false=>
  rw[hb1]at h1;simp only[ca,j7,au,EN];refine eW call19 func19 ?_;exact z2 @h1 @f3
 |true=>
 rw[hb1]at h1
 cases hg:e9 vs a with
 |false=>
  rw[hg]at h2;simp only[ca,uu,au,EN];refine eW call19 func19 ?_;exact z4 @h1 @h2 @f3 oT
 |true=>
 rw[hg]at h2;simp only[bQ,rf,bm,an]
 cases hn:mn name with
 |false=>
  rw[hn]at h3;simp only[ca,au,EN];refine eW call19 func19 ?_;exact z4 @h1 @h2 @h3 @f1
 |true=>
 rw[hn]at h3;simp only[bQ,bm,an]
 cases hs:FP m o base vs sd a with
 |error e=>
  rw[hs]at h4;have he:=OO hs;have fe:=sX e;simp only[EN,Az]at h4⊢;clear hs;refine eW call19 func19 ?_;exact z7 @h1 @h2 @h3 @h4 @fe oT oT
 |ok R=>
 obtain⟨y,x,i⟩:=R;rw[hs]at h4;obtain⟨vb,hE,ho,gp,-,hv,x0,xq,hy,-,hi⟩:=Sy lo hl hs;obtain⟨vm,vo,m1,-,hoq⟩:=jm hE;have hqW:=eP lo;simp only[Az]at h4⊢
 cases hp:Bu (num o) x need count vs sd i with
 |error e=>
  have h5:=HJ hqW oO xq hc hv hi hl hsd hp;rw[eE vo]at h5;have he:=O2 hp;have fe:=sX e;simp only[EN];clear hs hp;refine eW call19 func19 ?_;exact z7 @h1 @h2 @h3 @h4 @h5 @fe oT
 |ok R=>
 obtain⟨ls,j⟩:=R;have h5:=FZ hqW oO xq hc hv hi hl hsd hp;rw[eE vo]at h5;obtain⟨n1,n2,n3,n4,n5,l,-,hls,-⟩:=O3 hp;have hlq: ∀s∈ls,s<num o:=by rw[hls];exact SE oO l _
 obtain⟨n,hn0⟩: ∃n,n=ls.length:=⟨_,rfl⟩;have lP:ls.length=n:=hn0.symm;have hpos:0<n:=oO;simp only[EN];obtain⟨S,hS⟩: ∃S,S=RP (num m) (num base) ls:=⟨_,rfl⟩;have hSl:S.length=n:=by rw[hS,RP,aB,lP]
 have hSg: ∀k,k<n->S.getD k 0=num base^(ls.getD k 0)%num m:=fun k hk=>by
  rw[hS,RP,bu,dG,bC oO,bu,bC oO];rfl
 have hEx:=fun s (hsq:s<num o)=>jT lm lo (ng:=false) (e:=aX s) hE gp (vN oO) rfl
 rw[eE vb]at hEx;rw[<-hS];have k1:=db hSl;have k2:=eX S;have k3:=dJ hSl;have k4:(aE S).length=n:=by rw[bw,hSl]
 clear hs hp hls hS;refine eW call19 func19 ?_;refine Gj @lP @h1 @h2 @h3 @h4 @h5 oT oT ?_;refine af (α:=Nat) (fun j=>n-j) (fun k=>match k with|0=>⟨[(2, .v (.s base)),(7, .p 1000 0 0),(11, .p 1001 0 0),(12, .p 1002 0 0),(14, .p 1004 0 0),(20, .v (.sl (ls.map dr))),(21, .p 1059 0 0),(96, .v (.sl (ls.map dr))),(97,E' n),(98, .v (.i .i64 0))],[(1000,⟨0,[.v (.s m), .v (.s o)],false,none⟩),(1001,⟨0,[.v (.sl (vs.map .s)), .v (.s sd), .v (.i .i64 (j:Nat))],false,none⟩),(1002,⟨0,[.v (.s []), .v (.s []), .v (.s []), .v (.s []), .v (.s []), .v (E 0), .sn],false,some 29⟩),(1004,⟨0,[.sn, .v (.s []), .v (.i .i64 0)],false,some 37⟩),(1059,⟨0,[.v (.s name), .v (.s m), .v (.s o), .v (.s base), .v (N y), .v (E need), .sn],false,some 29⟩)],1064⟩|k+1=>⟨[(2, .v (.s base)),(7, .p 1000 0 0),(11, .p 1001 0 0),(12, .p 1002 0 0),(14, .p 1004 0 0),(20, .v (.sl (ls.map dr))),(21, .p 1059 0 0),(96, .v (.sl (ls.map dr))),(97,E' n),(98,E' (k+1))],[(1000,⟨0,[.v (.s m), .v (.s o)],false,none⟩),(1001,⟨0,[.v (.sl (vs.map .s)), .v (.s sd), .v (.i .i64 (j:Nat))],false,none⟩),(1002,⟨0,[.v (.s []), .v (.s []), .v (.s []), .v (.s []), .v (.s []), .v (E 0), .sn],false,some 29⟩),(1004,⟨0,[.sn, .v (.s []), .v (.i .i64 0)],false,some 37⟩),(1059,⟨0,[.v (.s name), .v (.s m), .v (.s o), .v (.s base), .v (N y), .v (E need), .rs 1084 k 0 (k+1) 1],false,some 29⟩),(1084,⟨k,aE (S.take (k+1)),true,some 22⟩)],1089⟩) (fun k=>k<=n) 0 (fun k=>by cases k<;>exact bZ rfl) (aJ _) ?_ ?_
 ·show AS.Le _ _;exact lE
 ·intro k hk R hR
  cases k with
  |zero=>
   have hgo:=hR 1 oO oO;simp only[eY 0 (show 0<S.length by omega),List.take_zero,List.nil_append,hSg 0 hpos]at hgo
   have e1:=o6 ls (i:=0) oO;have hsq:=hlq _ (aq 0 (show 0<ls.length by omega))
   generalize ls.getD 0 0=s0 at*;have hf:=oU (a:=aX s0) (vN oO);have hx:aD 29 [G m o, .s base, .agg [.b false, .s (aX s0)]] (.tup [N (num base^s0%num m),E 0]):=by
    have:=hEx s0 hsq;rw[aP]at this;exact this
   generalize num base^s0%num m=v at*;simp only[show aE [v]=[AV.v (N v)]from rfl]at hgo
   clear hR hEx hSg hlq h1 h2 h3 h4 h5;exact rv (aN @lP @e1) @hgo @hf @hx
  |succ k=>
   have hlm:(S.take (k+1)).length=k+1:=by rw[bV];omega
   have g1:=db hlm;have g2:(aE (S.take (k+1))).length=k+1:=by rw[bw,hlm]
   by_cases hlt:k+1<n
   ·have hgo:=hR (k+2) oO oO;simp only[eY 0 (show k+1<S.length by omega),lV,hSg (k+1) hlt]at hgo
    have e1:=o6 ls (i:=k+1) oO;have hsq:=hlq _ (aq 0 (show k+1<ls.length by omega))
    generalize ls.getD (k+1) 0=s0 at*;have hf:=oU (a:=aX s0) (vN oO);have hx:aD 29 [G m o, .s base, .agg [.b false, .s (aX s0)]] (.tup [N (num base^s0%num m),E 0]):=by
     have:=hEx s0 hsq;rw[aP]at this;exact this
    generalize num base^s0%num m=v at*;clear hR hEx hSg hlq h1 h2 h3 h4 h5;refine pV (aN @lP (aN @e1 (aN @g1 @g2))) @hf @hx ?_;refine hgo _ ?_;refine lG ?_;all_goals exact fun c hc=>hc.elim (fun h=>dZ h) (fun h=>by rw[h];rfl)
   ·obtain rfl:k+1=n:=oO;simp only[cb (show S.length<=k+1 by omega)]at g1 g2⊢
    clear hR hEx hSg hlq h1 h2 h3 h4 h5;exact gn (aN @lP (aN @k1 (aN @k2 (aN @k3 (aN @k4 @dC)))))
