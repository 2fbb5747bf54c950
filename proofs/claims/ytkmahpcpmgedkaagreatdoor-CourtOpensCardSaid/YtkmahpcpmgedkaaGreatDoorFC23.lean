/- Part of the proof. -/
import Derived.Test.YtkmahpcpmgedkaaGreatDoorFC22
import Derived.Test.YtkmahpcpmgedkaaGreatDoorFC21
set_option linter.all false
set_option maxHeartbeats 8000000
set_option maxRecDepth 100000
namespace Go.Proofs.Tryz
open Go Go.Dom
theorem Ap:(2^64)<=dT:=by decide
theorem ka:(2^64)<=dZ:=by unfold dZ;decide+kernel
theorem BR {x:Int} {m:Nat} (hx:x.natAbs<dT) (hm:m<dT) (h0:0<m):aE 467 [Z x,Z m] (.tup [Z (x/m),N (x%m).toNat,E 0]):=by
 have hw:=AY;have v1:=ji (x:=x) oO;have v2:=ji (x:=(m:Int)) oO;have hd:=qp (a:=x.natAbs) (b:=m) oO oO h0;have e0:(aY m==([]:Bytes))=false:=si oO;have hl:=aL x.natAbs h0;have hq:x.natAbs/m<=x.natAbs:=eV _ _;have h1:=ie 1 oC
 by_cases hs:x<0
 ·have hz:zs x=true:=by simp[zs,hs]
  have hn:x= -(x.natAbs:Int):=oO;simp only[Z,hz]at v1;simp only[Z,nc,mZ]at v2
  by_cases hr:x.natAbs%m=0
  ·obtain⟨g1,g2⟩:=Ph h0 hr;rw[<-hn]at g1 g2;have hk:=mV true (x.natAbs/m) (z:=x/m) (by rw[g1];rfl)
   have e1:(aY (x.natAbs%m)==([]:Bytes))=true:=by rw[hr];rfl
   rw[g2,<-hr];generalize x/(m:Int)=q at*;clear g1 g2 hn hr hw;refine eW call467 func467 ?_;repeat' first|simp only[go_sem,seval,Z,nc,mZ,hz,e0,e1]|refine cP v1 ?_|refine cP v2 ?_|refine cP hd ?_|refine cP hk ?_|refine oE ?_|apply xX<;>intro hc
  ·obtain⟨g1,g2⟩:=Ln h0 hr;rw[<-hn]at g1 g2;have hk:=mV true (x.natAbs/m+1) (z:=x/m) (by rw[g1];rfl)
   have e1:(aY (x.natAbs%m)==([]:Bytes))=false:=si hr;have ha:=IS (a:=x.natAbs/m) (b:=1) (by have:=F6;unfold dT at*;omega)
   have hb:=IY (a:=m) (b:=x.natAbs%m) oO oO;rw[g2];generalize x/(m:Int)=q at*;clear g1 g2 hn hr hw;refine eW call467 func467 ?_;repeat' first|simp only[go_sem,seval,Z,nc,mZ,hz,e0,e1]|refine cP v1 ?_|refine cP v2 ?_|refine cP hd ?_|refine cP h1 ?_|refine cP ha ?_|refine cP hb ?_|refine cP hk ?_|refine oE ?_|apply xX<;>intro hc
 ·have hz:zs x=false:=by simp[zs,hs]
  have hn:x=(x.natAbs:Int):=oO;simp only[Z,hz]at v1;simp only[Z,nc,mZ]at v2;obtain⟨g1,g2⟩:=Pj x.natAbs m;rw[<-hn]at g1 g2;have hk:=mV false (x.natAbs/m) (z:=x/m) (by rw[g1];rfl)
  rw[g2];generalize x/(m:Int)=q at*;clear g1 g2 hn hw;refine eW call467 func467 ?_;repeat' first|simp only[go_sem,seval,Z,nc,mZ,hz,e0]|refine cP v1 ?_|refine cP v2 ?_|refine cP hd ?_|refine cP hk ?_|refine oE ?_|apply xX<;>intro hc
theorem VV {x:Int} {m:Nat} (hx:x.natAbs<dT) (hm:m<dT) (h0:0<m):aE 429 [Z x,N m] (.tup [N (x%m).toNat,E 0]):=by
 have hw:=AY;have v1:=ji (x:=x) oO;have v2:=aK (aY m);rw[vB (show m<dZ by omega)]at v2
 have hf:=zW (n:=m) oO;have hd:=BR hx hm h0;refine eW call429 func429 ?_;repeat' first|simp only[go_sem,seval,Z]|refine cP v1 ?_|refine cP v2 ?_|refine cP hf ?_|refine cP hd ?_|refine oE ?_|apply xX<;>intro hc
theorem G6: ∀(n a b:Nat),b<=n->a<(2^64)->b<(2^64)-> ∃g x y,SG a b g x y/\aE 466 [N a,N b] (.tup [N g,Z x,Z y]):=by
 intro n
 induction n with
 |zero=>
  intro a b hn ha hb;obtain rfl:b=0:=oO;refine⟨a,1,0,SG.base a,?_⟩;have h1:=X7;have h0:=aas;refine eW call466 func466 ?_;repeat' first|simp only[go_sem,seval,GQ,Z]|refine cP h1 ?_|refine cP h0 ?_|refine oE ?_|apply xX<;>intro hc
 |succ n ih=>
  intro a b hn ha hb
  by_cases hb0:b=0
  ·subst hb0;exact ih a 0 (aI _) ha hb
  have hpos:0<b:=oO;have hml:=aL a hpos;obtain⟨g,x,y,hz,he⟩:=ih b (a%b) oO hb oO;have hst:=SG.step hpos hz;refine⟨g,y,_,hst,?_⟩;have hq:a/b<=a:=eV _ _;have w1:=Ap;have w2:=ka;have by1:=hst.bx hpos;have bx1:x.natAbs<=b:=by
   rcases kf (a%b)with h0|h0
   ·obtain⟨rfl,-⟩:=hz.z h0;exact hpos
   ·have:=hz.bx h0;omega
  have hf:=zW (n:=a/b) oO;have hm:=Oi (x:=((a/b:Nat):Int)) (y:=y) (by rw[Int.natAbs_natCast];omega) oO
  have hpb:(((a/b:Nat):Int)*y).natAbs<dT:=by
   rw[mC,Int.natAbs_natCast];have:a/b*y.natAbs<=a/b*b:=jt _ by1;have h2:a/b*b<=a:=rk a b;omega
  have hs:=VY (x:=x) (y:=((a/b:Nat):Int)*y) oO hpb;have hd:=qp (a:=a) (b:=b) oO oO hpos;have e0:=si hb0;generalize x-((a/b:Nat):Int)*y=u at*;generalize ((a/b:Nat):Int)*y=v at*;clear hst hz hpb by1 bx1 hq ih;refine eW call466 func466 ?_;repeat' first|simp only[go_sem,seval,e0,Z,nc,mZ]|refine cP hd ?_|refine cP he ?_|refine cP hf ?_|refine cP hm ?_|refine cP hs ?_|refine oE ?_|apply xX<;>intro hc
theorem C4 {a b:Nat} (ha:a<(2^64)) (hb:b<(2^64)) (h0:0<b): ∃X Y:Int,(Nat.gcd a b=1->0<=X/\X.natAbs%b=fR a b)/\X.natAbs<(2^64)/\aE 428 [N a,N b] (.tup [N (Nat.gcd a b),Z X,Z Y,E 0]):=by
 obtain⟨g,x,y,hz,he⟩:=G6 b a b (aA _) ha hb;have hg:=hz.g;have hgp:0<g:=by rw[hg];exact Nat.gcd_pos_of_pos_right _ h0
 have hgb:g<=b:=by rw[hg];exact DG _ h0
 have hx:=hz.bx h0;have hy:=hz.by' h0
 have w1:=Ap;have w2:=ka;have hm1:b/g<=b:=eV _ _;have hk1:a/g<=a:=eV _ _;have hmp:0<b/g:=Nat.div_pos hgb hgp;have v1:=aK (aY a);have v2:=aK (aY b);rw[vB (show a<dZ by omega)]at v1
 rw[vB (show b<dZ by omega)]at v2
 have e0:(aY b==([]:Bytes))=false:=si oO;have d1:=qp (a:=b) (b:=g) oO oO hgp;have d2:=qp (a:=a) (b:=g) oO oO hgp;have f1:=zW (n:=b/g) oO;have f2:=zW (n:=a/g) oO;have dm:=BR (x:=x) (m:=b/g) oO oO hmp;obtain⟨q,hq⟩: ∃q,q=x/((b/g:Nat):Int):=⟨_,rfl⟩;obtain⟨r,hr⟩: ∃r,r=(x%((b/g:Nat):Int)).toNat:=⟨_,rfl⟩;have hrl:r<b/g:=by
  have h1:=ig x (show(0:Int)<((b/g:Nat):Int) by omega)
  omega
 have hqb:q.natAbs<=x.natAbs+1:=by
  have h1:=gU x (show((b/g:Nat):Int)≠0 by omega)
  have h2:=nT x ((b/g:Nat):Int);rw[<-hq]at h2;have h3:(((b/g:Nat):Int)*q).natAbs=b/g*q.natAbs:=by rw[mC,Int.natAbs_natCast]
  have h4:q.natAbs<=b/g*q.natAbs:=DR _ hmp
  by_cases hq0:q.natAbs<=1
  ·omega
  ·have h5:b/g+q.natAbs<=b/g*q.natAbs+1:=by
    obtain⟨u,hu⟩: ∃u,b/g=u+1:=⟨b/g-1,oO⟩;obtain⟨v,hv⟩: ∃v,q.natAbs=v+1:=⟨q.natAbs-1,oO⟩;rw[hu,hv,dk,kp];omega
   omega
 have mk:=Oi (x:=q) (y:=((a/g:Nat):Int)) (by unfold dT;omega) (by rw[Int.natAbs_natCast];unfold dT;omega)
 have hpk:(q*((a/g:Nat):Int)).natAbs<dT:=by
  rw[mC,Int.natAbs_natCast];have:=iP (show q.natAbs<=(2^64) by omega) (show a/g<=(2^64)-1 by omega)
  unfold dT;omega
 have ad:=VU (x:=y) (y:=q*((a/g:Nat):Int)) (by unfold dT;omega) hpk
 have fr:=zW (n:=r) oO;refine⟨(r:Int),y+q*((a/g:Nat):Int),?_,oO,?_⟩
 ·intro h1;have g1:g=1:=by rw[hg];exact h1
  refine⟨oO,(jr (aL _ h0) ?_).symm⟩;have he1:=hz.e;rw[g1]at hr he1;rw[iW]at hr;have hnn:=gU x (show(b:Int)≠0 by omega)
  have:=GG (a:=a) (b:=b) (X:=x%(b:Int)) (Y:=y+a*(x/(b:Int))) hnn (by
   have h2:=nT x (b:Int);have h3:x%(b:Int)=x-b*(x/(b:Int)):=oO;rw[h3,pH,mz];have h4:(a:Int)*(b*(x/(b:Int)))=b*(a*(x/(b:Int))):=by rw[<-mq,ua (a:Int),mq]
   simp only[Int.natCast_one]at he1;omega)
  have e5:(r:Int).natAbs=(x%(b:Int)).natAbs:=by rw[hr];omega
  rw[e5];exact this
 ·rw[<-hg];rw[<-hq,<-hr]at dm;generalize q*((a/g:Nat):Int)=u at*;generalize y+u=v at*;clear hz hx hy hpk hqb hrl hq hr hmp hm1 hk1 hgp hgb hg;refine eW call428 func428 ?_;repeat' first|simp only[go_sem,seval,e0,Z,nc,mZ]|refine cP v1 ?_|refine cP v2 ?_|refine cP he ?_|refine cP d1 ?_|refine cP d2 ?_|refine cP f1 ?_|refine cP f2 ?_|refine cP dm ?_|refine cP mk ?_|refine cP ad ?_|refine cP fr ?_|refine oE ?_|apply xX<;>intro hc
theorem js {a m:Nat} (ha:a<dZ) (hm:m<dZ) (h0:0<m):aE 315 [N a,N m] (N (a%m)):=by
 have hd:=qp ha hm h0;refine eW call315 func315 ?_;exact z1 @hd
theorem X3 (a m:Bytes):aE 229 [.sl [.s a, .s m]] (E (sX [a] m)):=by
 have va:=aK a;have vm:=aK m;refine eW call229 func229 ?_;repeat' first|simp only[go_sem,seval,fY,eF]|refine cP va ?_|refine cP vm ?_|(refine ai ?_)|refine oE ?_|apply xX<;>intro hc
 all_goals simp_all[sX]
theorem IT (a b m:Bytes):aE 229 [.sl [.s a, .s b, .s m]] (E (sX [a,b] m)):=by
 have va:=aK a;have vb:=aK b;have vm:=aK m;refine eW call229 func229 ?_;repeat' first|simp only[go_sem,seval,fY,eF]|refine cP va ?_|refine cP vb ?_|refine cP vm ?_|(refine ai ?_)|refine oE ?_|apply xX<;>intro hc
 all_goals simp_all[sX]
theorem C6 {a b m:Nat} (ha:a<(2^64)) (hb:b<(2^64)) (hm:m<(2^64)) (h0:0<m):aE 230 [N a,N b,N m] (N (a*b%m)):=by
 have w2:=ka;have hs:=vJ (aY m);rw[vB (show m<dZ by omega),aJ (lN hm),aQ]at hs
 have d1:=js (a:=a) (m:=m) oO oO h0;have d2:=js (a:=b) (m:=m) oO oO h0;have l1:=aL a h0;have l2:=aL b h0;have s1:=vJ (aY (a%m));rw[vB (show a%m<dZ by omega),aJ (lN (show a%m<(2^64) by omega)),aQ]at s1
 have s2:=vJ (aY (b%m));rw[vB (show b%m<dZ by omega),aJ (lN (show b%m<(2^64) by omega)),aQ]at s2
 have hmul:a%m*(b%m)<(2^64)*(2^64):=ga oO oO;have hlm:(2^64)*(2^64)<=dZ:=by unfold dZ;decide+kernel
 have hp:=Tg (a:=a%m) (b:=b%m) oO oO oO;have d3:=js (a:=a%m*(b%m)) (m:=m) oO oO h0;rw[<-du]at d3;have hl3:=aL (a*b) h0
 by_cases hsm:m<2147483648
 ·have ho:=ie (a*b%m) oO;have hlt:a%m*(b%m)<(2^64):=by
   have:a%m*(b%m)<2147483648*2147483648:=ga oO oO;omega
  have hw: ∀ _:True,IntKind.u64.wrap (((a%m:Nat):Int)*((b%m:Nat):Int))=((a%m*(b%m):Nat):Int):=fun _=>by
   rw[<-Int.natCast_mul,IntWalk.u64_in _ oO]
  have hmm: ∀ _:True,((a%m*(b%m):Nat):Int).tmod (m:Int)=((a*b%m:Nat):Int):=fun _=>by
   rw[du];rfl
  clear hp d3 hmul hlm;generalize a%m=u at*;generalize b%m=v at*;refine eW call230 func230 ?_;repeat' first|simp only[go_sem,seval,ax,hw oT,hmm oT]|refine cP hs ?_|refine cP d1 ?_|refine cP d2 ?_|refine cP s1 ?_|refine cP s2 ?_|refine cP ho ?_|refine oE ?_|apply xX<;>intro hc
 ·clear hmul hlm;refine eW call230 func230 ?_;repeat' first|simp only[go_sem,seval,ax]|refine cP hs ?_|refine cP d1 ?_|refine cP d2 ?_|refine cP hp ?_|refine cP d3 ?_|refine oE ?_|apply xX<;>intro hc
theorem Oj {a b m:Nat} (ha:a<(2^64)) (hb:b<(2^64)) (hm:m<(2^64)) (h0:0<m):aE 114 [N a,N b,N m] (.tup [N (a*b%m),E 0]):=by
 have hc:=IT (aY a) (aY b) (aY m);rw[wj ha (vN hb) hm h0]at hc;have ht:=C6 ha hb hm h0;refine eW call114 func114 ?_;exact z2 @hc @ht
theorem vI {a m:Nat} {e:Bytes} (ha:a<(2^64)) (he:aa e=true) (hm:m<(2^64)) (h0:0<m):aE 356 [N a, .s e,N m] (N (a^num e%m)):=by
 have w2:=ka;have ho:=ie 1 oC;have d1:=js (a:=1) (m:=m) oO oO h0;have hb:=KK he;have hbi:=fun i hi=>RR he i hi
 obtain⟨n,hn⟩: ∃n,n=num e:=⟨_,rfl⟩;have hbl:c9 n<1000000:=by
  have h1:n<2^1024:=by
   rw[hn];refine bE (cC e) ?_;have le:=cW he;exact fZ (dc oC le) (by decide+kernel)
  by_cases hz:n=0
  ·rw[hz];decide
  ·obtain⟨g1,g2⟩:=sR hz;have:=(rh (by decide:1<2)).1 (eX g1 h1)
   omega
 rw[<-hn]at hb hbi⊢;have hb2:n/2^c9 n=0:=iB (sS n);clear hn;refine eW call356 func356 ?_;repeat' first|simp only[go_sem,seval]|refine cP ho ?_|refine cP d1 ?_|refine cP hb ?_|refine oE ?_|apply xX<;>intro hc
 refine af (α:=Nat) (fun k=>k) (fun k=>⟨[(0, .v (N a)),(1, .v (.s e)),(2, .v (N m)),(7, .v (N (a^(n/2^k)%m))),(8, .v (.i .i64 ((k:Int)-1)))],[],_⟩) (fun k=>k<=c9 n) (c9 n) (fun _=>aA _) (aA _) ?_ ?_
 ·(refine AS.Le.of (by first|decide|omega) ?_ ?_<;>simp[dC,dA,aP,ay,AV.bd,AV.bd.bdL,u8,ar,au,az])
  rw[hb2,Nat.pow_zero]
 ·intro k hk R hR
  cases k with
  |zero=>
   refine wV ?_;rw[iW]
  |succ k=>
   obtain⟨x,hx⟩: ∃x,x=a^(n/2^(k+1))%m:=⟨_,rfl⟩;have hxm:x<m:=by rw[hx];exact aL _ h0
   have hxx:x*x%m<m:=aL _ h0;have t1:=C6 (a:=x) (b:=x) oO oO hm h0;have t2:=C6 (a:=x*x%m) (b:=a) oO ha hm h0;have hbit:=hbi k oO;rw[lB]at hbit;have hdd:=EK n k;have hw0: ∀ _:True,((k+1:Nat):Int)-1=(k:Int):=fun _=>oO
   have hge0: ∀ _:True,decide ((k:Int)>=0)=true:=fun _=>by simp
   rw[<-hx];repeat' first|simp only[go_sem,seval,hw0 oT,hge0 oT]|refine cP t1 ?_|refine cP t2 ?_|refine cP hbit ?_|refine oE ?_|apply xX<;>intro hc
   ·have ez:x*x%m*a%m=a^(n/2^k)%m:=by
     have e3:x*x%m=a^(n/2^(k+1))*a^(n/2^(k+1))%m:=by rw[hx,<-du]
     rw[e3,jM,<-cY,<-Nat.pow_succ];congr 2;omega
    refine hR k oO oO _ ?_;rw[<-ez];exact lE
   ·have ez:x*x%m=a^(n/2^k)%m:=by
     rw[hx,<-du,<-cY];congr 2;omega
    refine hR k oO oO _ ?_;rw[<-ez];exact lE
theorem X5 {a m:Nat} {e:Bytes} (ha:a<(2^64)) (he:aa e=true) (hm:m<(2^64)) (h0:0<m):aE 352 [N a, .s e,N m] (.tup [N (a^num e%m),E 0]):=by
 have hc:=IT (aY a) e (aY m);rw[wj ha he hm h0]at hc;have hr:=vI ha he hm h0;refine eW call352 func352 ?_;exact z2 @hc @hr
theorem wF {a m:Nat} (ha:a<(2^64)) (hm:m<(2^64)) (h0:0<m) (hg:Nat.gcd a m=1):aE 355 [N a,N m] (.tup [N (fR a m),E 0]):=by
 have w1:=Ap;have w2:=ka;have hc:=X3 (aY a) (aY m);rw[SP ha hm h0]at hc;have hd:=js (a:=a) (m:=m) oO oO h0;have hl:=aL a h0;have hg':Nat.gcd (a%m) m=1:=by rw[<-hg,<-mA,kZ]
 obtain⟨X,Y,h1,h2,h3⟩:=C4 (a:=a%m) (b:=m) oO hm h0;obtain⟨h4,h5⟩:=h1 hg';rw[hg']at h3;have ho:=ie 1 oC;have hi:=VV (x:=X) (m:=m) oO oO h0;have hX:(X%(m:Int)).toNat=fR a m:=by
  obtain⟨n,rfl⟩:=Int.eq_ofNat_of_zero_le h4;rw[Int.natAbs_natCast]at h5;have e1:((n:Int)%(m:Int)).toNat=n%m:=rfl;rw[e1,h5];obtain⟨g1,g2⟩:=(gL h0 hg').inv;exact(jr g1 (by rw[jM]at g2;exact g2)).symm
 rw[hX]at hi;have hbn:(aY 1 !=aY 1)=false:=by simp
 clear h1 h4 h5 hX;refine eW call355 func355 ?_;repeat' first|simp only[go_sem,seval,Z,hbn,lF,iq]|refine cP hc ?_|refine cP hd ?_|refine cP h3 ?_|refine cP ho ?_|refine cP hi ?_|refine oE ?_|apply xX<;>intro hc
theorem KN {a m:Nat} {e:Bytes} {ng:Bool} (ha:a<m) (he:aa e=true) (hz:(ng&&e==[])=false) (hm:m<(2^64)) (hu:Nat.gcd a m=1):aE 231 [N a, .agg [.b ng, .s e],N m] (.tup [N (de m a ng (num e)),E 0]):=by
 have h0:0<m:=oO;have w2:=ka;have v1:=aK (aY a);have v2:=aK (aY m);rw[vB (show a<dZ by omega)]at v1
 rw[vB (show m<dZ by omega)]at v2
 have v3:=jE ng e;rw[he,hz]at v3;have e0:(aY m==([]:Bytes))=false:=si oO;have hi:=wF (show a<(2^64) by omega) hm h0 hu
 have hil:=(gL h0 hu).inv.1;cases ng
 ·have hr:=vI (a:=a) (m:=m) (e:=e) oO he hm h0;have e1:de m a false (num e)=a^num e%m:=rfl;rw[e1];refine eW call231 func231 ?_;exact wJ @e0 @v1 @v2 @v3 @hr
 ·have hr:=vI (a:=fR a m) (m:=m) (e:=e) oO he hm h0;have e1:de m a true (num e)=fR a m^num e%m:=rfl;rw[e1];refine eW call231 func231 ?_;exact Jl @e0 @v1 @v2 @v3 @hi @hr oT oT
end Go.Proofs.Tryz
namespace Go.Proofs.Tryz
open Go Go.Dom Go.Num
theorem G9 (a:Bytes):aE 175 [.s a] (.b (aa a)):=by
 rw[vV];refine eW call175 func175 ?_;repeat' first|simp only[go_sem,seval]|refine oE ?_|apply xX<;>intro hc
 all_goals simp_all
 all_goals first|omega|(cases a<;>simp_all)
theorem CP {a:Bytes} {i:Nat} (h:i<a.length):(num (a.take i)%(2^64)*256%(2^64)+(a.getD i 0).toNat)%(2^64)=num (a.take (i+1))%(2^64):=by
 rw[lr h];omega
theorem X8 (a:Bytes) (la:a.length<1099511627776):aE 176 [.s a] (.tup [.i .u64 (num a%(2^64):Nat), .b (decide (a.length<=8))]):=by
 refine eW call176 func176 ?_;refine qB ?_;refine af (α:=Nat) (fun i=>a.length-i) (fun i=>⟨[(0, .v (.s a)),(4, .v (.i .u64 (num (a.take i)%(2^64):Nat))),(5, .v (.i .i64 i))],[],_⟩) (fun i=>i<=a.length) 0 (fun _=>aA _) (aI _) ?_ ?_
 ·(refine AS.Le.of (by first|decide|omega) ?_ ?_<;>simp[dC,dA,aP,ay,AV.bd,AV.bd.bdL,u8,ar,au,az])
  all_goals rfl
 ·intro i hi R hR
  by_cases hlt:i<a.length
  ·have h1:=CP hlt;have hgo:=hR (i+1) oO oO;rw[<-h1]at hgo;clear h1 hR;obtain⟨u,hu⟩: ∃u,u=num (a.take i)%(2^64):=⟨_,rfl⟩;have hul:u<(2^64):=by rw[hu];exact aL _ oC
   rw[<-hu]at hgo⊢;have hw1: ∀ _:True,IntKind.u64.wrap ((u:Int)*256)=((u*256%(2^64):Nat):Int):=fun _=>by rw[Ba];omega
   have hw2: ∀x:Nat,IntKind.u64.wrap (((u*256%(2^64):Nat):Int)+(x:Int))=(((u*256%(2^64)+x)%(2^64):Nat):Int):=fun x=>by rw[Ba];omega
   have hwb: ∀c:UInt8,IntKind.u64.wrap ((c.toNat:Nat):Int)=((c.toNat:Nat):Int):=fun c=>IntWalk.u64_in _ (by have:=c.toNat_lt;omega)
   exact jN (aN (hw1 oT) (aN @hw2 @hwb)) @hgo
  ·obtain rfl:i=a.length:=oO;rw[cd];have hd:decide ((a.length:Int)<=8)=decide (a.length<=8):=by rw[ew];simp only[cK];omega
   exact gi @hd
theorem zU {a b m:Nat} (ha:a<m) (hb:b<m) (hm:m<(2^64)):aE 455 [.i .u64 a, .i .u64 b, .i .u64 m] (.i .u64 ((a+b)%m:Nat)):=by
 by_cases h:m<=a+b
 ·have e:(a+b)%m=a+b-m:=by rw[Nat.mod_eq_sub_mod h,b9 oO]
  rw[e];refine eW call455 func455 ?_;repeat' first|simp only[go_sem,seval]|refine oE ?_|apply xX<;>intro hc
  all_goals first|rfl|(congr 1;omega)
 ·have e:(a+b)%m=a+b:=b9 oO;rw[e];refine eW call455 func455 ?_;repeat' first|simp only[go_sem,seval]|refine oE ?_|apply xX<;>intro hc
  all_goals first|rfl|(congr 1;omega)
theorem su {a b m:Nat} (ha:a<m) (hb:b<m) (hm:m<(2^64)):aE 398 [.i .u64 a, .i .u64 b, .i .u64 m] (.i .u64 (a*b%m:Nat)):=by
 by_cases h32:m<4294967296
 ·have hlt:a*b<4294967296*4294967296:=ga oO oO;have hw: ∀ _:True,IntKind.u64.wrap ((a:Int)*(b:Int))=((a*b:Nat):Int):=fun _=>by rw[<-Int.natCast_mul,IntWalk.u64_in _ oO]
  clear hlt;refine eW call398 func398 ?_;repeat' first|simp only[go_sem,seval,hw oT]|refine oE ?_|apply xX<;>intro hc
  all_goals skip
 ·refine eW call398 func398 ?_;refine qB ?_;refine af (α:=Nat×Nat×Nat) (fun s=>s.2.2) (fun s=>⟨[(0,U s.2.1),(1,U s.2.2),(2,U m),(7,U s.1)],[],_⟩) (fun s=>s.1<m/\s.2.1<m/\s.2.2<(2^64)/\(s.1+s.2.1*s.2.2)%m=a*b%m) (0,a,b) (fun _=>aA _) ⟨by show 0<m;omega,ha,by show b< _;omega,by simp⟩ ?_ ?_
  ·exact lE
  ·rintro⟨u,x,y⟩ ⟨hu,hx,hy,he⟩ R hR;simp only at hu hx hy he
   by_cases h0:y=0
   ·subst h0;rw[Nat.mul_zero,Nat.add_zero,b9 hu]at he;refine wV ?_;rw[he]
   ·have a1:=zU hu hx hm;have a2:=zU hx hx hm;have hm1:(u+x)%m<m:=aL _ oO;have hm2:(x+x)%m<m:=aL _ oO;have hy2:((y:Int)).tmod 2=((y%2:Nat):Int):=rfl;have hyd:y/2<=y:=eV _ _;have hxx: ∀k,(x+x)%m*k%m=x*(2*k)%m:=fun k=>by rw[jM,<-rm,bO 2 x,cM]
    rcases(show y%2=1\/y%2=0 by omega)with g|g
    ·have he2:((u+x)%m+(x+x)%m*(y/2))%m=a*b%m:=by
      rw[<-he,k9,hxx,dY,<-k9];have:x*y=x+x*(2*(y/2)):=by
       have:y=1+2*(y/2):=oO
       conv=>lhs;rw[this,kp,db]
      rw[this];congr 1;omega
     have hgo:=hR ((u+x)%m,(x+x)%m,y/2) ⟨hm1,hm2,by show y/2< _;omega,he2⟩ (by show y/2<y;omega)
     clear he he2 hR hxx;exact vY (aN @hy2 @g) @hgo @a1 @a2
    ·have he2:(u+(x+x)%m*(y/2))%m=a*b%m:=by
      rw[<-he,k9,hxx,<-k9];have:x*y=x*(2*(y/2)):=by congr 1;omega
      rw[this]
     have hgo:=hR (u,(x+x)%m,y/2) ⟨hu,hm2,by show y/2< _;omega,he2⟩ (by show y/2<y;omega)
     clear he he2 hR hxx;exact vY (aN @hy2 @g) @hgo @a1 @a2
theorem G8 {a e m:Nat} (ha:a<m) (he:e<(2^64)) (hm:m<(2^64)):aE 397 [.i .u64 a, .i .u64 e, .i .u64 m] (.i .u64 (a^e%m:Nat)):=by
 have h0:0<m:=oO;have e1:(1:Int).tmod (m:Int)=((1%m:Nat):Int):=rfl;refine eW call397 func397 ?_;refine dH @e1 ?_;refine af (α:=Nat×Nat×Nat) (fun s=>s.2.2) (fun s=>⟨[(0,U s.2.1),(1,U s.2.2),(2,U m),(7,U s.1)],[],_⟩) (fun s=>s.1<m/\s.2.1<m/\s.2.2<(2^64)/\s.1*s.2.1^s.2.2%m=a^e%m) (1%m,a,e) (fun _=>aA _) ⟨aL _ h0,ha,he,by show 1%m*a^e%m= _;rw[jM,jL]⟩ ?_ ?_
 ·(refine AS.Le.of (by first|decide|omega) ?_ ?_<;>simp[dC,dA,aP,ay,AV.bd,AV.bd.bdL,u8,ar,au,az])
  all_goals first|rfl|skip
 ·rintro⟨u,x,y⟩ ⟨hu,hx,hy,hq⟩ R hR;simp only at hu hx hy hq
  by_cases h1:y=0
  ·subst h1;rw[Nat.pow_zero,db,b9 hu]at hq;refine wV ?_;rw[hq]
  ·have a1:=su hu hx hm;have a2:=su hx hx hm;have hm1:u*x%m<m:=aL _ h0;have hm2:x*x%m<m:=aL _ h0;have hy2:((y:Int)).tmod 2=((y%2:Nat):Int):=rfl;have hyd:y/2<=y:=eV _ _;rcases(show y%2=1\/y%2=0 by omega)with g|g
   ·have hgo:=hR (u*x%m,x*x%m,y/2) ⟨hm1,hm2,by show y/2< _;omega,by show u*x%m*(x*x%m)^(y/2)%m= _;rw[N0 g,hq]⟩ (by show y/2<y;omega)
    clear hq hR;exact vY (aN @hy2 @g) @hgo @a1 @a2
   ·have hgo:=hR (u,x*x%m,y/2) ⟨hu,hm2,by show y/2< _;omega,by show u*(x*x%m)^(y/2)%m= _;rw[IL g,hq]⟩ (by show y/2<y;omega)
    clear hq hR;exact vY (aN @hy2 @g) @hgo @a1 @a2
def Tm (n:Nat):Nat->Nat->Bool
 |0,_=>false
 |r+1,x=>x==n-1||Tm n r (x*x%n)
theorem OX (n:Nat): ∀r x,Tm n (r+1) x=(x==n-1||To r x n)
 |0,x=>rfl
 |r+1,x=>by rw[Tm,OX n r];rfl
theorem He {n a:Nat} (hn:n<(2^64)) (h3:3<=n) (hodd:n%2=1) (ha:a<n) (ha0:a≠0):aE 292 [.i .u64 n, .i .u64 a] (.b (oo n (F4 64 (n-1)) ((n-1)/2^F4 64 (n-1)) a)):=by
 have e1: ∀ _:True,((n:Int)-1)=((n-1:Nat):Int):=fun _=>oO
 have e2:(n:Int).tmod 2=((n%2:Nat):Int):=rfl;obtain⟨T,hT⟩: ∃T,T=F4 64 (n-1):=⟨_,rfl⟩;rw[<-hT];have hT0:T≠0:=by
  rw[hT];unfold F4;rw[ae oO];omega
 refine eW call292 func292 ?_;repeat' first|simp only[go_sem,seval,e1 oT,e2,hodd]|refine oE ?_|apply xX<;>intro hc
 refine af (α:=Nat×Nat) (fun s=>s.1) (fun s=>⟨[(0,U n),(1,U a),(5,U s.1),(6,E' s.2)],[],_⟩) (fun s=>0<s.1/\s.1<(2^64)/\s.2<=64/\s.1<2^(64-s.2)/\s.1=(n-1)/2^s.2/\F4 (64-s.2) s.1+s.2=T) (n-1,0) (fun _=>aA _) ⟨by show 0<n-1;omega,by show n-1< _;omega,by show 0<=64;omega,by show n-1<2^64;omega,by show n-1= _;rw[Nat.pow_zero,iW],by rw[hT];rfl⟩ ?_ ?_
 ·exact lE
 ·rintro⟨d,s⟩ ⟨hd0,hd1,hs,hds,hde,ht⟩ R hR;simp only at hd0 hd1 hs hds hde ht;have ed:(d:Int).tmod 2=((d%2:Nat):Int):=rfl;have hs64:s<64:=by
   rcases pP s 64 with g|g
   ·exact g
   ·obtain rfl:s=64:=oO;simp at hds;omega
  obtain⟨f,hf⟩: ∃f,64-s=f+1:=⟨63-s,oO⟩;rw[hf]at hds ht;unfold F4 at ht
  by_cases hev:d%2=0
  ·rw[ae oO]at ht;have hdl:d/2<=d:=eV _ _;have hgo:=hR (d/2,s+1) ⟨by show 0<d/2;omega,by show d/2< _;omega,by show s+1<=64;omega,by
    show d/2<2^(64-(s+1));rw[show 64-(s+1)=f by omega];rw[Nat.pow_succ]at hds;omega,by
    show d/2=(n-1)/2^(s+1);rw[Nat.pow_succ,<-eS,<-hde],by
    show F4 (64-(s+1)) (d/2)+(s+1)=T;rw[show 64-(s+1)=f by omega];omega⟩ (by show d/2<d;omega)
   clear hR ht;exact jN (aN @ed @hev) @hgo
  ·have hev:d%2=1:=oO;rw[ah hev,dF]at ht;subst ht;rw[<-hde];have hx:=G8 (a:=a) (e:=d) (m:=n) ha hd1 hn;have es:oo n s d a=(a^d%n==1||Tm n s (a^d%n)):=by
    unfold oo;rw[b9 ha];obtain⟨r,hr⟩: ∃r,s=r+1:=⟨s-1,oO⟩;rw[hr,OX,iO,Bool.or_assoc]
   rw[es];obtain⟨x,hxx⟩: ∃x,x=a^d%n:=⟨_,rfl⟩;have hxl:x<n:=by rw[hxx];exact aL _ oO
   rw[<-hxx]at hx⊢;clear hR es hde hxx
   by_cases hx1:x=1
   ·subst hx1;repeat' first|simp only[go_sem,seval,ed,hev]|refine cP hx ?_|refine oE ?_|apply xX<;>intro hc
    all_goals skip
   have hb1:(x==1)=false:=by simpa using hx1
   have hb2:((x:Int)==1)=false:=by rw[fk];omega
   rw[hb1,lA];refine oZ (aN @ed (aN @hev @hb2)) @hx ?_;refine af (α:=Nat×Nat) (fun s'=>s-s'.1) (fun s'=>⟨[(0,U n),(6,E' s),(7,U s'.2),(8,E' s'.1)],[],_⟩) (fun s'=>s'.1<=s/\s'.2<n/\Tm n (s-s'.1) s'.2=Tm n s x) (0,x) (fun _=>aA _) ⟨aI _,hxl,rfl⟩ ?_ ?_
   ·exact lE
   ·rintro⟨i,z⟩ ⟨hi,hz,hq⟩ R hR;simp only at hi hz hq;rw[<-hq]
    by_cases hlt:i<s
    ·have hmm:=su hz hz hn;have hzz:z*z%n<n:=aL _ oO;obtain⟨r,hr⟩: ∃r,s-i=r+1:=⟨s-i-1,oO⟩;have hgo:=hR (i+1,z*z%n);rw[hr]at hq⊢;simp only[Tm]at hq⊢
     by_cases hzn:z=n-1
     ·have hb: ∀ _:True,((z:Int)==((n-1:Nat):Int))=true:=fun _=>by rw[hzn];simp
      have hb':(z==n-1)=true:=by simpa using hzn
      rw[hb',pL];clear hq hgo hR;exact gi (aN (e1 oT) (hb oT))
     ·have hb: ∀ _:True,((z:Int)==((n-1:Nat):Int))=false:=fun _=>by rw[fk];omega
      have hb':(z==n-1)=false:=by simpa using hzn
      rw[hb',lA]at hq⊢;rw[<-hq]at hgo;have hgo:=hgo ⟨by show i+1<=s;omega,hzz,by show Tm n (s-(i+1)) _= _;rw[show s-(i+1)=r by omega]⟩ (by show s-(i+1)<s-i;omega)
      clear hq hR;exact gV (aN (e1 oT) (hb oT)) @hgo @hmm
    ·obtain rfl:i=s:=oO;rw[fC];exact z0
theorem X1 {i:Nat} (h:i<12):(List.map (fun n:Nat=>PV.i .u64 (n:Int)) cf).getD i .fn0= .i .u64 (cf.getD i 0:Nat):=by
 have h2:i<cf.length:=h;simp[br,h2]
theorem RT {n:Nat} (hn:n<(2^64)):aE 177 [.i .u64 n] (.b (eY n)):=by
 by_cases h2:n<2
 ·have e:eY n=false:=by simp[eY,h2]
  rw[e];refine eW call177 func177 ?_;exact z0
 obtain⟨B,hB⟩: ∃B,B=List.map (fun n:Nat=>PV.i .u64 (n:Int)) cf:=⟨_,rfl⟩
 have hBl:B.length=12:=by rw[hB];rfl
 have hBe: ∀ _:True,[PV.i .u64 2, .i .u64 3, .i .u64 5, .i .u64 7, .i .u64 11, .i .u64 13, .i .u64 17, .i .u64 19, .i .u64 23, .i .u64 29, .i .u64 31, .i .u64 37]=B:=fun _=>by rw[hB];rfl
 have hBc: ∀x∈B,x.cells.length=1:=by
  rw[hB];intro x hx;obtain⟨c,-,rfl⟩:=bm.1 hx;rfl
 have hBg: ∀{i:Nat},i<12->B.getD i .fn0= .i .u64 (cf.getD i 0:Nat):=fun h=>by rw[hB];exact X1 h
 clear hB;refine eW call177 func177 ?_;refine dH (hBe oT) ?_;refine af (α:=Nat) (fun i=>12-i) (fun i=>⟨[(0,U n),(3, .fs B),(4,E' i)],[],_⟩) (fun i=>i<=12/\cf.find? (fun p=>n%p==0)=(cf.drop i).find? (fun p=>n%p==0)) 0 (fun _=>aA _) ⟨oO,rfl⟩ ?_ ?_
 ·exact lE
 ·rintro i ⟨hi,hf⟩ R hR
  by_cases hlt:i<12
  ·have g1:=hBg hlt;obtain⟨q0,q1⟩:=Qq hlt;rw[HW hlt]at hf;have hmc: ∀q:Nat,(n:Int).tmod (q:Int)=((n%q:Nat):Int):=fun q=>rfl
   generalize cf.getD i 0=q at*
   by_cases hq:n=q
   ·have hz:(n%q==0)=true:=by rw[hq];simp
    rw[List.find?_cons,hz]at hf;have e:eY n=true:=by
     unfold eY;rw[ae h2,hf];simpa using hq
    rw[e];exact gi (aN @hBl (aN @g1 @hmc))
   ·by_cases hz0:n%q=0
    ·have hz:(n%q==0)=true:=by simpa using hz0
     rw[List.find?_cons,hz]at hf;have e:eY n=false:=by
      unfold eY;rw[ae h2,hf];simpa using hq
     rw[e];exact gi (aN @hBl (aN @g1 (aN @hmc @hz0)))
    ·have hz:(n%q==0)=false:=by simpa using hz0
     rw[List.find?_cons,hz]at hf;have hgo:=hR (i+1) ⟨oO,hf⟩ oO;exact jN (aN @hBl (aN @g1 @hmc)) @hgo
  ·obtain rfl:i=12:=oO;have hf:cf.find? (fun p=>n%p==0)=none:=hf
   have hnd: ∀q∈cf,n%q≠0:=fun q hq=>by simpa using List.find?_eq_none.1 hf q hq
   have key:eY n=cf.all (oo n (F4 64 (n-1)) ((n-1)/2^F4 64 (n-1))):=by
    unfold eY;rw[ae h2,hf]
   have h37:37<n:=by
    rcases pP 37 n with g|g
    ·exact g
    ·exfalso
     have: ∀k:Fin 38,2<=k.val-> ∃q∈cf,k.val%q=0:=by decide
     obtain⟨q,hq1,hq2⟩:=this ⟨n,oO⟩ (by show 2<=n;omega)
     exact hnd q hq1 hq2
   have hodd:n%2=1:=by have:=hnd 2 oC;omega
   rw[key];have hst:=fun a (h1:a<38) (h0:a≠0)=>He (a:=a) hn oO hodd oO h0
   clear key hf hnd hR;generalize oo n (F4 64 (n-1)) ((n-1)/2^F4 64 (n-1))=st at*;refine dH @hBl ?_;refine af (α:=Nat) (fun i=>12-i) (fun i=>⟨[(0,U n),(3, .fs B),(5,E' i)],[],_⟩) (fun i=>i<=12/\cf.all st=(cf.drop i).all st) 0 (fun _=>aA _) ⟨oO,rfl⟩ ?_ ?_
   ·exact lE
   ·rintro i ⟨hi,hf⟩ R hR
    by_cases hlt:i<12
    ·have g1:=hBg hlt;obtain⟨q0,q1⟩:=Qq hlt;rw[HW hlt,List.all_cons]at hf;have hR1:=hR (i+1);generalize cf.getD i 0=q at*;have hs:=hst q q1 oO
     cases hsq:st q
     ·rw[hsq]at hs hf;rw[hf,dK];exact m9 (aN @hBl @g1) @hs
     ·rw[hsq]at hs hf;rw[cr]at hf;have hgo:=hR1 ⟨oO,hf⟩ oO;exact gV (aN @hBl @g1) @hgo @hs
    ·obtain rfl:i=12:=oO;have e:cf.all st=true:=hf;rw[e];exact gi @hBl
theorem Hb (a:Bytes) (la:a.length<1099511627776):aE 80 [.s a] (.tup [.b (aa a&&decide (a.length<=8)&&eY (num a)),E (if aa a then(if a.length<=8 then 0 else 5)else 3)]):=by
 have hf:=G9 a;have hu:=X8 a la
 by_cases hv:aa a=true
 ·rw[hv]at hf⊢
  by_cases h8:a.length<=8
  ·have hn:=eR h8;rw[aJ h8,b9 hn]at hu;have hi:=RT hn;rw[aJ h8,ah rfl,ah h8];generalize eY (num a)=b at*;refine eW call80 func80 ?_;exact zs4 @hf @hu @hi oT
  ·rw[aG h8]at hu⊢;rw[ah rfl,ae h8];refine eW call80 func80 ?_;exact Wq @hf @hu
 ·have hv:aa a=false:=by simpa using hv
  rw[hv]at hf⊢;refine eW call80 func80 ?_;exact Zh @hf
