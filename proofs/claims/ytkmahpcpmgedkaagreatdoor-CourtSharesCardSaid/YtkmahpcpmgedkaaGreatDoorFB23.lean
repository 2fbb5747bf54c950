/- Part of the proof. -/
import Derived.Test.YtkmahpcpmgedkaaGreatDoorFB22
set_option linter.all false
set_option maxHeartbeats 8000000
set_option maxRecDepth 100000
namespace Go.Proofs.Tryz
open Go Go.Dom
theorem AJ:(2^64)<=dL:=by decide
theorem j2:(2^64)<=cW:=by unfold cW;decide+kernel
theorem Cd {x:Int} {m:Nat} (hx:x.natAbs<dL) (hm:m<dL) (h0:0<m):aD 467 [Z x,Z m] (.tup [Z (x/m),N (x%m).toNat,E 0]):=by
 have hw:=xz;have v1:=iZ (x:=x) oO;have v2:=iZ (x:=(m:Int)) oO;have hd:=qp (a:=x.natAbs) (b:=m) oO oO h0;have e0:(aX m==([]:Bytes))=false:=tJ oO;have hl:=aL x.natAbs h0;have hq:x.natAbs/m<=x.natAbs:=fg _ _;have h1:=ig 1 oC
 by_cases hs:x<0
 ·have hz:zs x=true:=by simp[zs,hs]
  have hn:x= -(x.natAbs:Int):=oO;simp only[Z,hz]at v1;simp only[Z,mj,mf]at v2
  by_cases hr:x.natAbs%m=0
  ·obtain⟨g1,g2⟩:=Pu h0 hr;rw[<-hn]at g1 g2;have hk:=jX true (x.natAbs/m) (z:=x/m) (by rw[g1];rfl)
   have e1:(aX (x.natAbs%m)==([]:Bytes))=true:=by rw[hr];rfl
   rw[g2,<-hr];generalize x/(m:Int)=q at*;clear g1 g2 hn hr hw;refine eW call467 func467 ?_;repeat' first|simp only[go_sem,seval,Z,mj,mf,hz,e0,e1]|refine cP v1 ?_|refine cP v2 ?_|refine cP hd ?_|refine cP hk ?_|refine oE ?_|apply xX<;>intro hc
  ·obtain⟨g1,g2⟩:=Lu h0 hr;rw[<-hn]at g1 g2;have hk:=jX true (x.natAbs/m+1) (z:=x/m) (by rw[g1];rfl)
   have e1:(aX (x.natAbs%m)==([]:Bytes))=false:=tJ hr;have ha:=Fu (a:=x.natAbs/m) (b:=1) (by have:=Gd;unfold dL at*;omega)
   have hb:=Fy (a:=m) (b:=x.natAbs%m) oO oO;rw[g2];generalize x/(m:Int)=q at*;clear g1 g2 hn hr hw;refine eW call467 func467 ?_;repeat' first|simp only[go_sem,seval,Z,mj,mf,hz,e0,e1]|refine cP v1 ?_|refine cP v2 ?_|refine cP hd ?_|refine cP h1 ?_|refine cP ha ?_|refine cP hb ?_|refine cP hk ?_|refine oE ?_|apply xX<;>intro hc
 ·have hz:zs x=false:=by simp[zs,hs]
  have hn:x=(x.natAbs:Int):=oO;simp only[Z,hz]at v1;simp only[Z,mj,mf]at v2;obtain⟨g1,g2⟩:=Pv x.natAbs m;rw[<-hn]at g1 g2;have hk:=jX false (x.natAbs/m) (z:=x/m) (by rw[g1];rfl)
  rw[g2];generalize x/(m:Int)=q at*;clear g1 g2 hn hw;refine eW call467 func467 ?_;repeat' first|simp only[go_sem,seval,Z,mj,mf,hz,e0]|refine cP v1 ?_|refine cP v2 ?_|refine cP hd ?_|refine cP hk ?_|refine oE ?_|apply xX<;>intro hc
theorem V6 {x:Int} {m:Nat} (hx:x.natAbs<dL) (hm:m<dL) (h0:0<m):aD 429 [Z x,N m] (.tup [N (x%m).toNat,E 0]):=by
 have hw:=xz;have v1:=iZ (x:=x) oO;have v2:=aK (aX m);rw[vB (show m<cW by omega)]at v2
 have hf:=ss (n:=m) oO;have hd:=Cd hx hm h0;refine eW call429 func429 ?_;repeat' first|simp only[go_sem,seval,Z]|refine cP v1 ?_|refine cP v2 ?_|refine cP hf ?_|refine cP hd ?_|refine oE ?_|apply xX<;>intro hc
theorem Hg: ∀(n a b:Nat),b<=n->a<(2^64)->b<(2^64)-> ∃g x y,S1 a b g x y/\aD 466 [N a,N b] (.tup [N g,Z x,Z y]):=by
 intro n
 induction n with
 |zero=>
  intro a b hn ha hb;obtain rfl:b=0:=oO;refine⟨a,1,0,S1.base a,?_⟩;have h1:=X7;have h0:=aat;refine eW call466 func466 ?_;repeat' first|simp only[go_sem,seval,G1,Z]|refine cP h1 ?_|refine cP h0 ?_|refine oE ?_|apply xX<;>intro hc
 |succ n ih=>
  intro a b hn ha hb
  by_cases hb0:b=0
  ·subst hb0;exact ih a 0 (aJ _) ha hb
  have hpos:0<b:=oO;have hml:=aL a hpos;obtain⟨g,x,y,hz,he⟩:=ih b (a%b) oO hb oO;have hst:=S1.step hpos hz;refine⟨g,y,_,hst,?_⟩;have hq:a/b<=a:=fg _ _;have w1:=AJ;have w2:=j2;have by1:=hst.bx hpos;have bx1:x.natAbs<=b:=by
   rcases j6 (a%b)with h0|h0
   ·obtain⟨rfl,-⟩:=hz.z h0;exact hpos
   ·have:=hz.bx h0;omega
  have hf:=ss (n:=a/b) oO;have hm:=Oo (x:=((a/b:Nat):Int)) (y:=y) (by rw[Int.natAbs_natCast];omega) oO
  have hpb:(((a/b:Nat):Int)*y).natAbs<dL:=by
   rw[jg,Int.natAbs_natCast];have:a/b*y.natAbs<=a/b*b:=je _ by1;have h2:a/b*b<=a:=q9 a b;omega
  have hs:=V7 (x:=x) (y:=((a/b:Nat):Int)*y) oO hpb;have hd:=qp (a:=a) (b:=b) oO oO hpos;have e0:=tJ hb0;generalize x-((a/b:Nat):Int)*y=u at*;generalize ((a/b:Nat):Int)*y=v at*;clear hst hz hpb by1 bx1 hq ih;refine eW call466 func466 ?_;repeat' first|simp only[go_sem,seval,e0,Z,mj,mf]|refine cP hd ?_|refine cP he ?_|refine cP hf ?_|refine cP hm ?_|refine cP hs ?_|refine oE ?_|apply xX<;>intro hc
theorem Dj {a b:Nat} (ha:a<(2^64)) (hb:b<(2^64)) (h0:0<b): ∃X Y:Int,(Nat.gcd a b=1->0<=X/\X.natAbs%b=fR a b)/\X.natAbs<(2^64)/\aD 428 [N a,N b] (.tup [N (Nat.gcd a b),Z X,Z Y,E 0]):=by
 obtain⟨g,x,y,hz,he⟩:=Hg b a b (ay _) ha hb;have hg:=hz.g;have hgp:0<g:=by rw[hg];exact Nat.gcd_pos_of_pos_right _ h0
 have hgb:g<=b:=by rw[hg];exact DX _ h0
 have hx:=hz.bx h0;have hy:=hz.by' h0
 have w1:=AJ;have w2:=j2;have hm1:b/g<=b:=fg _ _;have hk1:a/g<=a:=fg _ _;have hmp:0<b/g:=Nat.div_pos hgb hgp;have v1:=aK (aX a);have v2:=aK (aX b);rw[vB (show a<cW by omega)]at v1
 rw[vB (show b<cW by omega)]at v2
 have e0:(aX b==([]:Bytes))=false:=tJ oO;have d1:=qp (a:=b) (b:=g) oO oO hgp;have d2:=qp (a:=a) (b:=g) oO oO hgp;have f1:=ss (n:=b/g) oO;have f2:=ss (n:=a/g) oO;have dm:=Cd (x:=x) (m:=b/g) oO oO hmp;obtain⟨q,hq⟩: ∃q,q=x/((b/g:Nat):Int):=⟨_,rfl⟩;obtain⟨r,hr⟩: ∃r,r=(x%((b/g:Nat):Int)).toNat:=⟨_,rfl⟩;have hrl:r<b/g:=by
  have h1:=gT x (show(0:Int)<((b/g:Nat):Int) by omega)
  omega
 have hqb:q.natAbs<=x.natAbs+1:=by
  have h1:=gK x (show((b/g:Nat):Int)≠0 by omega)
  have h2:=nV x ((b/g:Nat):Int);rw[<-hq]at h2;have h3:(((b/g:Nat):Int)*q).natAbs=b/g*q.natAbs:=by rw[jg,Int.natAbs_natCast]
  have h4:q.natAbs<=b/g*q.natAbs:=DT _ hmp
  by_cases hq0:q.natAbs<=1
  ·omega
  ·have h5:b/g+q.natAbs<=b/g*q.natAbs+1:=by
    obtain⟨u,hu⟩: ∃u,b/g=u+1:=⟨b/g-1,oO⟩;obtain⟨v,hv⟩: ∃v,q.natAbs=v+1:=⟨q.natAbs-1,oO⟩;rw[hu,hv,c9,kp];omega
   omega
 have mk:=Oo (x:=q) (y:=((a/g:Nat):Int)) (by unfold dL;omega) (by rw[Int.natAbs_natCast];unfold dL;omega)
 have hpk:(q*((a/g:Nat):Int)).natAbs<dL:=by
  rw[jg,Int.natAbs_natCast];have:=j8 (show q.natAbs<=(2^64) by omega) (show a/g<=(2^64)-1 by omega)
  unfold dL;omega
 have ad:=V5 (x:=y) (y:=q*((a/g:Nat):Int)) (by unfold dL;omega) hpk
 have fr:=ss (n:=r) oO;refine⟨(r:Int),y+q*((a/g:Nat):Int),?_,oO,?_⟩
 ·intro h1;have g1:g=1:=by rw[hg];exact h1
  refine⟨oO,(jd (aL _ h0) ?_).symm⟩;have he1:=hz.e;rw[g1]at hr he1;rw[iR]at hr;have hnn:=gK x (show(b:Int)≠0 by omega)
  have:=GO (a:=a) (b:=b) (X:=x%(b:Int)) (Y:=y+a*(x/(b:Int))) hnn (by
   have h2:=nV x (b:Int);have h3:x%(b:Int)=x-b*(x/(b:Int)):=oO;rw[h3,pG,mD];have h4:(a:Int)*(b*(x/(b:Int)))=b*(a*(x/(b:Int))):=by rw[<-mF,uP (a:Int),mF]
   simp only[Int.natCast_one]at he1;omega)
  have e5:(r:Int).natAbs=(x%(b:Int)).natAbs:=by rw[hr];omega
  rw[e5];exact this
 ·rw[<-hg];rw[<-hq,<-hr]at dm;generalize q*((a/g:Nat):Int)=u at*;generalize y+u=v at*;clear hz hx hy hpk hqb hrl hq hr hmp hm1 hk1 hgp hgb hg;refine eW call428 func428 ?_;repeat' first|simp only[go_sem,seval,e0,Z,mj,mf]|refine cP v1 ?_|refine cP v2 ?_|refine cP he ?_|refine cP d1 ?_|refine cP d2 ?_|refine cP f1 ?_|refine cP f2 ?_|refine cP dm ?_|refine cP mk ?_|refine cP ad ?_|refine cP fr ?_|refine oE ?_|apply xX<;>intro hc
theorem iI {a m:Nat} (ha:a<cW) (hm:m<cW) (h0:0<m):aD 315 [N a,N m] (N (a%m)):=by
 have hd:=qp ha hm h0;refine eW call315 func315 ?_;exact z1 @hd
theorem X3 (a m:Bytes):aD 229 [.sl [.s a, .s m]] (E (sY [a] m)):=by
 have va:=aK a;have vm:=aK m;refine eW call229 func229 ?_;repeat' first|simp only[go_sem,seval,fY,eK]|refine cP va ?_|refine cP vm ?_|(refine ai ?_)|refine oE ?_|apply xX<;>intro hc
 all_goals simp_all[sY]
theorem I6 (a b m:Bytes):aD 229 [.sl [.s a, .s b, .s m]] (E (sY [a,b] m)):=by
 have va:=aK a;have vb:=aK b;have vm:=aK m;refine eW call229 func229 ?_;repeat' first|simp only[go_sem,seval,fY,eK]|refine cP va ?_|refine cP vb ?_|refine cP vm ?_|(refine ai ?_)|refine oE ?_|apply xX<;>intro hc
 all_goals simp_all[sY]
theorem Dl {a b m:Nat} (ha:a<(2^64)) (hb:b<(2^64)) (hm:m<(2^64)) (h0:0<m):aD 230 [N a,N b,N m] (N (a*b%m)):=by
 have w2:=j2;have hs:=we (aX m);rw[vB (show m<cW by omega),aI (lN hm),aP]at hs
 have d1:=iI (a:=a) (m:=m) oO oO h0;have d2:=iI (a:=b) (m:=m) oO oO h0;have l1:=aL a h0;have l2:=aL b h0;have s1:=we (aX (a%m));rw[vB (show a%m<cW by omega),aI (lN (show a%m<(2^64) by omega)),aP]at s1
 have s2:=we (aX (b%m));rw[vB (show b%m<cW by omega),aI (lN (show b%m<(2^64) by omega)),aP]at s2
 have hmul:a%m*(b%m)<(2^64)*(2^64):=gQ oO oO;have hlm:(2^64)*(2^64)<=cW:=by unfold cW;decide+kernel
 have hp:=Tu (a:=a%m) (b:=b%m) oO oO oO;have d3:=iI (a:=a%m*(b%m)) (m:=m) oO oO h0;rw[<-dp]at d3;have hl3:=aL (a*b) h0
 by_cases hsm:m<2147483648
 ·have ho:=ig (a*b%m) oO;have hlt:a%m*(b%m)<(2^64):=by
   have:a%m*(b%m)<2147483648*2147483648:=gQ oO oO;omega
  have hw: ∀ _:True,IntKind.u64.wrap (((a%m:Nat):Int)*((b%m:Nat):Int))=((a%m*(b%m):Nat):Int):=fun _=>by
   rw[<-Int.natCast_mul,IntWalk.u64_in _ oO]
  have hmm: ∀ _:True,((a%m*(b%m):Nat):Int).tmod (m:Int)=((a*b%m:Nat):Int):=fun _=>by
   rw[dp];rfl
  clear hp d3 hmul hlm;generalize a%m=u at*;generalize b%m=v at*;refine eW call230 func230 ?_;repeat' first|simp only[go_sem,seval,au,hw oT,hmm oT]|refine cP hs ?_|refine cP d1 ?_|refine cP d2 ?_|refine cP s1 ?_|refine cP s2 ?_|refine cP ho ?_|refine oE ?_|apply xX<;>intro hc
 ·clear hmul hlm;refine eW call230 func230 ?_;repeat' first|simp only[go_sem,seval,au]|refine cP hs ?_|refine cP d1 ?_|refine cP d2 ?_|refine cP hp ?_|refine cP d3 ?_|refine oE ?_|apply xX<;>intro hc
theorem Ou {a b m:Nat} (ha:a<(2^64)) (hb:b<(2^64)) (hm:m<(2^64)) (h0:0<m):aD 114 [N a,N b,N m] (.tup [N (a*b%m),E 0]):=by
 have hc:=I6 (aX a) (aX b) (aX m);rw[wN ha (vN hb) hm h0]at hc;have ht:=Dl ha hb hm h0;refine eW call114 func114 ?_;exact z2 @hc @ht
theorem wb {a m:Nat} {e:Bytes} (ha:a<(2^64)) (he:aa e=true) (hm:m<(2^64)) (h0:0<m):aD 356 [N a, .s e,N m] (N (a^num e%m)):=by
 have w2:=j2;have ho:=ig 1 oC;have d1:=iI (a:=1) (m:=m) oO oO h0;have hb:=Cb he;have hbi:=fun i hi=>Sa he i hi
 obtain⟨n,hn⟩: ∃n,n=num e:=⟨_,rfl⟩;have hbl:cE n<1000000:=by
  have h1:n<2^1024:=by
   rw[hn];refine bH (cL e) ?_;have le:=cT he;exact fZ (dF oC le) (by decide+kernel)
  by_cases hz:n=0
  ·rw[hz];decide
  ·obtain⟨g1,g2⟩:=sS hz;have:=(qX (by decide:1<2)).1 (fh g1 h1)
   omega
 rw[<-hn]at hb hbi⊢;have hb2:n/2^cE n=0:=iD (sT n);clear hn;refine eW call356 func356 ?_;repeat' first|simp only[go_sem,seval]|refine cP ho ?_|refine cP d1 ?_|refine cP hb ?_|refine oE ?_|apply xX<;>intro hc
 refine af (α:=Nat) (fun k=>k) (fun k=>⟨[(0, .v (N a)),(1, .v (.s e)),(2, .v (N m)),(7, .v (N (a^(n/2^k)%m))),(8, .v (.i .i64 ((k:Int)-1)))],[],_⟩) (fun k=>k<=cE n) (cE n) (fun _=>ay _) (ay _) ?_ ?_
 ·(refine AS.Le.of (by first|decide|omega) ?_ ?_<;>simp[dy,dx,aO,az,AV.bd,AV.bd.bdL,u8,ar,ax,aA])
  rw[hb2,Nat.pow_zero]
 ·intro k hk R hR
  cases k with
  |zero=>
   refine xB ?_;rw[iR]
  |succ k=>
   obtain⟨x,hx⟩: ∃x,x=a^(n/2^(k+1))%m:=⟨_,rfl⟩;have hxm:x<m:=by rw[hx];exact aL _ h0
   have hxx:x*x%m<m:=aL _ h0;have t1:=Dl (a:=x) (b:=x) oO oO hm h0;have t2:=Dl (a:=x*x%m) (b:=a) oO ha hm h0;have hbit:=hbi k oO;rw[lA]at hbit;have hdd:=EV n k;have hw0: ∀ _:True,((k+1:Nat):Int)-1=(k:Int):=fun _=>oO
   have hge0: ∀ _:True,decide ((k:Int)>=0)=true:=fun _=>by simp
   rw[<-hx];repeat' first|simp only[go_sem,seval,hw0 oT,hge0 oT]|refine cP t1 ?_|refine cP t2 ?_|refine cP hbit ?_|refine oE ?_|apply xX<;>intro hc
   ·have ez:x*x%m*a%m=a^(n/2^k)%m:=by
     have e3:x*x%m=a^(n/2^(k+1))*a^(n/2^(k+1))%m:=by rw[hx,<-dp]
     rw[e3,jz,<-cZ,<-Nat.pow_succ];congr 2;omega
    refine hR k oO oO _ ?_;rw[<-ez];exact lE
   ·have ez:x*x%m=a^(n/2^k)%m:=by
     rw[hx,<-dp,<-cZ];congr 2;omega
    refine hR k oO oO _ ?_;rw[<-ez];exact lE
theorem X5 {a m:Nat} {e:Bytes} (ha:a<(2^64)) (he:aa e=true) (hm:m<(2^64)) (h0:0<m):aD 352 [N a, .s e,N m] (.tup [N (a^num e%m),E 0]):=by
 have hc:=I6 (aX a) e (aX m);rw[wN ha he hm h0]at hc;have hr:=wb ha he hm h0;refine eW call352 func352 ?_;exact z2 @hc @hr
theorem wX {a m:Nat} (ha:a<(2^64)) (hm:m<(2^64)) (h0:0<m) (hg:Nat.gcd a m=1):aD 355 [N a,N m] (.tup [N (fR a m),E 0]):=by
 have w1:=AJ;have w2:=j2;have hc:=X3 (aX a) (aX m);rw[Ta ha hm h0]at hc;have hd:=iI (a:=a) (m:=m) oO oO h0;have hl:=aL a h0;have hg':Nat.gcd (a%m) m=1:=by rw[<-hg,<-mE,iK]
 obtain⟨X,Y,h1,h2,h3⟩:=Dj (a:=a%m) (b:=m) oO hm h0;obtain⟨h4,h5⟩:=h1 hg';rw[hg']at h3;have ho:=ig 1 oC;have hi:=V6 (x:=X) (m:=m) oO oO h0;have hX:(X%(m:Int)).toNat=fR a m:=by
  obtain⟨n,rfl⟩:=Int.eq_ofNat_of_zero_le h4;rw[Int.natAbs_natCast]at h5;have e1:((n:Int)%(m:Int)).toNat=n%m:=rfl;rw[e1,h5];obtain⟨g1,g2⟩:=(gL h0 hg').inv;exact(jd g1 (by rw[jz]at g2;exact g2)).symm
 rw[hX]at hi;have hbn:(aX 1 !=aX 1)=false:=by simp
 clear h1 h4 h5 hX;refine eW call355 func355 ?_;repeat' first|simp only[go_sem,seval,Z,hbn,jl,dO]|refine cP hc ?_|refine cP hd ?_|refine cP h3 ?_|refine cP ho ?_|refine cP hi ?_|refine oE ?_|apply xX<;>intro hc
theorem KQ {a m:Nat} {e:Bytes} {ng:Bool} (ha:a<m) (he:aa e=true) (hz:(ng&&e==[])=false) (hm:m<(2^64)) (hu:Nat.gcd a m=1):aD 231 [N a, .agg [.b ng, .s e],N m] (.tup [N (dh m a ng (num e)),E 0]):=by
 have h0:0<m:=oO;have w2:=j2;have v1:=aK (aX a);have v2:=aK (aX m);rw[vB (show a<cW by omega)]at v1
 rw[vB (show m<cW by omega)]at v2
 have v3:=iw ng e;rw[he,hz]at v3;have e0:(aX m==([]:Bytes))=false:=tJ oO;have hi:=wX (show a<(2^64) by omega) hm h0 hu
 have hil:=(gL h0 hu).inv.1;cases ng
 ·have hr:=wb (a:=a) (m:=m) (e:=e) oO he hm h0;have e1:dh m a false (num e)=a^num e%m:=rfl;rw[e1];refine eW call231 func231 ?_;exact yG @e0 @v1 @v2 @v3 @hr
 ·have hr:=wb (a:=fR a m) (m:=m) (e:=e) oO he hm h0;have e1:dh m a true (num e)=fR a m^num e%m:=rfl;rw[e1];refine eW call231 func231 ?_;exact AU @e0 @v1 @v2 @v3 @hi @hr oT oT
end Go.Proofs.Tryz
namespace Go.Proofs.Tryz
open Go Go.Dom Go.Num
theorem Hk (a:Bytes):aD 175 [.s a] (.b (aa a)):=by
 rw[wG];refine eW call175 func175 ?_;repeat' first|simp only[go_sem,seval]|refine oE ?_|apply xX<;>intro hc
 all_goals simp_all
 all_goals first|omega|(cases a<;>simp_all)
theorem Db {a:Bytes} {i:Nat} (h:i<a.length):(num (a.take i)%(2^64)*256%(2^64)+(a.getD i 0).toNat)%(2^64)=num (a.take (i+1))%(2^64):=by
 rw[lh h];omega
theorem Ya (a:Bytes) (la:a.length<1099511627776):aD 176 [.s a] (.tup [.i .u64 (num a%(2^64):Nat), .b (decide (a.length<=8))]):=by
 refine eW call176 func176 ?_;refine pU ?_;refine af (α:=Nat) (fun i=>a.length-i) (fun i=>⟨[(0, .v (.s a)),(4, .v (.i .u64 (num (a.take i)%(2^64):Nat))),(5, .v (.i .i64 i))],[],_⟩) (fun i=>i<=a.length) 0 (fun _=>ay _) (aJ _) ?_ ?_
 ·(refine AS.Le.of (by first|decide|omega) ?_ ?_<;>simp[dy,dx,aO,az,AV.bd,AV.bd.bdL,u8,ar,ax,aA])
  all_goals rfl
 ·intro i hi R hR
  by_cases hlt:i<a.length
  ·have h1:=Db hlt;have hgo:=hR (i+1) oO oO;rw[<-h1]at hgo;clear h1 hR;obtain⟨u,hu⟩: ∃u,u=num (a.take i)%(2^64):=⟨_,rfl⟩;have hul:u<(2^64):=by rw[hu];exact aL _ oC
   rw[<-hu]at hgo⊢;have hw1: ∀ _:True,IntKind.u64.wrap ((u:Int)*256)=((u*256%(2^64):Nat):Int):=fun _=>by rw[By];omega
   have hw2: ∀x:Nat,IntKind.u64.wrap (((u*256%(2^64):Nat):Int)+(x:Int))=(((u*256%(2^64)+x)%(2^64):Nat):Int):=fun x=>by rw[By];omega
   have hwb: ∀c:UInt8,IntKind.u64.wrap ((c.toNat:Nat):Int)=((c.toNat:Nat):Int):=fun c=>IntWalk.u64_in _ (by have:=c.toNat_lt;omega)
   exact jC (aN (hw1 oT) (aN @hw2 @hwb)) @hgo
  ·obtain rfl:i=a.length:=oO;rw[ct];have hd:decide ((a.length:Int)<=8)=decide (a.length<=8):=by rw[dK];simp only[cq];omega
   exact gn @hd
theorem Am {a b m:Nat} (ha:a<m) (hb:b<m) (hm:m<(2^64)):aD 455 [.i .u64 a, .i .u64 b, .i .u64 m] (.i .u64 ((a+b)%m:Nat)):=by
 by_cases h:m<=a+b
 ·have e:(a+b)%m=a+b-m:=by rw[Nat.mod_eq_sub_mod h,bY oO]
  rw[e];refine eW call455 func455 ?_;repeat' first|simp only[go_sem,seval]|refine oE ?_|apply xX<;>intro hc
  all_goals first|rfl|(congr 1;omega)
 ·have e:(a+b)%m=a+b:=bY oO;rw[e];refine eW call455 func455 ?_;repeat' first|simp only[go_sem,seval]|refine oE ?_|apply xX<;>intro hc
  all_goals first|rfl|(congr 1;omega)
theorem su {a b m:Nat} (ha:a<m) (hb:b<m) (hm:m<(2^64)):aD 398 [.i .u64 a, .i .u64 b, .i .u64 m] (.i .u64 (a*b%m:Nat)):=by
 by_cases h32:m<4294967296
 ·have hlt:a*b<4294967296*4294967296:=gQ oO oO;have hw: ∀ _:True,IntKind.u64.wrap ((a:Int)*(b:Int))=((a*b:Nat):Int):=fun _=>by rw[<-Int.natCast_mul,IntWalk.u64_in _ oO]
  clear hlt;refine eW call398 func398 ?_;repeat' first|simp only[go_sem,seval,hw oT]|refine oE ?_|apply xX<;>intro hc
  all_goals skip
 ·refine eW call398 func398 ?_;refine pU ?_;refine af (α:=Nat×Nat×Nat) (fun s=>s.2.2) (fun s=>⟨[(0,U s.2.1),(1,U s.2.2),(2,U m),(7,U s.1)],[],_⟩) (fun s=>s.1<m/\s.2.1<m/\s.2.2<(2^64)/\(s.1+s.2.1*s.2.2)%m=a*b%m) (0,a,b) (fun _=>ay _) ⟨by show 0<m;omega,ha,by show b< _;omega,by simp⟩ ?_ ?_
  ·exact lE
  ·rintro⟨u,x,y⟩ ⟨hu,hx,hy,he⟩ R hR;simp only at hu hx hy he
   by_cases h0:y=0
   ·subst h0;rw[Nat.mul_zero,Nat.add_zero,bY hu]at he;refine xB ?_;rw[he]
   ·have a1:=Am hu hx hm;have a2:=Am hx hx hm;have hm1:(u+x)%m<m:=aL _ oO;have hm2:(x+x)%m<m:=aL _ oO;have hy2:((y:Int)).tmod 2=((y%2:Nat):Int):=rfl;have hyd:y/2<=y:=fg _ _;have hxx: ∀k,(x+x)%m*k%m=x*(2*k)%m:=fun k=>by rw[jz,<-qY,bO 2 x,cF]
    rcases(show y%2=1\/y%2=0 by omega)with g|g
    ·have he2:((u+x)%m+(x+x)%m*(y/2))%m=a*b%m:=by
      rw[<-he,iM,hxx,ep,<-iM];have:x*y=x+x*(2*(y/2)):=by
       have:y=1+2*(y/2):=oO
       conv=>lhs;rw[this,kp,dN]
      rw[this];congr 1;omega
     have hgo:=hR ((u+x)%m,(x+x)%m,y/2) ⟨hm1,hm2,by show y/2< _;omega,he2⟩ (by show y/2<y;omega)
     clear he he2 hR hxx;exact rv (aN @hy2 @g) @hgo @a1 @a2
    ·have he2:(u+(x+x)%m*(y/2))%m=a*b%m:=by
      rw[<-he,iM,hxx,<-iM];have:x*y=x*(2*(y/2)):=by congr 1;omega
      rw[this]
     have hgo:=hR (u,(x+x)%m,y/2) ⟨hu,hm2,by show y/2< _;omega,he2⟩ (by show y/2<y;omega)
     clear he he2 hR hxx;exact rv (aN @hy2 @g) @hgo @a1 @a2
theorem Hj {a e m:Nat} (ha:a<m) (he:e<(2^64)) (hm:m<(2^64)):aD 397 [.i .u64 a, .i .u64 e, .i .u64 m] (.i .u64 (a^e%m:Nat)):=by
 have h0:0<m:=oO;have e1:(1:Int).tmod (m:Int)=((1%m:Nat):Int):=rfl;refine eW call397 func397 ?_;refine cU @e1 ?_;refine af (α:=Nat×Nat×Nat) (fun s=>s.2.2) (fun s=>⟨[(0,U s.2.1),(1,U s.2.2),(2,U m),(7,U s.1)],[],_⟩) (fun s=>s.1<m/\s.2.1<m/\s.2.2<(2^64)/\s.1*s.2.1^s.2.2%m=a^e%m) (1%m,a,e) (fun _=>ay _) ⟨aL _ h0,ha,he,by show 1%m*a^e%m= _;rw[jz,kW]⟩ ?_ ?_
 ·(refine AS.Le.of (by first|decide|omega) ?_ ?_<;>simp[dy,dx,aO,az,AV.bd,AV.bd.bdL,u8,ar,ax,aA])
  all_goals first|rfl|skip
 ·rintro⟨u,x,y⟩ ⟨hu,hx,hy,hq⟩ R hR;simp only at hu hx hy hq
  by_cases h1:y=0
  ·subst h1;rw[Nat.pow_zero,dN,bY hu]at hq;refine xB ?_;rw[hq]
  ·have a1:=su hu hx hm;have a2:=su hx hx hm;have hm1:u*x%m<m:=aL _ h0;have hm2:x*x%m<m:=aL _ h0;have hy2:((y:Int)).tmod 2=((y%2:Nat):Int):=rfl;have hyd:y/2<=y:=fg _ _;rcases(show y%2=1\/y%2=0 by omega)with g|g
   ·have hgo:=hR (u*x%m,x*x%m,y/2) ⟨hm1,hm2,by show y/2< _;omega,by show u*x%m*(x*x%m)^(y/2)%m= _;rw[N6 g,hq]⟩ (by show y/2<y;omega)
    clear hq hR;exact rv (aN @hy2 @g) @hgo @a1 @a2
   ·have hgo:=hR (u,x*x%m,y/2) ⟨hu,hm2,by show y/2< _;omega,by show u*(x*x%m)^(y/2)%m= _;rw[I0 g,hq]⟩ (by show y/2<y;omega)
    clear hq hR;exact rv (aN @hy2 @g) @hgo @a1 @a2
def Tz (n:Nat):Nat->Nat->Bool
 |0,_=>false
 |r+1,x=>x==n-1||Tz n r (x*x%n)
theorem O4 (n:Nat): ∀r x,Tz n (r+1) x=(x==n-1||TB r x n)
 |0,x=>rfl
 |r+1,x=>by rw[Tz,O4 n r];rfl
theorem Hs {n a:Nat} (hn:n<(2^64)) (h3:3<=n) (hodd:n%2=1) (ha:a<n) (ha0:a≠0):aD 292 [.i .u64 n, .i .u64 a] (.b (oi n (Gb 64 (n-1)) ((n-1)/2^Gb 64 (n-1)) a)):=by
 have e1: ∀ _:True,((n:Int)-1)=((n-1:Nat):Int):=fun _=>oO
 have e2:(n:Int).tmod 2=((n%2:Nat):Int):=rfl;obtain⟨T,hT⟩: ∃T,T=Gb 64 (n-1):=⟨_,rfl⟩;rw[<-hT];have hT0:T≠0:=by
  rw[hT];unfold Gb;rw[ae oO];omega
 refine eW call292 func292 ?_;repeat' first|simp only[go_sem,seval,e1 oT,e2,hodd]|refine oE ?_|apply xX<;>intro hc
 refine af (α:=Nat×Nat) (fun s=>s.1) (fun s=>⟨[(0,U n),(1,U a),(5,U s.1),(6,E' s.2)],[],_⟩) (fun s=>0<s.1/\s.1<(2^64)/\s.2<=64/\s.1<2^(64-s.2)/\s.1=(n-1)/2^s.2/\Gb (64-s.2) s.1+s.2=T) (n-1,0) (fun _=>ay _) ⟨by show 0<n-1;omega,by show n-1< _;omega,by show 0<=64;omega,by show n-1<2^64;omega,by show n-1= _;rw[Nat.pow_zero,iR],by rw[hT];rfl⟩ ?_ ?_
 ·exact lE
 ·rintro⟨d,s⟩ ⟨hd0,hd1,hs,hds,hde,ht⟩ R hR;simp only at hd0 hd1 hs hds hde ht;have ed:(d:Int).tmod 2=((d%2:Nat):Int):=rfl;have hs64:s<64:=by
   rcases py s 64 with g|g
   ·exact g
   ·obtain rfl:s=64:=oO;simp at hds;omega
  obtain⟨f,hf⟩: ∃f,64-s=f+1:=⟨63-s,oO⟩;rw[hf]at hds ht;unfold Gb at ht
  by_cases hev:d%2=0
  ·rw[ae oO]at ht;have hdl:d/2<=d:=fg _ _;have hgo:=hR (d/2,s+1) ⟨by show 0<d/2;omega,by show d/2< _;omega,by show s+1<=64;omega,by
    show d/2<2^(64-(s+1));rw[show 64-(s+1)=f by omega];rw[Nat.pow_succ]at hds;omega,by
    show d/2=(n-1)/2^(s+1);rw[Nat.pow_succ,<-eZ,<-hde],by
    show Gb (64-(s+1)) (d/2)+(s+1)=T;rw[show 64-(s+1)=f by omega];omega⟩ (by show d/2<d;omega)
   clear hR ht;exact jC (aN @ed @hev) @hgo
  ·have hev:d%2=1:=oO;rw[ah hev,dq]at ht;subst ht;rw[<-hde];have hx:=Hj (a:=a) (e:=d) (m:=n) ha hd1 hn;have es:oi n s d a=(a^d%n==1||Tz n s (a^d%n)):=by
    unfold oi;rw[bY ha];obtain⟨r,hr⟩: ∃r,s=r+1:=⟨s-1,oO⟩;rw[hr,O4,jw,Bool.or_assoc]
   rw[es];obtain⟨x,hxx⟩: ∃x,x=a^d%n:=⟨_,rfl⟩;have hxl:x<n:=by rw[hxx];exact aL _ oO
   rw[<-hxx]at hx⊢;clear hR es hde hxx
   by_cases hx1:x=1
   ·subst hx1;repeat' first|simp only[go_sem,seval,ed,hev]|refine cP hx ?_|refine oE ?_|apply xX<;>intro hc
    all_goals skip
   have hb1:(x==1)=false:=by simpa using hx1
   have hb2:((x:Int)==1)=false:=by rw[ey];omega
   rw[hb1,j4];refine nc (aN @ed (aN @hev @hb2)) @hx ?_;refine af (α:=Nat×Nat) (fun s'=>s-s'.1) (fun s'=>⟨[(0,U n),(6,E' s),(7,U s'.2),(8,E' s'.1)],[],_⟩) (fun s'=>s'.1<=s/\s'.2<n/\Tz n (s-s'.1) s'.2=Tz n s x) (0,x) (fun _=>ay _) ⟨aJ _,hxl,rfl⟩ ?_ ?_
   ·exact lE
   ·rintro⟨i,z⟩ ⟨hi,hz,hq⟩ R hR;simp only at hi hz hq;rw[<-hq]
    by_cases hlt:i<s
    ·have hmm:=su hz hz hn;have hzz:z*z%n<n:=aL _ oO;obtain⟨r,hr⟩: ∃r,s-i=r+1:=⟨s-i-1,oO⟩;have hgo:=hR (i+1,z*z%n);rw[hr]at hq⊢;simp only[Tz]at hq⊢
     by_cases hzn:z=n-1
     ·have hb: ∀ _:True,((z:Int)==((n-1:Nat):Int))=true:=fun _=>by rw[hzn];simp
      have hb':(z==n-1)=true:=by simpa using hzn
      rw[hb',j7];clear hq hgo hR;exact gn (aN (e1 oT) (hb oT))
     ·have hb: ∀ _:True,((z:Int)==((n-1:Nat):Int))=false:=fun _=>by rw[ey];omega
      have hb':(z==n-1)=false:=by simpa using hzn
      rw[hb',j4]at hq⊢;rw[<-hq]at hgo;have hgo:=hgo ⟨by show i+1<=s;omega,hzz,by show Tz n (s-(i+1)) _= _;rw[show s-(i+1)=r by omega]⟩ (by show s-(i+1)<s-i;omega)
      clear hq hR;exact gV (aN (e1 oT) (hb oT)) @hgo @hmm
    ·obtain rfl:i=s:=oO;rw[fA];exact z0
theorem X1 {i:Nat} (h:i<12):(List.map (fun n:Nat=>PV.i .u64 (n:Int)) b9).getD i .fn0= .i .u64 (b9.getD i 0:Nat):=by
 have h2:i<b9.length:=h;simp[bu,h2]
theorem Se {n:Nat} (hn:n<(2^64)):aD 177 [.i .u64 n] (.b (fj n)):=by
 by_cases h2:n<2
 ·have e:fj n=false:=by simp[fj,h2]
  rw[e];refine eW call177 func177 ?_;exact z0
 obtain⟨B,hB⟩: ∃B,B=List.map (fun n:Nat=>PV.i .u64 (n:Int)) b9:=⟨_,rfl⟩
 have hBl:B.length=12:=by rw[hB];rfl
 have hBe: ∀ _:True,[PV.i .u64 2, .i .u64 3, .i .u64 5, .i .u64 7, .i .u64 11, .i .u64 13, .i .u64 17, .i .u64 19, .i .u64 23, .i .u64 29, .i .u64 31, .i .u64 37]=B:=fun _=>by rw[hB];rfl
 have hBc: ∀x∈B,x.cells.length=1:=by
  rw[hB];intro x hx;obtain⟨c,-,rfl⟩:=bG.1 hx;rfl
 have hBg: ∀{i:Nat},i<12->B.getD i .fn0= .i .u64 (b9.getD i 0:Nat):=fun h=>by rw[hB];exact X1 h
 clear hB;refine eW call177 func177 ?_;refine cU (hBe oT) ?_;refine af (α:=Nat) (fun i=>12-i) (fun i=>⟨[(0,U n),(3, .fs B),(4,E' i)],[],_⟩) (fun i=>i<=12/\b9.find? (fun p=>n%p==0)=(b9.drop i).find? (fun p=>n%p==0)) 0 (fun _=>ay _) ⟨oO,rfl⟩ ?_ ?_
 ·exact lE
 ·rintro i ⟨hi,hf⟩ R hR
  by_cases hlt:i<12
  ·have g1:=hBg hlt;obtain⟨q0,q1⟩:=QF hlt;rw[H9 hlt]at hf;have hmc: ∀q:Nat,(n:Int).tmod (q:Int)=((n%q:Nat):Int):=fun q=>rfl
   generalize b9.getD i 0=q at*
   by_cases hq:n=q
   ·have hz:(n%q==0)=true:=by rw[hq];simp
    rw[List.find?_cons,hz]at hf;have e:fj n=true:=by
     unfold fj;rw[ae h2,hf];simpa using hq
    rw[e];exact gn (aN @hBl (aN @g1 @hmc))
   ·by_cases hz0:n%q=0
    ·have hz:(n%q==0)=true:=by simpa using hz0
     rw[List.find?_cons,hz]at hf;have e:fj n=false:=by
      unfold fj;rw[ae h2,hf];simpa using hq
     rw[e];exact gn (aN @hBl (aN @g1 (aN @hmc @hz0)))
    ·have hz:(n%q==0)=false:=by simpa using hz0
     rw[List.find?_cons,hz]at hf;have hgo:=hR (i+1) ⟨oO,hf⟩ oO;exact jC (aN @hBl (aN @g1 @hmc)) @hgo
  ·obtain rfl:i=12:=oO;have hf:b9.find? (fun p=>n%p==0)=none:=hf
   have hnd: ∀q∈b9,n%q≠0:=fun q hq=>by simpa using List.find?_eq_none.1 hf q hq
   have key:fj n=b9.all (oi n (Gb 64 (n-1)) ((n-1)/2^Gb 64 (n-1))):=by
    unfold fj;rw[ae h2,hf]
   have h37:37<n:=by
    rcases py 37 n with g|g
    ·exact g
    ·exfalso
     have: ∀k:Fin 38,2<=k.val-> ∃q∈b9,k.val%q=0:=by decide
     obtain⟨q,hq1,hq2⟩:=this ⟨n,oO⟩ (by show 2<=n;omega)
     exact hnd q hq1 hq2
   have hodd:n%2=1:=by have:=hnd 2 oC;omega
   rw[key];have hst:=fun a (h1:a<38) (h0:a≠0)=>Hs (a:=a) hn oO hodd oO h0
   clear key hf hnd hR;generalize oi n (Gb 64 (n-1)) ((n-1)/2^Gb 64 (n-1))=st at*;refine cU @hBl ?_;refine af (α:=Nat) (fun i=>12-i) (fun i=>⟨[(0,U n),(3, .fs B),(5,E' i)],[],_⟩) (fun i=>i<=12/\b9.all st=(b9.drop i).all st) 0 (fun _=>ay _) ⟨oO,rfl⟩ ?_ ?_
   ·exact lE
   ·rintro i ⟨hi,hf⟩ R hR
    by_cases hlt:i<12
    ·have g1:=hBg hlt;obtain⟨q0,q1⟩:=QF hlt;rw[H9 hlt,List.all_cons]at hf;have hR1:=hR (i+1);generalize b9.getD i 0=q at*;have hs:=hst q q1 oO
     cases hsq:st q
     ·rw[hsq]at hs hf;rw[hf,dW];exact mi (aN @hBl @g1) @hs
     ·rw[hsq]at hs hf;rw[cj]at hf;have hgo:=hR1 ⟨oO,hf⟩ oO;exact gV (aN @hBl @g1) @hgo @hs
    ·obtain rfl:i=12:=oO;have e:b9.all st=true:=hf;rw[e];exact gn @hBl
theorem Hn (a:Bytes) (la:a.length<1099511627776):aD 80 [.s a] (.tup [.b (aa a&&decide (a.length<=8)&&fj (num a)),E (if aa a then(if a.length<=8 then 0 else 5)else 3)]):=by
 have hf:=Hk a;have hu:=Ya a la
 by_cases hv:aa a=true
 ·rw[hv]at hf⊢
  by_cases h8:a.length<=8
  ·have hn:=eP h8;rw[aI h8,bY hn]at hu;have hi:=Se hn;rw[aI h8,ah rfl,ah h8];generalize fj (num a)=b at*;refine eW call80 func80 ?_;exact zs4 @hf @hu @hi oT
  ·rw[aH h8]at hu⊢;rw[ah rfl,ae h8];refine eW call80 func80 ?_;exact Wu @hf @hu
 ·have hv:aa a=false:=by simpa using hv
  rw[hv]at hf⊢;refine eW call80 func80 ?_;exact Zj @hf
