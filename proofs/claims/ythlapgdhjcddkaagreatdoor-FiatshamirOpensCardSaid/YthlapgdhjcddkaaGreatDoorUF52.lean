/- Part of the proof. -/
import Derived.Test.YthlapgdhjcddkaaGreatDoorUF51
import Derived.Test.YthlapgdhjcddkaaGreatDoorUF41
set_option linter.all false
set_option maxHeartbeats 16000000
set_option maxRecDepth 100000
namespace Go.Proofs.Tryz
open Go Go.Dom
theorem QP (n m:Nat):((n:Int)/(m:Int)=((n/m:Nat):Int))/\(((n:Int)%(m:Int)).toNat=n%m):=⟨rfl,rfl⟩
theorem QO {n m:Nat} (hm:0<m) (h0:n%m=0):(-(n:Int))/(m:Int)= -((n/m:Nat):Int)/\((-(n:Int))%(m:Int)).toNat=0:=by
 have hd:=jc n m;have e: -(n:Int)=0+(m:Int)*(-((n/m:Nat):Int)):=by
  rw[oP,<-Int.natCast_mul];omega
 have hm':(m:Int)≠0:=oO;constructor
 ·rw[e,zk _ _ hm'];simp
 ·rw[e,sk];simp
theorem LW {n m:Nat} (hm:0<m) (h0:n%m≠0):(-(n:Int))/(m:Int)= -((n/m+1:Nat):Int)/\((-(n:Int))%(m:Int)).toNat=m-n%m:=by
 have hd:=jc n m;have hl:=aV n hm;generalize n%m=r at*;have e: -(n:Int)=((m-r:Nat):Int)+(m:Int)*(-((n/m+1:Nat):Int)):=by
  rw[oP,<-Int.natCast_mul,kN,dr];omega
 have hm':(m:Int)≠0:=oO;have h1:((m-r:Nat):Int)/(m:Int)=0:=yU oO oO;have h2:((m-r:Nat):Int)%(m:Int)=((m-r:Nat):Int):=Int.emod_eq_of_lt oO oO;constructor
 ·rw[e,zk _ _ hm',h1,yR]
 ·rw[e,sk,h2];omega
end Go.Proofs.Tryz
namespace Go.Proofs.Tryz
open Go Go.Dom
variable {a b:Nat} {x y:Int}
theorem TH (a b:Bytes):aH 421 [.s a, .s b] (.tup [.s (BE a b).1,E (BE a b).2]):=by
 by_cases hv:ae a=true/\ae b=true
 case neg=>
  refine eW call421 func421 ?_;repeat' first|simp only[go_sem,seval]|refine cP (aU _) ?_|refine oE ?_|apply xX<;>intro hc
  all_goals simp_all[BE]
 have la:=eU hv.1;have lb:=eU hv.2;have hp:=Gx a b oO oO;refine eW call421 func421 ?_;repeat' first|simp only[go_sem,seval]|refine cP (aU _) ?_|refine cP hp ?_|refine cP (JN _) ?_|refine oE ?_|apply xX<;>intro hc
 all_goals simp only[ov,BE,hv.1,hv.2,dF,aC]
 all_goals (split<;>simp_all)
theorem TV (a b:Bytes):aH 422 [.s a, .s b] (.tup [.s (xc a b).1,E (xc a b).2]):=by
 by_cases hv:ae a=true/\ae b=true
 case neg=>
  refine eW call422 func422 ?_;repeat' first|simp only[go_sem,seval]|refine cP (aU _) ?_|refine oE ?_|apply xX<;>intro hc
  all_goals simp_all[xc]
 have la:=eU hv.1;have lb:=eU hv.2;have ho:=fD (bJ hv.1) (bJ hv.2) oO oO;have v1:=aU a;have v2:=aU b;rw[hv.1]at v1;rw[hv.2]at v2;refine eW call422 func422 ?_;repeat' first|simp only[go_sem,seval]|refine cP v1 ?_|refine cP v2 ?_|refine cP ho ?_|(refine fX (pE a b oO oO (by rw[fZ]at hc;omega)) rfl ?_)|refine oE ?_|apply xX<;>intro hc
 ·rw[fZ]at hc;simp[xc,hv.1,hv.2,show¬num b<=num a by omega]
 ·rw[fZ]at hc;simp[xc,hv.1,hv.2,show num b<=num a by omega]
theorem U6 (h:a+b<ek):aH 421 [N a,N b] (.tup [N (a+b),E 0]):=by
 have:=TH (b7 a) (b7 b);simp only[BE,vB (show a<ek by omega),vB (show b<ek by omega),dF,aC,bG,h]at this
 exact this
theorem PI (h:b<=a) (ha:a<ek):aH 422 [N a,N b] (.tup [N (a-b),E 0]):=by
 have:=TV (b7 a) (b7 b);simp only[xc,vB ha,vB (show b<ek by omega),dF,aC,bG,h]at this
 exact this
theorem aay (ha:a<ek) (hb:b<ek):aH 48 [N a,N b] (E (a7 a b)):=by
 have:=jL (b7 a) (b7 b);simpa only[vB ha,vB hb,dF,aC,bG]using this
theorem PD (n:Bool) (a:Bytes):aH 416 [.b n, .s a] (.agg [.b (n&& !(a==[])), .s a]):=by
 refine eW call416 func416 ?_;exact zs0
theorem nM (b:Bool) (n:Nat) {z:Int} (h:(if b then-(n:Int)else n)=z):aH 416 [.b b,N n] (Z z):=by
 have:=PD b (b7 n);rw[zmk,h]at this;exact this
theorem jF (h:x.natAbs<ek):aH 97 [Z x] (.b true):=by
 have:=jW (zs x) (zb x)
 rwa[YL h]at this
theorem Ba {n:Nat} (h:n<ek):aH 414 [N n] (Z n):=by
 have hv:=aU (b7 n);rw[vB h]at hv;have hm:=nM false n rfl;refine eW call414 func414 ?_;repeat' first|simp only[go_sem,seval,Z]|refine cP hv ?_|refine cP hm ?_|refine oE ?_|apply xX<;>intro hc
theorem acM:aH 411 [E 1] (Z 1):=by
 have h1:=nN 1 oC;have hm:=nM false 1 rfl;refine eW call411 func411 ?_;repeat' first|simp only[go_sem,seval,Z]|refine cP h1 ?_|refine cP hm ?_|refine oE ?_|apply xX<;>intro hc
theorem acL:aH 411 [E 0] (Z 0):=by
 have h1:=nN 0 oC;have hm:=nM false 0 rfl;refine eW call411 func411 ?_;repeat' first|simp only[go_sem,seval,Z]|refine cP h1 ?_|refine cP hm ?_|refine oE ?_|apply xX<;>intro hc
theorem aaB (h:y.natAbs<ek):aH 423 [Z y] (Z (-y)):=by
 have hv:=jF h;have hm:=nM (!zs y) y.natAbs (abt y);refine eW call423 func423 ?_;repeat' first|simp only[go_sem,seval,Z]|refine cP hv ?_|refine cP hm ?_|refine oE ?_|apply xX<;>intro hc
theorem Ya (hx:x.natAbs<ek) (hy:y.natAbs<ek) (h:x.natAbs*y.natAbs<ek):aH 401 [Z x,Z y] (.tup [Z (x*y),E 0]):=by
 have v1:=jF hx;have v2:=jF hy;have hm:=U8 (a:=x.natAbs) (b:=y.natAbs) h hx hy;have hk:=nM (zs x !=zs y) (x.natAbs*y.natAbs) (abr x y);refine eW call401 func401 ?_;repeat' first|simp only[go_sem,seval,Z]|refine cP v1 ?_|refine cP v2 ?_|refine cP hm ?_|refine cP hk ?_|refine oE ?_|apply xX<;>intro hc
theorem PC (hx:x.natAbs<eB) (hy:y.natAbs<eB):aH 401 [Z x,Z y] (.tup [Z (x*y),E 0]):=
 have hw:=BS
 Ya oO oO (bM (fT hx hy) G5)
theorem PB (hlim:x.natAbs+y.natAbs<ek):aH 415 [Z x,Z y] (.tup [Z (x+y),E 0]):=by
 have v1:=jF (x:=x) oO;have v2:=jF (x:=y) oO
 by_cases hs:zs x=zs y
 ·have ha:=U6 hlim;have hk:=nM (zs x) (x.natAbs+y.natAbs) (Vo hs);have hb: ∀ _:True,(zs x==zs y)=true:=fun _=>by rw[hs];simp
  clear hs hlim;refine eW call415 func415 ?_;repeat' first|simp only[go_sem,seval,Z,hb oT]|refine cP v1 ?_|refine cP v2 ?_|refine cP ha ?_|refine cP hk ?_|refine oE ?_|apply xX<;>intro hc
 have hb: ∀ _:True,(zs x==zs y)=false:=fun _=>by simpa using hs
 have hcm:=aay (a:=x.natAbs) (b:=y.natAbs) oO oO
 by_cases hl:y.natAbs<=x.natAbs
 ·have hd:=PI hl oO;have hk:=nM (zs x) (x.natAbs-y.natAbs) (QM hs hl);have hg: ∀ _:True,decide (a7 x.natAbs y.natAbs>=0)=true:=fun _=>aQ (dY.2 hl)
  generalize a7 x.natAbs y.natAbs=cm at*;clear hs hlim;refine eW call415 func415 ?_;repeat' first|simp only[go_sem,seval,Z,hb oT,hg oT]|refine cP v1 ?_|refine cP v2 ?_|refine cP hcm ?_|refine cP hd ?_|refine cP hk ?_|refine oE ?_|apply xX<;>intro hc
 ·have hd:=PI (a:=y.natAbs) (b:=x.natAbs) oO oO;have hk:=nM (zs y) (y.natAbs-x.natAbs) (Vp hs oO);have hg: ∀ _:True,decide (a7 x.natAbs y.natAbs>=0)=false:=fun _=>aS (fun h=>hl (dY.1 h))
  generalize a7 x.natAbs y.natAbs=cm at*;clear hs hlim;refine eW call415 func415 ?_;repeat' first|simp only[go_sem,seval,Z,hb oT,hg oT]|refine cP v1 ?_|refine cP v2 ?_|refine cP hcm ?_|refine cP hd ?_|refine cP hk ?_|refine oE ?_|apply xX<;>intro hc
theorem X8 (hx:x.natAbs<eB) (hy:y.natAbs<eB):aH 415 [Z x,Z y] (.tup [Z (x+y),E 0]):=
 PB (bM (show _<eB*eB by unfold eB at*;omega) G5)
theorem Yb (hlim:x.natAbs+y.natAbs<ek):aH 420 [Z x,Z y] (.tup [Z (x-y),E 0]):=by
 have v1:=jF (x:=x) oO;have v2:=jF (x:=y) oO;have hn:=aaB (y:=y) oO;have ha:=PB (x:=x) (y:= -y) oO;rw[<-Int.sub_eq_add_neg]at ha;refine eW call420 func420 ?_;repeat' first|simp only[go_sem,seval,Z]|refine cP v1 ?_|refine cP v2 ?_|refine cP hn ?_|refine cP ha ?_|refine oE ?_|apply xX<;>intro hc
theorem Yc (hx:x.natAbs<eB) (hy:y.natAbs<eB):aH 420 [Z x,Z y] (.tup [Z (x-y),E 0]):=
 Yb (bM (show _<eB*eB by unfold eB at*;omega) G5)
theorem Bu:(2^64)<=eB:=by decide
theorem CN {m:Nat} (hx:x.natAbs<eB) (hm:m<eB) (h0:0<m):aH 413 [Z x,Z m] (.tup [Z (x/m),N (x%m).toNat,E 0]):=by
 have hw:=BS;have v1:=jF (x:=x) oO;have v2:=jF (x:=(m:Int)) oO;have hd:=rf (a:=x.natAbs) (b:=m) oO oO h0;have e0:(b7 m==([]:Bytes))=false:=tF oO;have hl:=aV x.natAbs h0;have hq:x.natAbs/m<=x.natAbs:=fx _ _;have h1:=nN 1 oC
 by_cases hs:x<0
 ·have hz:zs x=true:=by simp[zs,hs]
  have hn:x= -(x.natAbs:Int):=oO;simp only[Z,hz]at v1;simp only[Z,nS,nR]at v2
  by_cases hr:x.natAbs%m=0
  ·obtain⟨g1,g2⟩:=QO h0 hr;rw[<-hn]at g1 g2;have hk:=nM true (x.natAbs/m) (z:=x/m) (by rw[g1];rfl)
   have e1:(b7 (x.natAbs%m)==([]:Bytes))=true:=by rw[hr];rfl
   rw[g2,<-hr];generalize x/(m:Int)=q at*;clear g1 g2 hn hr hw;refine eW call413 func413 ?_;repeat' first|simp only[go_sem,seval,Z,nS,nR,hz,e0,e1]|refine cP v1 ?_|refine cP v2 ?_|refine cP hd ?_|refine cP hk ?_|refine oE ?_|apply xX<;>intro hc
  ·obtain⟨g1,g2⟩:=LW h0 hr;rw[<-hn]at g1 g2;have hk:=nM true (x.natAbs/m+1) (z:=x/m) (by rw[g1];rfl)
   have e1:(b7 (x.natAbs%m)==([]:Bytes))=false:=tF hr;have ha:=U6 (a:=x.natAbs/m) (b:=1) (by have:=G5;unfold eB at*;omega)
   have hb:=PI (a:=m) (b:=x.natAbs%m) oO oO;rw[g2];generalize x/(m:Int)=q at*;clear g1 g2 hn hr hw;refine eW call413 func413 ?_;repeat' first|simp only[go_sem,seval,Z,nS,nR,hz,e0,e1]|refine cP v1 ?_|refine cP v2 ?_|refine cP hd ?_|refine cP h1 ?_|refine cP ha ?_|refine cP hb ?_|refine cP hk ?_|refine oE ?_|apply xX<;>intro hc
 ·have hz:zs x=false:=by simp[zs,hs]
  have hn:x=(x.natAbs:Int):=oO;simp only[Z,hz]at v1;simp only[Z,nS,nR]at v2;obtain⟨g1,g2⟩:=QP x.natAbs m;rw[<-hn]at g1 g2;have hk:=nM false (x.natAbs/m) (z:=x/m) (by rw[g1];rfl)
  rw[g2];generalize x/(m:Int)=q at*;clear g1 g2 hn hw;refine eW call413 func413 ?_;repeat' first|simp only[go_sem,seval,Z,nS,nR,hz,e0]|refine cP v1 ?_|refine cP v2 ?_|refine cP hd ?_|refine cP hk ?_|refine oE ?_|apply xX<;>intro hc
theorem X9 {m:Nat} (hx:x.natAbs<eB) (hm:m<eB) (h0:0<m):aH 398 [Z x,N m] (.tup [N (x%m).toNat,E 0]):=by
 have hw:=BS;have v1:=jF (x:=x) oO;have v2:=aU (b7 m);rw[vB (show m<ek by omega)]at v2
 have hf:=Ba (n:=m) oO;have hd:=CN hx hm h0;refine eW call398 func398 ?_;repeat' first|simp only[go_sem,seval,Z]|refine cP v1 ?_|refine cP v2 ?_|refine cP hf ?_|refine cP hd ?_|refine oE ?_|apply xX<;>intro hc
theorem H9: ∀(n a b:Nat),b<=n->a<(2^64)->b<(2^64)-> ∃g x y,Uy a b g x y/\aH 412 [N a,N b] (.tup [N g,Z x,Z y]):=by
 intro n
 induction n with
 |zero=>
  intro a b hn ha hb;obtain rfl:b=0:=oO;refine⟨a,1,0,Uy.base a,?_⟩;have h1:=acM;have h0:=acL;refine eW call412 func412 ?_;repeat' first|simp only[go_sem,seval,HV,Z]|refine cP h1 ?_|refine cP h0 ?_|refine oE ?_|apply xX<;>intro hc
 |succ n ih=>
  intro a b hn ha hb
  by_cases hb0:b=0
  ·subst hb0;exact ih a 0 (aD _) ha hb
  have hpos:0<b:=oO;have hml:=aV a hpos;obtain⟨g,x,y,hz,he⟩:=ih b (a%b) oO hb oO;have hst:=Uy.step hpos hz;refine⟨g,y,_,hst,?_⟩;have hq:a/b<=a:=fx _ _;have w1:=Bu;have w2:=pL;have by1:=hst.bx hpos;have bx1:x.natAbs<=b:=by
   rcases kH (a%b)with h0|h0
   ·obtain⟨rfl,-⟩:=hz.z h0;exact hpos
   ·have:=hz.bx h0;omega
  have hf:=Ba (n:=a/b) oO;have hm:=PC (x:=((a/b:Nat):Int)) (y:=y) (by rw[Int.natAbs_natCast];omega) oO
  have hpb:(((a/b:Nat):Int)*y).natAbs<eB:=by
   rw[mZ,Int.natAbs_natCast];have:a/b*y.natAbs<=a/b*b:=jR _ by1;have h2:a/b*b<=a:=sA a b;omega
  have hs:=Yc (x:=x) (y:=((a/b:Nat):Int)*y) oO hpb;have hd:=rf (a:=a) (b:=b) oO oO hpos;have e0:=tF hb0;generalize x-((a/b:Nat):Int)*y=u at*;generalize ((a/b:Nat):Int)*y=v at*;clear hst hz hpb by1 bx1 hq ih;refine eW call412 func412 ?_;repeat' first|simp only[go_sem,seval,e0,Z,nS,nR]|refine cP hd ?_|refine cP he ?_|refine cP hf ?_|refine cP hm ?_|refine cP hs ?_|refine oE ?_|apply xX<;>intro hc
theorem DV (ha:a<(2^64)) (hb:b<(2^64)) (h0:0<b): ∃X Y:Int,(Nat.gcd a b=1->0<=X/\X.natAbs%b=gV a b)/\X.natAbs<(2^64)/\aH 397 [N a,N b] (.tup [N (Nat.gcd a b),Z X,Z Y,E 0]):=by
 obtain⟨g,x,y,hz,he⟩:=H9 b a b (aA _) ha hb;have hg:=hz.g;have hgp:0<g:=by rw[hg];exact Nat.gcd_pos_of_pos_right _ h0
 have hgb:g<=b:=by rw[hg];exact EZ _ h0
 have hx:=hz.bx h0;have hy:=hz.by' h0
 have w1:=Bu;have w2:=pL;have hm1:b/g<=b:=fx _ _;have hk1:a/g<=a:=fx _ _;have hmp:0<b/g:=Nat.div_pos hgb hgp;have v1:=aU (b7 a);have v2:=aU (b7 b);rw[vB (show a<ek by omega)]at v1
 rw[vB (show b<ek by omega)]at v2
 have e0:(b7 b==([]:Bytes))=false:=tF oO;have d1:=rf (a:=b) (b:=g) oO oO hgp;have d2:=rf (a:=a) (b:=g) oO oO hgp;have f1:=Ba (n:=b/g) oO;have f2:=Ba (n:=a/g) oO;have dm:=CN (x:=x) (m:=b/g) oO oO hmp;obtain⟨q,hq⟩: ∃q,q=x/((b/g:Nat):Int):=⟨_,rfl⟩;obtain⟨r,hr⟩: ∃r,r=(x%((b/g:Nat):Int)).toNat:=⟨_,rfl⟩;have hrl:r<b/g:=by
  have h1:=kQ x (show(0:Int)<((b/g:Nat):Int) by omega)
  omega
 have hqb:q.natAbs<=x.natAbs+1:=by
  have h1:=jz x (show((b/g:Nat):Int)≠0 by omega)
  have h2:=oU x ((b/g:Nat):Int);rw[<-hq]at h2;have h3:(((b/g:Nat):Int)*q).natAbs=b/g*q.natAbs:=by rw[mZ,Int.natAbs_natCast]
  have h4:q.natAbs<=b/g*q.natAbs:=ES _ hmp
  by_cases hq0:q.natAbs<=1
  ·omega
  ·have h5:b/g+q.natAbs<=b/g*q.natAbs+1:=by
    obtain⟨u,hu⟩: ∃u,b/g=u+1:=⟨b/g-1,oO⟩;obtain⟨v,hv⟩: ∃v,q.natAbs=v+1:=⟨q.natAbs-1,oO⟩;rw[hu,hv,dK,kN];omega
   omega
 have mk:=PC (x:=q) (y:=((a/g:Nat):Int)) (by unfold eB;omega) (by rw[Int.natAbs_natCast];unfold eB;omega)
 have hpk:(q*((a/g:Nat):Int)).natAbs<eB:=by
  rw[mZ,Int.natAbs_natCast];have:=lD (show q.natAbs<=(2^64) by omega) (show a/g<=(2^64)-1 by omega)
  unfold eB;omega
 have ad:=X8 (x:=y) (y:=q*((a/g:Nat):Int)) (by unfold eB;omega) hpk
 have fr:=Ba (n:=r) oO;refine⟨(r:Int),y+q*((a/g:Nat):Int),?_,oO,?_⟩
 ·intro h1;have g1:g=1:=by rw[hg];exact h1
  refine⟨oO,(mO (aV _ h0) ?_).symm⟩;have he1:=hz.e;rw[g1]at hr he1;rw[jx]at hr;have hnn:=jz x (show(b:Int)≠0 by omega)
  have:=HL (a:=a) (b:=b) (X:=x%(b:Int)) (Y:=y+a*(x/(b:Int))) hnn (by
   have h2:=oU x (b:Int);have h3:x%(b:Int)=x-b*(x/(b:Int)):=oO;rw[h3,qv,mV];have h4:(a:Int)*(b*(x/(b:Int)))=b*(a*(x/(b:Int))):=by rw[<-mY,su (a:Int),mY]
   simp only[Int.natCast_one]at he1;omega)
  have e5:(r:Int).natAbs=(x%(b:Int)).natAbs:=by rw[hr];omega
  rw[e5];exact this
 ·rw[<-hg];rw[<-hq,<-hr]at dm;generalize q*((a/g:Nat):Int)=u at*;generalize y+u=v at*;clear hz hx hy hpk hqb hrl hq hr hmp hm1 hk1 hgp hgb hg;refine eW call397 func397 ?_;repeat' first|simp only[go_sem,seval,e0,Z,nS,nR]|refine cP v1 ?_|refine cP v2 ?_|refine cP he ?_|refine cP d1 ?_|refine cP d2 ?_|refine cP f1 ?_|refine cP f2 ?_|refine cP dm ?_|refine cP mk ?_|refine cP ad ?_|refine cP fr ?_|refine oE ?_|apply xX<;>intro hc
theorem aax (a m:Bytes):aH 330 [.sl [.s a, .s m]] (E (uo [a] m)):=by
 have va:=aU a;have vm:=aU m;refine eW call330 func330 ?_;repeat' first|simp only[go_sem,seval,kO,gA]|refine cP va ?_|refine cP vm ?_|(refine aq ?_)|refine oE ?_|apply xX<;>intro hc
 all_goals simp_all[uo]
theorem aaA {a b m:Nat} (ha:a<(2^64)) (hb:b<(2^64)) (hm:m<(2^64)) (h0:0<m):aH 265 [N a,N b,N m] (.tup [N (a*b%m),E 0]):=by
 have hc:=U7 (b7 a) (b7 b) (b7 m);rw[Cd ha (vN hb) hm h0]at hc;have ht:=DY ha hb hm h0;refine eW call265 func265 ?_;exact z2 @hc @ht
theorem Gv {a m:Nat} (ha:a<(2^64)) (hm:m<(2^64)) (h0:0<m) (hg:Nat.gcd a m=1):aH 371 [N a,N m] (.tup [N (gV a m),E 0]):=by
 have w1:=Bu;have w2:=pL;have hc:=aax (b7 a) (b7 m);rw[UM ha hm h0]at hc;have hd:=uP (a:=a) (m:=m) oO oO h0;have hl:=aV a h0;have hg':Nat.gcd (a%m) m=1:=by rw[<-hg,<-mQ,lB]
 obtain⟨X,Y,h1,h2,h3⟩:=DV (a:=a%m) (b:=m) oO hm h0;obtain⟨h4,h5⟩:=h1 hg';rw[hg']at h3;have ho:=nN 1 oC;have hi:=X9 (x:=X) (m:=m) oO oO h0;have hX:(X%(m:Int)).toNat=gV a m:=by
  obtain⟨n,rfl⟩:=Int.eq_ofNat_of_zero_le h4;rw[Int.natAbs_natCast]at h5;have e1:((n:Int)%(m:Int)).toNat=n%m:=rfl;rw[e1,h5];obtain⟨g1,g2⟩:=(ky h0 hg').inv;exact(mO g1 (by rw[jt]at g2;exact g2)).symm
 rw[hX]at hi;have hbn:(b7 1 !=b7 1)=false:=by simp
 clear h1 h4 h5 hX;refine eW call371 func371 ?_;repeat' first|simp only[go_sem,seval,Z,hbn,iz,eY]|refine cP hc ?_|refine cP hd ?_|refine cP h3 ?_|refine cP ho ?_|refine cP hi ?_|refine oE ?_|apply xX<;>intro hc
theorem LA {a m:Nat} {e:Bytes} {ng:Bool} (ha:a<m) (he:ae e=true) (hz:(ng&&e==[])=false) (hm:m<(2^64)) (hu:Nat.gcd a m=1):aH 332 [N a, .agg [.b ng, .s e],N m] (.tup [N (dM m a ng (num e)),E 0]):=by
 have h0:0<m:=oO;have w2:=pL;have v1:=aU (b7 a);have v2:=aU (b7 m);rw[vB (show a<ek by omega)]at v1
 rw[vB (show m<ek by omega)]at v2
 have v3:=jW ng e;rw[he,hz]at v3;have e0:(b7 m==([]:Bytes))=false:=tF oO;have hi:=Gv (show a<(2^64) by omega) hm h0 hu
 have hil:=(ky h0 hu).inv.1;cases ng
 ·have hr:=wV (a:=a) (m:=m) (e:=e) oO he hm h0;have e1:dM m a false (num e)=a^num e%m:=rfl;rw[e1];refine eW call332 func332 ?_;exact ry @e0 @v1 @v2 @v3 @hr
 ·have hr:=wV (a:=gV a m) (m:=m) (e:=e) oO he hm h0;have e1:dM m a true (num e)=gV a m^num e%m:=rfl;rw[e1];refine eW call332 func332 ?_;exact Uq @e0 @v1 @v2 @v3 @hi @hr oT oT
end Go.Proofs.Tryz
namespace Go.Proofs.Tryz
open Go Go.Dom Go.Num
theorem Ls {m:Bytes} (lm:m.length<=8) {o:Bytes} {x:Nat} {ng:Bool} {e:Bytes} (hE:gE m o=0) (hx:GP m o x) (he:ae e=true) (hz:(ng&&e==[])=false):aH 266 [G m o,N x, .agg [.b ng, .s e]] (N (dM (num m) x ng (num e))):=by
 obtain⟨vm,-,m1,-,-⟩:=nD hE;have hp:=LA (m:=num m) hx.lt he hz (ga lm) hx.UN;rw[fA vm]at hp;refine eW call266 func266 ?_;exact z1 @hp
noncomputable def pD (M:Nat):Nat->List (Nat×Bool×Bytes)->Nat
 |x,[]=>x
 |x,(a,ng,e)::r=>pD M (x*dM M a ng (num e)%M) r
def qE (p:Nat×Bool×Bytes):PV:= .agg [.b p.2.1, .s p.2.2]
theorem o8 {m:Bytes} (lm:m.length<=8) {o:Bytes} (lo:o.length<=8) (hE:gE m o=0) (l:List (Nat×Bool×Bytes)) (hl:l.length<1000000) (h: ∀p∈l,GP m o p.1/\ae p.2.2=true/\(p.2.1&&p.2.2==[])=false):aH 186 [G m o, .sl (l.map fun p=>N p.1), .sl (l.map qE)] (.tup [N (pD (num m) 1 l),E 0]):=by
 obtain⟨vm,-,m1,-,-⟩:=nD hE;have nm:=ga lm;have hck:=oJ lm lo;rw[hE]at hck;have d0:Nat×Bool×Bytes:=(0,false,[]);have l1:(l.map fun p=>N p.1).length=l.length:=au ..
 have l2:(l.map qE).length=l.length:=au ..;have g1: ∀{i:Nat},i<l.length->(l.map fun p=>N p.1).getD i .fn0=N (l.getD i d0).1:=fun hi=>getD_map (fun p=>N p.1) l d0 hi
 have g2: ∀{i:Nat},i<l.length->(l.map qE).getD i .fn0=qE (l.getD i d0):=fun hi=>getD_map qE l d0 hi
 refine eW call186 func186 ?_;refine pO ?_;refine ah (α:=Nat) (fun i=>l.length-i) (fun i=>⟨[(1, .v (.sl (l.map fun p=>N p.1))),(2, .v (.sl (l.map qE))),(3, .p 1000 0 0),(8,E' i)],[(1000,⟨0,[.v (.s m), .v (.s o)],false,none⟩)],_⟩) (fun i=>i<=l.length) 0 (fun _=>aA _) (aD _) ?_ ?_
 ·exact lE
 ·intro i hi R hR
  by_cases hlt:i<l.length
  ·obtain⟨k1,k2,k3⟩:=h _ (ai d0 hlt);have e1:=g1 hlt;have hv:=aU (b7 (l.getD i d0).1);have:=k1.lt;rw[vN (show(l.getD i d0).1<(2^64) by omega)]at hv
   clear k1 k2 k3 this;have hgo:=hR (i+1) oO oO;exact gi (aN @l1 @e1) @hgo @hv
  ·obtain rfl:i=l.length:=oO;refine dh @l1 ?_;refine ah (α:=Nat) (fun i=>l.length-i) (fun i=>⟨[(1, .v (.sl (l.map fun p=>N p.1))),(2, .v (.sl (l.map qE))),(3, .p 1000 0 0),(9,E' i)],[(1000,⟨0,[.v (.s m), .v (.s o)],false,none⟩)],_⟩) (fun i=>i<=l.length) 0 (fun _=>aA _) (aD _) ?_ ?_
   ·exact lE
   ·intro i hi R hR
    by_cases hlt:i<l.length
    ·obtain⟨k1,k2,k3⟩:=h _ (ai d0 hlt);have e1:=g2 hlt;have hv:=jW (l.getD i d0).2.1 (l.getD i d0).2.2;rw[k2,k3]at hv;clear k1 k2 k3;have hgo:=hR (i+1) oO oO;repeat' first|simp only[go_sem,seval,l2,e1,qE]|refine cP hv ?_|refine oE ?_|apply xX<;>intro hc
     refine hgo _ ?_;exact lE
    ·obtain rfl:i=l.length:=oO;refine jA (aN @l1 @l2) @hck ?_;refine ah (α:=Nat) (fun i=>l.length-i) (fun i=>⟨[(1, .v (.sl (l.map fun p=>N p.1))),(2, .v (.sl (l.map qE))),(3, .p 1000 0 0),(11,E' i)],[(1000,⟨0,[.v (.s m), .v (.s o)],false,none⟩)],_⟩) (fun i=>i<=l.length) 0 (fun _=>aA _) (aD _) ?_ ?_
     ·exact lE
     ·intro i hi R hR
      by_cases hlt:i<l.length
      ·obtain⟨k1,k2,k3⟩:=h _ (ai d0 hlt);have e1:=g1 hlt;have hh:=k1.has hE lm;have hv:=CI lm o (x:=b7 (l.getD i d0).1) hE ((dH hE).1 hh).1;rw[hh]at hv;clear k1 k2 k3 hh;have hgo:=hR (i+1) oO oO;exact gi (aN @l1 @e1) @hgo @hv
      ·obtain rfl:i=l.length:=oO;refine dh @l1 ?_;refine ah (α:=Nat×Nat) (fun s=>l.length-s.1) (fun s=>⟨[(1, .v (.sl (l.map fun p=>N p.1))),(2, .v (.sl (l.map qE))),(3, .p 1000 0 0),(12, .v (N s.2)),(13,E' s.1)],[(1000,⟨0,[.v (.s m), .v (.s o)],false,none⟩)],_⟩) (fun s=>s.1<=l.length/\s.2<num m/\pD (num m) s.2 (l.drop s.1)=pD (num m) 1 l) (0,1) (fun _=>aA _) ⟨aD _,m1,rfl⟩ ?_ ?_
       ·(refine AS.Le.of (by first|decide|omega) ?_ ?_<;>simp[cU,cT,aO,az,AV.bd,AV.bd.bdL,u8,aj,ak,an])
        all_goals rfl
       ·rintro⟨i,x⟩ ⟨hi,hx,hf⟩ R hR;simp only at hi hx hf
        by_cases hlt:i<l.length
        ·obtain⟨k1,k2,k3⟩:=h _ (ai d0 hlt);have e1:=g1 hlt;have e2:=g2 hlt;rw[aE d0 hlt]at hf;have hraw:=Ls lm hE k1 k2 k3;have hpl:dM (num m) (l.getD i d0).1 (l.getD i d0).2.1 (num (l.getD i d0).2.2)<num m:=aV _ oO;have hgo:=hR (i+1,x*dM (num m) (l.getD i d0).1 (l.getD i d0).2.1 (num (l.getD i d0).2.2)%num m) ⟨by show i+1<= _;omega,aV _ oO,hf⟩ (by show l.length-(i+1)<l.length-i;omega)
         clear hf hR k1 k2 k3;generalize dM (num m) (l.getD i d0).1 (l.getD i d0).2.1 (num (l.getD i d0).2.2)=y at*;have hmm:=aaA (a:=x) (b:=y) (m:=num m) oO oO nm oO;rw[fA vm]at hmm;repeat' first|simp only[go_sem,seval,l1,l2,e1,e2,qE]|refine cP hraw ?_|refine cP hmm ?_|refine oE ?_|apply xX<;>intro hc
         refine hgo _ ?_;exact lE
        ·obtain rfl:i=l.length:=oO;rw[bw]at hf;simp only[pD]at hf;rw[<-hf];exact fz @l1
theorem JT (b:Bool) (a:Bytes):aH 262 [.b b, .s a] (.agg [.b (b&& !(a==[])), .s a]):=by
 refine eW call262 func262 ?_;exact zs0
theorem Lt (b:Bool) (a:Bytes):aH 184 [.agg [.b b, .s a]] (.agg [.b (!b&& !(a==[])), .s a]):=by
 have h:=JT (!b) a;refine eW call184 func184 ?_;exact z1 @h
theorem kq (n1 n2:Bool) {a1 a2:Bytes} (h1:a1.length<1048576) (h2:a2.length<1048576):aH 185 [.agg [.b n1, .s a1], .agg [.b n2, .s a2]] (.agg [.b ((n1 !=n2)&& !(b7 (num a1*num a2)==[])), .s (b7 (num a1*num a2))]):=by
 have ht:=rX a1 a2 h1 h2;have h:=JT (n1 !=n2) (b7 (num a1*num a2));refine eW call185 func185 ?_;exact z2 @ht @h
theorem LC (l:List (Bool×Bytes)) (hl:l.length<1000000):aH 99 [.sl (l.map ca)] (.b (l.all cr)):=by
 have l5:(l.map ca).length=l.length:=au ..;refine eW call99 func99 ?_;refine pO ?_;refine ah (α:=Nat) (fun i=>l.length-i) (fun i=>⟨[(0, .v (.sl (l.map ca))),(3,E' i)],[],_⟩) (fun i=>i<=l.length/\(l.drop i).all cr=l.all cr) 0 (fun _=>aA _) ⟨aD _,rfl⟩ ?_ ?_
 ·exact lE
 ·rintro i ⟨hi,hf⟩ R hR;rw[<-hf]
  by_cases hlt:i<l.length
  ·have e1:=getD_map ca l eT hlt;have hgo:=hR (i+1);rw[<-hf]at hgo;rw[aE eT hlt,List.all_cons]at hgo⊢;obtain⟨x,hx⟩: ∃x,x=l.getD i eT:=⟨_,rfl⟩;rw[<-hx]at e1 hgo⊢;clear hx hf hR;obtain⟨n,a⟩:=x;have hv:=jW n a;have e:cr (n,a)=(ae a&& !(n&&a==[])):=rfl;rw[e]at hgo⊢;clear e;simp only[ca]at e1;generalize (ae a&& !(n&&a==[]))=b at*;cases b
   ·repeat' first|simp only[go_sem,seval,l5,e1]|refine cP hv ?_|refine oE ?_|apply xX<;>intro hc
    all_goals simp
   ·have hgo:=hgo ⟨oO,by simp⟩ oO
    exact gi (aN @l5 @e1) @hgo @hv
  ·obtain rfl:i=l.length:=oO;rw[bw];exact fz @l5
end Go.Proofs.Tryz
namespace Go.Proofs.Tryz
open Go Go.Dom
theorem ec (l:List (Bool×Bytes)) (hl:l.length<4611686018427387904):aH 46 [.sl (l.map ca)] (.b (l.all cr)):=by
 have l5:(l.map ca).length=l.length:=au ..;refine eW call46 func46 ?_;refine pO ?_;refine ah (α:=Nat) (fun i=>l.length-i) (fun i=>⟨[(0, .v (.sl (l.map ca))),(3,E' i)],[],_⟩) (fun i=>i<=l.length/\(l.drop i).all cr=l.all cr) 0 (fun _=>aA _) ⟨aD _,rfl⟩ ?_ ?_
 ·exact lE
 ·rintro i ⟨hi,hf⟩ R hR;rw[<-hf]
  by_cases hlt:i<l.length
  ·have e1:=getD_map ca l eT hlt;have hgo:=hR (i+1);rw[<-hf]at hgo;rw[aE eT hlt,List.all_cons]at hgo⊢;obtain⟨x,hx⟩: ∃x,x=l.getD i eT:=⟨_,rfl⟩;rw[<-hx]at e1 hgo⊢;clear hx hf hR;obtain⟨n,a⟩:=x;have hv:=jW n a;have e:cr (n,a)=(ae a&& !(n&&a==[])):=rfl;rw[e]at hgo⊢;clear e;simp only[ca]at e1;generalize (ae a&& !(n&&a==[]))=b at*;cases b
   ·repeat' first|simp only[go_sem,seval,l5,e1]|refine cP hv ?_|refine oE ?_|apply xX<;>intro hc
    all_goals simp
   ·have hgo:=hgo ⟨oO,by simp⟩ oO
    exact gi (aN @l5 @e1) @hgo @hv
  ·obtain rfl:i=l.length:=oO;rw[bw];exact fz @l5
end Go.Proofs.Tryz
namespace Go.Proofs.Tryz
open Go Go.Dom Go.Num
theorem He {P:Program} [cW P] {Q:AX->AS->Prop} {nx:Nat} {bf:Option (List Nat)} {nn:Nat} {d:Option Nat} {ops:List j9} {k:Nat} {s:AS} {tr:List (Nat×List Nat×List Nat)} {K:List Fr} {nm:Nat} {f:FuncId} {α β:Type} {g:α->PV} {g':β->PV} {z n ver m z' n' ver' m':Nat} {l:List α} {l':List β} {gr gr':Bool} {el el':Option TypeId} {x r:PV}
  (he:qG P f [x, .sl (l.map g), .sl (l'.map g')] r) (hrow:cH g z) (hrow':cH g' z') (hr:r.flat=true) (hg:az s.h n=some ⟨ver,aP g l,gr,el⟩) (hg':az s.h n'=some ⟨ver',aP g' l',gr',el'⟩) (hm:m=l.length) (hm':m'=l'.length) (hK:RW P Q nx bf nn ops (k+1) (s.sM d (.v r) []) (xJ bf k [n,n'] [] tr) K):
  CR P Q nx bf nn nm (.v (.fn (.func f))) [.v x, .rs n ver 0 m z, .rs n' ver' 0 m' z'] d ops k s tr K:=by
 refine lO he ?_ hr ?_
 ·simp[bA,iH hrow hm hg,iH hrow' hm' hg'];rfl
 ·have:[AV.v x,AV.rs n ver 0 m z,AV.rs n' ver' 0 m' z'].flatMap (aW (az s.h) 9)=[n,n']:=by simp[nQ hrow hm hg,nQ hrow' hm' hg'];rfl
  rw[this];exact hK
theorem Pz {G:List Gt} (hl:G.length<1000000) (hb: ∀g∈G,g.kids.length<1000000) (i:Nat):aH 50 [E6 G,E (i:Int)] (E (NY G i)):=by
 have l1:(G.map Gt.pv).length=G.length:=au ..;unfold NY;refine eW call50 func50 ?_;refine pO ?_;refine ah (α:=Nat) (fun j=>G.length-j) (fun j=>⟨[(1, .v (E (i:Int))),(2, .p 1000 0 0),(5,E' j)],[(1000,⟨0,[.v (.sl (G.map Gt.pv))],false,none⟩)],_⟩) (fun j=>j<=G.length/\dk (QY i) j (G.drop j)=dk (QY i) 0 G) 0 (fun _=>aA _) ⟨aD _,rfl⟩ ?_ ?_
 ·exact lE
 ·rintro j ⟨hj,hx⟩ R hR;rw[<-hx]
  by_cases hjt:j<G.length
  ·have e1:=getD_map Gt.pv G eC hjt;have hkl:=hb _ (ai eC hjt);have hgo:=fun h=>hR (j+1) ⟨oO,h⟩ oO
   rw[<-hx]at hgo;rw[aE eC hjt]at hgo⊢;simp only[dk]at hgo⊢;clear hx hR hb;generalize G.getD j eC=g at*;obtain⟨need,kids,leaf⟩:=g;have l2:(kids.map rB).length=kids.length:=au ..;unfold QY at hgo⊢;simp only[Gt.pv]at e1;simp only at hkl hgo⊢;have x1:((kids.length:Int)==0)=decide (kids=[]):=by
    rw[cu,fK,a8];constructor
    ·intro h;exact dt.1 oO
    ·intro h;rw[h];rfl
   have x2:(leaf==(i:Int))=decide (leaf=(i:Int)):=by rw[cu];simp
   generalize decide (kids=[])=y1 at*;generalize decide (leaf=(i:Int))=y2 at*;cases y1
   ·simp only[br,cE,aB]at hgo⊢;have hgo:=hgo oT;exact gH (aN @l1 (aN @l2 (aN @e1 (aN @x1 @x2)))) @hgo
   ·cases y2
    ·simp only[bE,cE,aB]at hgo⊢;have hgo:=hgo oT;exact gH (aN @l1 (aN @l2 (aN @e1 (aN @x1 @x2)))) @hgo
    ·simp only[bE,aC];exact fz (aN @l1 (aN @l2 (aN @e1 (aN @x1 @x2))))
  ·obtain rfl:j=G.length:=oO;rw[bw];repeat' first|simp only[go_sem,seval,l1]|refine oE ?_|apply xX<;>intro hc
   all_goals simp[dk]
theorem CO (l:List Bytes) (hl:l.length<4611686018427387904):aH 52 [.sl (l.map .s), .sl (l.map .s)] (.b true):=by
 have l1:(l.map PV.s).length=l.length:=au ..;have e0: ∀n:Int,(n==n)=true:=fun n=>eY n
 refine eW call52 func52 ?_;refine dh (aN @l1 @e0) ?_;refine ah (α:=Nat) (fun i=>l.length-i) (fun i=>⟨[(0, .v (.sl (l.map .s))),(1, .v (.sl (l.map .s))),(5,E' i)],[],_⟩) (fun i=>i<=l.length) 0 (fun _=>aA _) (aD _) ?_ ?_
 ·exact lE
 ·intro i hi R hR
  by_cases hlt:i<l.length
  ·have e1:=fJ hlt;have hgo:=hR (i+1) oO oO;generalize l.getD i []=x at*;have e2:(x==x)=true:=eY x;clear hR;exact gH (aN @l1 (aN @e1 @e2)) @hgo
  ·obtain rfl:i=l.length:=oO;exact fz @l1
