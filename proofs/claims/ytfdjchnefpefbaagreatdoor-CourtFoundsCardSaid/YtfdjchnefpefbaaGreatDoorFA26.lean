/-
  Part of the proof, part FA26. Own work.
-/
import Derived.Test.YtfdjchnefpefbaaGreatDoorFA25
import Derived.Test.YtfdjchnefpefbaaGreatDoorFA23
set_option linter.all false
namespace Go.Proofs.YtfdjchnefpefbaaGreatDoor
open Go Go.Dom
set_option maxRecDepth 100000
set_option maxHeartbeats 8000000
theorem yN:18446744073709551616<=cZ:=by decide
theorem lF:18446744073709551616<=dw:=by unfold dw;decide+kernel
theorem Ag {x:Int} {m:Nat} (hx:x.natAbs<cZ) (hm:m<cZ) (h0:0<m):aA Tryz.prog 475 [Z x,Z m] (.tup [Z (x/m),N (x%m).toNat,E 0]):=by
 have hw:=BV;have v1:=ij (x:=x) oO;have v2:=ij (x:=(m:Int)) oO;have hd:=oT (a:=x.natAbs) (b:=m) oO oO h0;have e0:(aO m==([]:Bytes))=false:=rG oO;have hl:=aD x.natAbs h0;have hq:x.natAbs/m<=x.natAbs:=dZ _ _;have h1:=jE 1 oC
 by_cases hs:x<0
 ·have hz:zs x=true:=by simp[zs,hs]
  have hn:x= -(x.natAbs:Int):=by omega
  simp only[Z,hz]at v1;simp only[Z,lJ,lH]at v2
  by_cases hr:x.natAbs%m=0
  ·obtain⟨g1,g2⟩:=NO h0 hr;rw[<-hn]at g1 g2;have hk:=lz true (x.natAbs/m) (z:=x/m) (by rw[g1];rfl)
   have e1:(aO (x.natAbs%m)==([]:Bytes))=true:=by rw[hr];rfl
   rw[g2,<-hr];generalize x/(m:Int)=q at*;clear g1 g2 hn hr hw;refine eW Tryz.call475 Tryz.func475 ?_;repeat' first|simp only[go_sem,seval,Z,lJ,lH,hz,e0,e1]|refine cP v1 ?_|refine cP v2 ?_|refine cP hd ?_|refine cP hk ?_|refine sB ?_|apply xX<;>intro hc|refine⟨oD,?_⟩|exact oD|fail
  ·obtain⟨g1,g2⟩:=JG h0 hr;rw[<-hn]at g1 g2;have hk:=lz true (x.natAbs/m+1) (z:=x/m) (by rw[g1];rfl)
   have e1:(aO (x.natAbs%m)==([]:Bytes))=false:=rG hr;have ha:=MD (a:=x.natAbs/m) (b:=1) (by have:=Er;unfold cZ at*;omega)
   have hb:=MJ (a:=m) (b:=x.natAbs%m) oO oO;rw[g2];generalize x/(m:Int)=q at*;clear g1 g2 hn hr hw;refine eW Tryz.call475 Tryz.func475 ?_;repeat' first|simp only[go_sem,seval,Z,lJ,lH,hz,e0,e1]|refine cP v1 ?_|refine cP v2 ?_|refine cP hd ?_|refine cP h1 ?_|refine cP ha ?_|refine cP hb ?_|refine cP hk ?_|refine sB ?_|apply xX<;>intro hc|refine⟨oD,?_⟩|exact oD|fail
 ·have hz:zs x=false:=by simp[zs,hs]
  have hn:x=(x.natAbs:Int):=by omega
  simp only[Z,hz]at v1;simp only[Z,lJ,lH]at v2;obtain⟨g1,g2⟩:=NP x.natAbs m;rw[<-hn]at g1 g2;have hk:=lz false (x.natAbs/m) (z:=x/m) (by rw[g1];rfl)
  rw[g2];generalize x/(m:Int)=q at*;clear g1 g2 hn hw;refine eW Tryz.call475 Tryz.func475 ?_;repeat' first|simp only[go_sem,seval,Z,lJ,lH,hz,e0]|refine cP v1 ?_|refine cP v2 ?_|refine cP hd ?_|refine cP hk ?_|refine sB ?_|apply xX<;>intro hc|refine⟨oD,?_⟩|exact oD|fail
theorem Uz {x:Int} {m:Nat} (hx:x.natAbs<cZ) (hm:m<cZ) (h0:0<m):aA Tryz.prog 440 [Z x,N m] (.tup [N (x%m).toNat,E 0]):=by
 have hw:=BV;have v1:=ij (x:=x) oO;have v2:=aM (aO m);rw[vB (show m<dw by omega)]at v2
 have hf:=yo (n:=m) oO;have hd:=Ag hx hm h0;refine eW Tryz.call440 Tryz.func440 ?_;repeat' first|simp only[go_sem,seval,Z]|refine cP v1 ?_|refine cP v2 ?_|refine cP hf ?_|refine cP hd ?_|refine sB ?_|apply xX<;>intro hc|refine⟨oD,?_⟩|exact oD|fail
theorem Fw: ∀(n a b:Nat),b<=n->a<18446744073709551616->b<18446744073709551616-> ∃g x y,QZ a b g x y/\aA Tryz.prog 474 [N a,N b] (.tup [N g,Z x,Z y]):=by
 intro n
 induction n with
 |zero=>
  intro a b hn ha hb;obtain rfl:b=0:=by omega
  refine⟨a,1,0,QZ.base a,?_⟩;have h1:=Y5;have h0:=Y4;refine eW Tryz.call474 Tryz.func474 ?_;repeat' first|simp only[go_sem,seval,Fg,Z]|refine cP h1 ?_|refine cP h0 ?_|refine sB ?_|apply xX<;>intro hc|refine⟨oD,?_⟩|exact oD|fail
 |succ n ih=>
  intro a b hn ha hb
  by_cases hb0:b=0
  ·subst hb0;exact ih a 0 (aH _) ha hb
  have hpos:0<b:=by omega
  have hml:=aD a hpos;obtain⟨g,x,y,hz,he⟩:=ih b (a%b) oO hb oO;have hst:=QZ.step hpos hz;refine⟨g,y,_,hst,?_⟩;have hq:a/b<=a:=dZ _ _;have w1:=yN;have w2:=lF;have by1:=hst.bx hpos;have bx1:x.natAbs<=b:=by
   rcases j5 (a%b)with h0|h0
   ·obtain⟨rfl,-⟩:=hz.z h0;exact hpos
   ·have:=hz.bx h0;omega
  have hf:=yo (n:=a/b) oO;have hm:=MI (x:=((a/b:Nat):Int)) (y:=y) (by rw[Int.natAbs_natCast];omega) oO
  have hpb:(((a/b:Nat):Int)*y).natAbs<cZ:=by
   rw[kI,Int.natAbs_natCast];have:a/b*y.natAbs<=a/b*b:=iw _ by1;have h2:a/b*b<=a:=pD a b;omega
  have hs:=UC (x:=x) (y:=((a/b:Nat):Int)*y) oO hpb;have hd:=oT (a:=a) (b:=b) oO oO hpos;have e0:=rG hb0;generalize x-((a/b:Nat):Int)*y=u at*;generalize ((a/b:Nat):Int)*y=v at*;clear hst hz hpb by1 bx1 hq ih;refine eW Tryz.call474 Tryz.func474 ?_;repeat' first|simp only[go_sem,seval,e0,Z,lJ,lH]|refine cP hd ?_|refine cP he ?_|refine cP hf ?_|refine cP hm ?_|refine cP hs ?_|refine sB ?_|apply xX<;>intro hc|refine⟨oD,?_⟩|exact oD|fail
theorem By {a b:Nat} (ha:a<18446744073709551616) (hb:b<18446744073709551616) (h0:0<b): ∃X Y:Int,(Nat.gcd a b=1->0<=X/\X.natAbs%b=ew a b)/\X.natAbs<18446744073709551616/\aA Tryz.prog 439 [N a,N b] (.tup [N (Nat.gcd a b),Z X,Z Y,E 0]):=by
 obtain⟨g,x,y,hz,he⟩:=Fw b a b (an _) ha hb;have hg:=hz.g;have hgp:0<g:=by rw[hg];exact Nat.gcd_pos_of_pos_right _ h0
 have hgb:g<=b:=by rw[hg];exact B5 _ h0
 have hx:=hz.bx h0;have hy:=hz.by' h0
 have w1:=yN;have w2:=lF;have hm1:b/g<=b:=dZ _ _;have hk1:a/g<=a:=dZ _ _;have hmp:0<b/g:=Nat.div_pos hgb hgp;have v1:=aM (aO a);have v2:=aM (aO b);rw[vB (show a<dw by omega)]at v1
 rw[vB (show b<dw by omega)]at v2
 have e0:(aO b==([]:Bytes))=false:=rG oO;have d1:=oT (a:=b) (b:=g) oO oO hgp;have d2:=oT (a:=a) (b:=g) oO oO hgp;have f1:=yo (n:=b/g) oO;have f2:=yo (n:=a/g) oO;have dm:=Ag (x:=x) (m:=b/g) oO oO hmp;obtain⟨q,hq⟩: ∃q,q=x/((b/g:Nat):Int):=⟨_,rfl⟩;obtain⟨r,hr⟩: ∃r,r=(x%((b/g:Nat):Int)).toNat:=⟨_,rfl⟩;have hrl:r<b/g:=by
  have h1:=gZ x (show(0:Int)<((b/g:Nat):Int) by omega)
  omega
 have hqb:q.natAbs<=x.natAbs+1:=by
  have h1:=fS x (show((b/g:Nat):Int)≠0 by omega)
  have h2:=mB x ((b/g:Nat):Int);rw[<-hq]at h2;have h3:(((b/g:Nat):Int)*q).natAbs=b/g*q.natAbs:=by rw[kI,Int.natAbs_natCast]
  have h4:q.natAbs<=b/g*q.natAbs:=CB _ hmp
  by_cases hq0:q.natAbs<=1
  ·omega
  ·have h5:b/g+q.natAbs<=b/g*q.natAbs+1:=by
    obtain⟨u,hu⟩: ∃u,b/g=u+1:=⟨b/g-1,by omega⟩
    obtain⟨v,hv⟩: ∃v,q.natAbs=v+1:=⟨q.natAbs-1,by omega⟩
    rw[hu,hv,cu,jn];omega
   omega
 have mk:=MI (x:=q) (y:=((a/g:Nat):Int)) (by unfold cZ;omega) (by rw[Int.natAbs_natCast];unfold cZ;omega)
 have hpk:(q*((a/g:Nat):Int)).natAbs<cZ:=by
  rw[kI,Int.natAbs_natCast];have:=jP (show q.natAbs<=18446744073709551616 by omega) (show a/g<=18446744073709551616-1 by omega)
  unfold cZ;omega
 have ad:=Uy (x:=y) (y:=q*((a/g:Nat):Int)) (by unfold cZ;omega) hpk
 have fr:=yo (n:=r) oO;refine⟨(r:Int),y+q*((a/g:Nat):Int),?_,by omega,?_⟩
 ·intro h1;have g1:g=1:=by rw[hg];exact h1
  refine⟨by omega,(gS (aD _ h0) ?_).symm⟩
  have he1:=hz.e;rw[g1]at hr he1;rw[iS]at hr;have hnn:=fS x (show(b:Int)≠0 by omega)
  have:=E6 (a:=a) (b:=b) (X:=x%(b:Int)) (Y:=y+a*(x/(b:Int))) hnn (by
   have h2:=mB x (b:Int);have h3:x%(b:Int)=x-b*(x/(b:Int)):=by omega
   rw[h3,nY,kK];have h4:(a:Int)*(b*(x/(b:Int)))=b*(a*(x/(b:Int))):=by rw[<-kL,sC (a:Int),kL]
   simp only[Int.natCast_one]at he1;omega)
  have e5:(r:Int).natAbs=(x%(b:Int)).natAbs:=by rw[hr];omega
  rw[e5];exact this
 ·rw[<-hg];rw[<-hq,<-hr]at dm;generalize q*((a/g:Nat):Int)=u at*;generalize y+u=v at*;clear hz hx hy hpk hqb hrl hq hr hmp hm1 hk1 hgp hgb hg;refine eW Tryz.call439 Tryz.func439 ?_;repeat' first|simp only[go_sem,seval,e0,Z,lJ,lH]|refine cP v1 ?_|refine cP v2 ?_|refine cP he ?_|refine cP d1 ?_|refine cP d2 ?_|refine cP f1 ?_|refine cP f2 ?_|refine cP dm ?_|refine cP mk ?_|refine cP ad ?_|refine cP fr ?_|refine sB ?_|apply xX<;>intro hc|refine⟨oD,?_⟩|exact oD|fail
theorem mn {a m:Nat} (ha:a<dw) (hm:m<dw) (h0:0<m):aA Tryz.prog 338 [N a,N m] (N (a%m)):=by
 have hd:=oT ha hm h0;refine eW Tryz.call338 Tryz.func338 ?_;exact z1 @hd
theorem Wq (a m:Bytes):aA Tryz.prog 248 [.sl [.s a, .s m]] (E (rf [a] m)):=by
 have va:=aM a;have vm:=aM m;refine eW Tryz.call248 Tryz.func248 ?_;repeat' first|simp only[go_sem,seval,fw,cA]|refine cP va ?_|refine cP vm ?_|(refine ah ?_)|refine sB ?_|apply xX<;>intro hc|refine⟨oD,?_⟩|exact oD|fail
 all_goals simp_all[rf]
theorem ME (a b m:Bytes):aA Tryz.prog 248 [.sl [.s a, .s b, .s m]] (E (rf [a,b] m)):=by
 have va:=aM a;have vb:=aM b;have vm:=aM m;refine eW Tryz.call248 Tryz.func248 ?_;repeat' first|simp only[go_sem,seval,fw,cA]|refine cP va ?_|refine cP vb ?_|refine cP vm ?_|(refine ah ?_)|refine sB ?_|apply xX<;>intro hc|refine⟨oD,?_⟩|exact oD|fail
 all_goals simp_all[rf]
theorem BB {a b m:Nat} (ha:a<18446744073709551616) (hb:b<18446744073709551616) (hm:m<18446744073709551616) (h0:0<m):aA Tryz.prog 249 [N a,N b,N m] (N (a*b%m)):=by
 have w2:=lF;have hs:=ua (aO m);rw[vB (show m<dw by omega),decide_eq_true (lN hm),aG]at hs
 have d1:=mn (a:=a) (m:=m) oO oO h0;have d2:=mn (a:=b) (m:=m) oO oO h0;have l1:=aD a h0;have l2:=aD b h0;have s1:=ua (aO (a%m));rw[vB (show a%m<dw by omega),decide_eq_true (lN (show a%m<18446744073709551616 by omega)),aG]at s1
 have s2:=ua (aO (b%m));rw[vB (show b%m<dw by omega),decide_eq_true (lN (show b%m<18446744073709551616 by omega)),aG]at s2
 have hmul:a%m*(b%m)<18446744073709551616*18446744073709551616:=fR oO oO;have hlm:18446744073709551616*18446744073709551616<=dw:=by unfold dw;decide+kernel
 have hp:=RD (a:=a%m) (b:=b%m) oO oO oO;have d3:=mn (a:=a%m*(b%m)) (m:=m) oO oO h0;rw[<-bM]at d3;have hl3:=aD (a*b) h0
 by_cases hsm:m<2147483648
 ·have ho:=jE (a*b%m) oO;have hlt:a%m*(b%m)<18446744073709551616:=by
   have:a%m*(b%m)<2147483648*2147483648:=fR oO oO;omega
  have hw: ∀ _:True,IntKind.u64.wrap (((a%m:Nat):Int)*((b%m:Nat):Int))=((a%m*(b%m):Nat):Int):=fun _=>by
   rw[<-Int.natCast_mul,IntWalk.u64_in _ oO]
  have hmm: ∀ _:True,((a%m*(b%m):Nat):Int).tmod (m:Int)=((a*b%m:Nat):Int):=fun _=>by
   rw[bM];rfl
  clear hp d3 hmul hlm;generalize a%m=u at*;generalize b%m=v at*;refine eW Tryz.call249 Tryz.func249 ?_;repeat' first|simp only[go_sem,seval,if_true,hw trivial,hmm trivial]|refine cP hs ?_|refine cP d1 ?_|refine cP d2 ?_|refine cP s1 ?_|refine cP s2 ?_|refine cP ho ?_|refine sB ?_|apply xX<;>intro hc|refine⟨oD,?_⟩|exact oD|fail
 ·clear hmul hlm;refine eW Tryz.call249 Tryz.func249 ?_;repeat' first|simp only[go_sem,seval,if_true]|refine cP hs ?_|refine cP d1 ?_|refine cP d2 ?_|refine cP hp ?_|refine cP d3 ?_|refine sB ?_|apply xX<;>intro hc|refine⟨oD,?_⟩|exact oD|fail
theorem Ws {a b m:Nat} (ha:a<18446744073709551616) (hb:b<18446744073709551616) (hm:m<18446744073709551616) (h0:0<m):aA Tryz.prog 139 [N a,N b,N m] (.tup [N (a*b%m),E 0]):=by
 have hc:=ME (aO a) (aO b) (aO m);rw[wX ha (vN hb) hm h0]at hc;have ht:=BB ha hb hm h0;refine eW Tryz.call139 Tryz.func139 ?_;exact z2 @hc @ht
theorem tY {a m:Nat} {e:Bytes} (ha:a<18446744073709551616) (he:aa e=true) (hm:m<18446744073709551616) (h0:0<m):aA Tryz.prog 260 [N a, .s e,N m] (N (a^num e%m)):=by
 have w2:=lF;have ho:=jE 1 oC;have d1:=mn (a:=1) (m:=m) oO oO h0;have hb:=Af he;have hbi:=fun i hi=>Ql he i hi
 obtain⟨n,hn⟩: ∃n,n=num e:=⟨_,rfl⟩;have hbl:b9 n<1000000:=by
  have h1:n<2^1024:=by
   rw[hn];refine bj (cb e) ?_;have le:=cE he;exact ft (cI oC le) (by decide+kernel)
  by_cases hz:n=0
  ·rw[hz];decide
  ·obtain⟨g1,g2⟩:=qW hz;have:=(pC (by decide:1<2)).1 (ec g1 h1)
   omega
 rw[<-hn]at hb hbi⊢;have hb2:n/2^b9 n=0:=gI (qX n);clear hn;refine eW Tryz.call260 Tryz.func260 ?_;repeat' first|simp only[go_sem,seval]|refine cP ho ?_|refine cP d1 ?_|refine cP hb ?_|refine sB ?_|apply xX<;>intro hc|refine⟨oD,?_⟩|exact oD|fail
 refine af (α:=Nat) (fun k=>k) (fun k=>⟨[(0, .v (N a)),(1, .v (.s e)),(2, .v (N m)),(7, .v (N (a^(n/2^k)%m))),(8, .v (.i .i64 ((k:Int)-1)))],[],_⟩) (fun k=>k<=b9 n) (b9 n) (fun _=>an _) (an _) ?_ ?_
 ·(refine AS.Le.of (by first|decide|omega) ?_ ?_<;>simp[dM,dL,aK,aj,AV.bd,AV.bd.bdL,u8,ai,ak,ar])
  rw[hb2,Nat.pow_zero]
 ·intro k hk R hR
  cases k with
  |zero=>
   refine wC ?_;rw[iS]
  |succ k=>
   obtain⟨x,hx⟩: ∃x,x=a^(n/2^(k+1))%m:=⟨_,rfl⟩;have hxm:x<m:=by rw[hx];exact aD _ h0
   have hxx:x*x%m<m:=aD _ h0;have t1:=BB (a:=x) (b:=x) oO oO hm h0;have t2:=BB (a:=x*x%m) (b:=a) oO ha hm h0;have hbit:=hbi k oO;rw[j6]at hbit;have hdd:=Dj n k;have hw0: ∀ _:True,((k+1:Nat):Int)-1=(k:Int):=fun _=>by omega
   have hge0: ∀ _:True,decide ((k:Int)>=0)=true:=fun _=>by simp
   rw[<-hx];repeat' first|simp only[go_sem,seval,hw0 trivial,hge0 trivial]|refine cP t1 ?_|refine cP t2 ?_|refine cP hbit ?_|refine sB ?_|apply xX<;>intro hc|refine⟨oD,?_⟩|exact oD|fail
   ·have ez:x*x%m*a%m=a^(n/2^k)%m:=by
     have e3:x*x%m=a^(n/2^(k+1))*a^(n/2^(k+1))%m:=by rw[hx,<-bM]
     rw[e3,gL,<-ct,<-Nat.pow_succ];congr 2;omega
    refine hR k oO oO _ ?_;rw[<-ez];exact lE
   ·have ez:x*x%m=a^(n/2^k)%m:=by
     rw[hx,<-bM,<-ct];congr 2;omega
    refine hR k oO oO _ ?_;rw[<-ez];exact lE
theorem RC {a m:Nat} {e:Bytes} (ha:a<18446744073709551616) (he:aa e=true) (hm:m<18446744073709551616) (h0:0<m):aA Tryz.prog 153 [N a, .s e,N m] (.tup [N (a^num e%m),E 0]):=by
 have hc:=ME (aO a) e (aO m);rw[wX ha he hm h0]at hc;have hr:=tY ha he hm h0;refine eW Tryz.call153 Tryz.func153 ?_;exact z2 @hc @hr
theorem DN {a m:Nat} (ha:a<18446744073709551616) (hm:m<18446744073709551616) (h0:0<m) (hg:Nat.gcd a m=1):aA Tryz.prog 367 [N a,N m] (.tup [N (ew a m),E 0]):=by
 have w1:=yN;have w2:=lF;have hc:=Wq (aO a) (aO m);rw[Q9 ha hm h0]at hc;have hd:=mn (a:=a) (m:=m) oO oO h0;have hl:=aD a h0;have hg':Nat.gcd (a%m) m=1:=by rw[<-hg,<-kM,jT]
 obtain⟨X,Y,h1,h2,h3⟩:=By (a:=a%m) (b:=m) oO hm h0;obtain⟨h4,h5⟩:=h1 hg';rw[hg']at h3;have ho:=jE 1 oC;have hi:=Uz (x:=X) (m:=m) oO oO h0;have hX:(X%(m:Int)).toNat=ew a m:=by
  obtain⟨n,rfl⟩:=Int.eq_ofNat_of_zero_le h4;rw[Int.natAbs_natCast]at h5;have e1:((n:Int)%(m:Int)).toNat=n%m:=rfl;rw[e1,h5];obtain⟨g1,g2⟩:=(gF h0 hg').inv;exact(gS g1 (by rw[gL]at g2;exact g2)).symm
 rw[hX]at hi;have hbn:(aO 1 !=aO 1)=false:=by simp
 clear h1 h4 h5 hX;refine eW Tryz.call367 Tryz.func367 ?_;repeat' first|simp only[go_sem,seval,Z,hbn,bne_self_eq_false,beq_self_eq_true]|refine cP hc ?_|refine cP hd ?_|refine cP h3 ?_|refine cP ho ?_|refine cP hi ?_|refine sB ?_|apply xX<;>intro hc|refine⟨oD,?_⟩|exact oD|fail
theorem Jh {a m:Nat} {e:Bytes} {ng:Bool} (ha:a<m) (he:aa e=true) (hz:(ng&&e==[])=false) (hm:m<18446744073709551616) (hu:Nat.gcd a m=1):aA Tryz.prog 250 [N a, .agg [.b ng, .s e],N m] (.tup [N (cR m a ng (num e)),E 0]):=by
 have h0:0<m:=by omega
 have w2:=lF;have v1:=aM (aO a);have v2:=aM (aO m);rw[vB (show a<dw by omega)]at v1
 rw[vB (show m<dw by omega)]at v2
 have v3:=qD ng e;rw[he,hz]at v3;have e0:(aO m==([]:Bytes))=false:=rG oO;have hi:=DN (show a<18446744073709551616 by omega) hm h0 hu
 have hil:=(gF h0 hu).inv.1;cases ng
 ·have hr:=tY (a:=a) (m:=m) (e:=e) oO he hm h0;have e1:cR m a false (num e)=a^num e%m:=rfl;rw[e1];refine eW Tryz.call250 Tryz.func250 ?_;exact UY @e0 @v1 @v2 @v3 @hr
 ·have hr:=tY (a:=ew a m) (m:=m) (e:=e) oO he hm h0;have e1:cR m a true (num e)=ew a m^num e%m:=rfl;rw[e1];refine eW Tryz.call250 Tryz.func250 ?_;exact XD @e0 @v1 @v2 @v3 @hi @hr
end Go.Proofs.YtfdjchnefpefbaaGreatDoor
namespace Go.Proofs.YtfdjchnefpefbaaGreatDoor
open Go Go.Dom Go.Num
set_option maxRecDepth 100000
set_option maxHeartbeats 8000000
theorem Fz (a:Bytes):aA Tryz.prog 199 [.s a] (.b (aa a)):=by
 rw[uo];refine eW Tryz.call199 Tryz.func199 ?_;repeat' first|simp only[go_sem,seval]|refine sB ?_|apply xX<;>intro hc|refine⟨oD,?_⟩|exact oD|fail
 all_goals simp_all
 all_goals first|omega|(cases a<;>simp_all)
theorem Bp {a:Bytes} {i:Nat} (h:i<a.length):(num (a.take i)%18446744073709551616*256%18446744073709551616+(a.getD i 0).toNat)%18446744073709551616=num (a.take (i+1))%18446744073709551616:=by
 rw[jZ h];omega
theorem Wu (a:Bytes) (la:a.length<1099511627776):aA Tryz.prog 200 [.s a] (.tup [.i .u64 (num a%18446744073709551616:Nat), .b (decide (a.length<=8))]):=by
 refine eW Tryz.call200 Tryz.func200 ?_;refine uZ ?_;refine af (α:=Nat) (fun i=>a.length-i) (fun i=>⟨[(0, .v (.s a)),(4, .v (.i .u64 (num (a.take i)%18446744073709551616:Nat))),(5, .v (.i .i64 i))],[],_⟩) (fun i=>i<=a.length) 0 (fun _=>an _) (aH _) ?_ ?_
 ·(refine AS.Le.of (by first|decide|omega) ?_ ?_<;>simp[dM,dL,aK,aj,AV.bd,AV.bd.bdL,u8,ai,ak,ar])
  all_goals rfl
 ·intro i hi R hR
  by_cases hlt:i<a.length
  ·have h1:=Bp hlt;have hgo:=hR (i+1) oO oO;rw[<-h1]at hgo;clear h1 hR;obtain⟨u,hu⟩: ∃u,u=num (a.take i)%18446744073709551616:=⟨_,rfl⟩;have hul:u<18446744073709551616:=by rw[hu];exact aD _ oC
   rw[<-hu]at hgo⊢;have hw1: ∀ _:True,IntKind.u64.wrap ((u:Int)*256)=((u*256%18446744073709551616:Nat):Int):=fun _=>by rw[zp];omega
   have hw2: ∀x:Nat,IntKind.u64.wrap (((u*256%18446744073709551616:Nat):Int)+(x:Int))=(((u*256%18446744073709551616+x)%18446744073709551616:Nat):Int):=fun x=>by rw[zp];omega
   have hwb: ∀c:UInt8,IntKind.u64.wrap ((c.toNat:Nat):Int)=((c.toNat:Nat):Int):=fun c=>IntWalk.u64_in _ (by have:=c.toNat_lt;omega)
   exact u4 (aN (hw1 trivial) (aN @hw2 @hwb)) @hgo
  ·obtain rfl:i=a.length:=by omega
   rw[cK];have hd:decide ((a.length:Int)<=8)=decide (a.length<=8):=by rw[dE];simp only[decide_eq_true_eq];omega
   exact lQ @hd
theorem ym {a b m:Nat} (ha:a<m) (hb:b<m) (hm:m<18446744073709551616):aA Tryz.prog 465 [.i .u64 a, .i .u64 b, .i .u64 m] (.i .u64 ((a+b)%m:Nat)):=by
 by_cases h:m<=a+b
 ·have e:(a+b)%m=a+b-m:=by rw[Nat.mod_eq_sub_mod h,aV oO]
  rw[e];refine eW Tryz.call465 Tryz.func465 ?_;repeat' first|simp only[go_sem,seval]|refine sB ?_|apply xX<;>intro hc|refine⟨oD,?_⟩|exact oD|fail
  all_goals first|rfl|(congr 1;omega)
 ·have e:(a+b)%m=a+b:=aV oO;rw[e];refine eW Tryz.call465 Tryz.func465 ?_;repeat' first|simp only[go_sem,seval]|refine sB ?_|apply xX<;>intro hc|refine⟨oD,?_⟩|exact oD|fail
  all_goals first|rfl|(congr 1;omega)
theorem qE {a b m:Nat} (ha:a<m) (hb:b<m) (hm:m<18446744073709551616):aA Tryz.prog 412 [.i .u64 a, .i .u64 b, .i .u64 m] (.i .u64 (a*b%m:Nat)):=by
 by_cases h32:m<4294967296
 ·have hlt:a*b<4294967296*4294967296:=fR oO oO;have hw: ∀ _:True,IntKind.u64.wrap ((a:Int)*(b:Int))=((a*b:Nat):Int):=fun _=>by rw[<-Int.natCast_mul,IntWalk.u64_in _ oO]
  clear hlt;refine eW Tryz.call412 Tryz.func412 ?_;repeat' first|simp only[go_sem,seval,hw trivial]|refine sB ?_|apply xX<;>intro hc|refine⟨oD,?_⟩|exact oD|fail
  all_goals skip
 ·refine eW Tryz.call412 Tryz.func412 ?_;refine uZ ?_;refine af (α:=Nat×Nat×Nat) (fun s=>s.2.2) (fun s=>⟨[(0,U s.2.1),(1,U s.2.2),(2,U m),(7,U s.1)],[],_⟩) (fun s=>s.1<m/\s.2.1<m/\s.2.2<18446744073709551616/\(s.1+s.2.1*s.2.2)%m=a*b%m) (0,a,b) (fun _=>an _) ⟨by show 0<m;omega,ha,by show b< _;omega,by simp⟩ ?_ ?_
  ·exact lE
  ·rintro⟨u,x,y⟩ ⟨hu,hx,hy,he⟩ R hR;simp only at hu hx hy he
   by_cases h0:y=0
   ·subst h0;rw[Nat.mul_zero,Nat.add_zero,aV hu]at he;refine wC ?_;rw[he]
   ·have a1:=ym hu hx hm;have a2:=ym hx hx hm;have hm1:(u+x)%m<m:=aD _ oO;have hm2:(x+x)%m<m:=aD _ oO;have hy2:((y:Int)).tmod 2=((y%2:Nat):Int):=rfl;have hyd:y/2<=y:=dZ _ _;have hxx: ∀k,(x+x)%m*k%m=x*(2*k)%m:=fun k=>by rw[gL,<-pB,bc 2 x,bQ]
    rcases(show y%2=1\/y%2=0 by omega)with g|g
    ·have he2:((u+x)%m+(x+x)%m*(y/2))%m=a*b%m:=by
      rw[<-he,jN,hxx,dq,<-jN];have:x*y=x+x*(2*(y/2)):=by
       have:y=1+2*(y/2):=by omega
       conv=>lhs;rw[this,jn,dG]
      rw[this];congr 1;omega
     have hgo:=hR ((u+x)%m,(x+x)%m,y/2) ⟨hm1,hm2,by show y/2< _;omega,he2⟩ (by show y/2<y;omega)
     clear he he2 hR hxx;exact yQ (aN @hy2 @g) @hgo @a1 @a2
    ·have he2:(u+(x+x)%m*(y/2))%m=a*b%m:=by
      rw[<-he,jN,hxx,<-jN];have:x*y=x*(2*(y/2)):=by congr 1;omega
      rw[this]
     have hgo:=hR (u,(x+x)%m,y/2) ⟨hu,hm2,by show y/2< _;omega,he2⟩ (by show y/2<y;omega)
     clear he he2 hR hxx;exact yQ (aN @hy2 @g) @hgo @a1 @a2
theorem Fy {a e m:Nat} (ha:a<m) (he:e<18446744073709551616) (hm:m<18446744073709551616):aA Tryz.prog 411 [.i .u64 a, .i .u64 e, .i .u64 m] (.i .u64 (a^e%m:Nat)):=by
 have h0:0<m:=by omega
 have e1:(1:Int).tmod (m:Int)=((1%m:Nat):Int):=rfl;refine eW Tryz.call411 Tryz.func411 ?_;refine eF @e1 ?_;refine af (α:=Nat×Nat×Nat) (fun s=>s.2.2) (fun s=>⟨[(0,U s.2.1),(1,U s.2.2),(2,U m),(7,U s.1)],[],_⟩) (fun s=>s.1<m/\s.2.1<m/\s.2.2<18446744073709551616/\s.1*s.2.1^s.2.2%m=a^e%m) (1%m,a,e) (fun _=>an _) ⟨aD _ h0,ha,he,by show 1%m*a^e%m= _;rw[gL,ia]⟩ ?_ ?_
 ·(refine AS.Le.of (by first|decide|omega) ?_ ?_<;>simp[dM,dL,aK,aj,AV.bd,AV.bd.bdL,u8,ai,ak,ar])
  all_goals first|rfl|skip
 ·rintro⟨u,x,y⟩ ⟨hu,hx,hy,hq⟩ R hR;simp only at hu hx hy hq
  by_cases h1:y=0
  ·subst h1;rw[Nat.pow_zero,dG,aV hu]at hq;refine wC ?_;rw[hq]
  ·have a1:=qE hu hx hm;have a2:=qE hx hx hm;have hm1:u*x%m<m:=aD _ h0;have hm2:x*x%m<m:=aD _ h0;have hy2:((y:Int)).tmod 2=((y%2:Nat):Int):=rfl;have hyd:y/2<=y:=dZ _ _;rcases(show y%2=1\/y%2=0 by omega)with g|g
   ·have hgo:=hR (u*x%m,x*x%m,y/2) ⟨hm1,hm2,by show y/2< _;omega,by show u*x%m*(x*x%m)^(y/2)%m= _;rw[Mp g,hq]⟩ (by show y/2<y;omega)
    clear hq hR;exact yQ (aN @hy2 @g) @hgo @a1 @a2
   ·have hgo:=hR (u,x*x%m,y/2) ⟨hu,hm2,by show y/2< _;omega,by show u*(x*x%m)^(y/2)%m= _;rw[Hf g,hq]⟩ (by show y/2<y;omega)
    clear hq hR;exact yQ (aN @hy2 @g) @hgo @a1 @a2
def RJ (n:Nat):Nat->Nat->Bool
 |0,_=>false
 |r+1,x=>x==n-1||RJ n r (x*x%n)
theorem Nq (n:Nat): ∀r x,RJ n (r+1) x=(x==n-1||RL r x n)
 |0,x=>rfl
 |r+1,x=>by rw[RJ,Nq n r];rfl
theorem FE {n a:Nat} (hn:n<18446744073709551616) (h3:3<=n) (hodd:n%2=1) (ha:a<n) (ha0:a≠0):aA Tryz.prog 316 [.i .u64 n, .i .u64 a] (.b (mO n (Em 64 (n-1)) ((n-1)/2^Em 64 (n-1)) a)):=by
 have e1: ∀ _:True,((n:Int)-1)=((n-1:Nat):Int):=fun _=>by omega
 have e2:(n:Int).tmod 2=((n%2:Nat):Int):=rfl;obtain⟨T,hT⟩: ∃T,T=Em 64 (n-1):=⟨_,rfl⟩;rw[<-hT];have hT0:T≠0:=by
  rw[hT];unfold Em;rw[if_neg oO];omega
 refine eW Tryz.call316 Tryz.func316 ?_;repeat' first|simp only[go_sem,seval,e1 trivial,e2,hodd]|refine sB ?_|apply xX<;>intro hc|refine⟨oD,?_⟩|exact oD|fail
 refine af (α:=Nat×Nat) (fun s=>s.1) (fun s=>⟨[(0,U n),(1,U a),(5,U s.1),(6,E' s.2)],[],_⟩) (fun s=>0<s.1/\s.1<18446744073709551616/\s.2<=64/\s.1<2^(64-s.2)/\s.1=(n-1)/2^s.2/\Em (64-s.2) s.1+s.2=T) (n-1,0) (fun _=>an _) ⟨by show 0<n-1;omega,by show n-1< _;omega,by show 0<=64;omega,by show n-1<2^64;omega,by show n-1= _;rw[Nat.pow_zero,iS],by rw[hT];rfl⟩ ?_ ?_
 ·exact lE
 ·rintro⟨d,s⟩ ⟨hd0,hd1,hs,hds,hde,ht⟩ R hR;simp only at hd0 hd1 hs hds hde ht;have ed:(d:Int).tmod 2=((d%2:Nat):Int):=rfl;have hs64:s<64:=by
   rcases nS s 64 with g|g
   ·exact g
   ·obtain rfl:s=64:=by omega
    simp at hds;omega
  obtain⟨f,hf⟩: ∃f,64-s=f+1:=⟨63-s,by omega⟩
  rw[hf]at hds ht;unfold Em at ht
  by_cases hev:d%2=0
  ·rw[if_neg oO]at ht;have hdl:d/2<=d:=dZ _ _;have hgo:=hR (d/2,s+1) ⟨by show 0<d/2;omega,by show d/2< _;omega,by show s+1<=64;omega,by
    show d/2<2^(64-(s+1));rw[show 64-(s+1)=f by omega];rw[Nat.pow_succ]at hds;omega,by
    show d/2=(n-1)/2^(s+1);rw[Nat.pow_succ,<-eg,<-hde],by
    show Em (64-(s+1)) (d/2)+(s+1)=T;rw[show 64-(s+1)=f by omega];omega⟩ (by show d/2<d;omega)
   clear hR ht;exact u4 (aN @ed @hev) @hgo
  ·have hev:d%2=1:=by omega
   rw[if_pos hev,dI]at ht;subst ht;rw[<-hde];have hx:=Fy (a:=a) (e:=d) (m:=n) ha hd1 hn;have es:mO n s d a=(a^d%n==1||RJ n s (a^d%n)):=by
    unfold mO;rw[aV ha];obtain⟨r,hr⟩: ∃r,s=r+1:=⟨s-1,by omega⟩
    rw[hr,Nq,j8,Bool.or_assoc]
   rw[es];obtain⟨x,hxx⟩: ∃x,x=a^d%n:=⟨_,rfl⟩;have hxl:x<n:=by rw[hxx];exact aD _ oO
   rw[<-hxx]at hx⊢;clear hR es hde hxx
   by_cases hx1:x=1
   ·subst hx1;repeat' first|simp only[go_sem,seval,ed,hev]|refine cP hx ?_|refine sB ?_|apply xX<;>intro hc|refine⟨oD,?_⟩|exact oD|fail
    all_goals skip
   have hb1:(x==1)=false:=by simpa using hx1
   have hb2:((x:Int)==1)=false:=by rw[beq_eq_false_iff_ne];omega
   rw[hb1,ka];refine zr (aN @ed (aN @hev @hb2)) @hx ?_;refine af (α:=Nat×Nat) (fun s'=>s-s'.1) (fun s'=>⟨[(0,U n),(6,E' s),(7,U s'.2),(8,E' s'.1)],[],_⟩) (fun s'=>s'.1<=s/\s'.2<n/\RJ n (s-s'.1) s'.2=RJ n s x) (0,x) (fun _=>an _) ⟨aH _,hxl,rfl⟩ ?_ ?_
   ·exact lE
   ·rintro⟨i,z⟩ ⟨hi,hz,hq⟩ R hR;simp only at hi hz hq;rw[<-hq]
    by_cases hlt:i<s
    ·have hmm:=qE hz hz hn;have hzz:z*z%n<n:=aD _ oO;obtain⟨r,hr⟩: ∃r,s-i=r+1:=⟨s-i-1,by omega⟩
     have hgo:=hR (i+1,z*z%n);rw[hr]at hq⊢;simp only[RJ]at hq⊢
     by_cases hzn:z=n-1
     ·have hb: ∀ _:True,((z:Int)==((n-1:Nat):Int))=true:=fun _=>by rw[hzn];simp
      have hb':(z==n-1)=true:=by simpa using hzn
      rw[hb',iu];clear hq hgo hR;exact lQ (aN (e1 trivial) (hb trivial))
     ·have hb: ∀ _:True,((z:Int)==((n-1:Nat):Int))=false:=fun _=>by rw[beq_eq_false_iff_ne];omega
      have hb':(z==n-1)=false:=by simpa using hzn
      rw[hb',ka]at hq⊢;rw[<-hq]at hgo;have hgo:=hgo ⟨by show i+1<=s;omega,hzz,by show RJ n (s-(i+1)) _= _;rw[show s-(i+1)=r by omega]⟩ (by show s-(i+1)<s-i;omega)
      clear hq hR;exact kR (aN (e1 trivial) (hb trivial)) @hgo @hmm
    ·obtain rfl:i=s:=by omega
     rw[eE];exact z0
theorem Wp {i:Nat} (h:i<12):(List.map (fun n:Nat=>PV.i .u64 (n:Int)) bI).getD i .fn0= .i .u64 (bI.getD i 0:Nat):=by
 have h2:i<bI.length:=h;simp[aR,h2]
theorem Qn {n:Nat} (hn:n<18446744073709551616):aA Tryz.prog 201 [.i .u64 n] (.b (du n)):=by
 by_cases h2:n<2
 ·have e:du n=false:=by simp[du,h2]
  rw[e];refine eW Tryz.call201 Tryz.func201 ?_;exact z0
 obtain⟨B,hB⟩: ∃B,B=List.map (fun n:Nat=>PV.i .u64 (n:Int)) bI:=⟨_,rfl⟩
 have hBl:B.length=12:=by rw[hB];rfl
 have hBe: ∀ _:True,[PV.i .u64 2, .i .u64 3, .i .u64 5, .i .u64 7, .i .u64 11, .i .u64 13, .i .u64 17, .i .u64 19, .i .u64 23, .i .u64 29, .i .u64 31, .i .u64 37]=B:=fun _=>by rw[hB];rfl
 have hBc: ∀x∈B,x.cells.length=1:=by
  rw[hB];intro x hx;obtain⟨c,-,rfl⟩:=bw.1 hx;rfl
 have hBg: ∀{i:Nat},i<12->B.getD i .fn0= .i .u64 (bI.getD i 0:Nat):=fun h=>by rw[hB];exact Wp h
 clear hB;refine eW Tryz.call201 Tryz.func201 ?_;refine eF (hBe trivial) ?_;refine af (α:=Nat) (fun i=>12-i) (fun i=>⟨[(0,U n),(3, .fs B),(4,E' i)],[],_⟩) (fun i=>i<=12/\bI.find? (fun p=>n%p==0)=(bI.drop i).find? (fun p=>n%p==0)) 0 (fun _=>an _) ⟨by omega,rfl⟩ ?_ ?_
 ·exact lE
 ·rintro i ⟨hi,hf⟩ R hR
  by_cases hlt:i<12
  ·have g1:=hBg hlt;obtain⟨q0,q1⟩:=ON hlt;rw[Gk hlt]at hf;have hmc: ∀q:Nat,(n:Int).tmod (q:Int)=((n%q:Nat):Int):=fun q=>rfl
   generalize bI.getD i 0=q at*
   by_cases hq:n=q
   ·have hz:(n%q==0)=true:=by rw[hq];simp
    rw[List.find?_cons,hz]at hf;have e:du n=true:=by
     unfold du;rw[if_neg h2,hf];simpa using hq
    rw[e];exact lQ (aN @hBl (aN @g1 @hmc))
   ·by_cases hz0:n%q=0
    ·have hz:(n%q==0)=true:=by simpa using hz0
     rw[List.find?_cons,hz]at hf;have e:du n=false:=by
      unfold du;rw[if_neg h2,hf];simpa using hq
     rw[e];exact lQ (aN @hBl (aN @g1 (aN @hmc @hz0)))
    ·have hz:(n%q==0)=false:=by simpa using hz0
     rw[List.find?_cons,hz]at hf;have hgo:=hR (i+1) ⟨by omega,hf⟩ oO
     exact u4 (aN @hBl (aN @g1 @hmc)) @hgo
  ·obtain rfl:i=12:=by omega
   have hf:bI.find? (fun p=>n%p==0)=none:=hf
   have hnd: ∀q∈bI,n%q≠0:=fun q hq=>by simpa using List.find?_eq_none.1 hf q hq
   have key:du n=bI.all (mO n (Em 64 (n-1)) ((n-1)/2^Em 64 (n-1))):=by
    unfold du;rw[if_neg h2,hf]
   have h37:37<n:=by
    rcases nS 37 n with g|g
    ·exact g
    ·exfalso
     have: ∀k:Fin 38,2<=k.val-> ∃q∈bI,k.val%q=0:=by decide
     obtain⟨q,hq1,hq2⟩:=this ⟨n,by omega⟩ (by show 2<=n;omega)
     exact hnd q hq1 hq2
   have hodd:n%2=1:=by have:=hnd 2 oC;omega
   rw[key];have hst:=fun a (h1:a<38) (h0:a≠0)=>FE (a:=a) hn oO hodd oO h0
   clear key hf hnd hR;generalize mO n (Em 64 (n-1)) ((n-1)/2^Em 64 (n-1))=st at*;refine eF @hBl ?_;refine af (α:=Nat) (fun i=>12-i) (fun i=>⟨[(0,U n),(3, .fs B),(5,E' i)],[],_⟩) (fun i=>i<=12/\bI.all st=(bI.drop i).all st) 0 (fun _=>an _) ⟨by omega,rfl⟩ ?_ ?_
   ·exact lE
   ·rintro i ⟨hi,hf⟩ R hR
    by_cases hlt:i<12
    ·have g1:=hBg hlt;obtain⟨q0,q1⟩:=ON hlt;rw[Gk hlt,List.all_cons]at hf;have hR1:=hR (i+1);generalize bI.getD i 0=q at*;have hs:=hst q q1 oO
     cases hsq:st q
     ·rw[hsq]at hs hf;rw[hf,dH];exact o7 (aN @hBl @g1) @hs
     ·rw[hsq]at hs hf;rw[cf]at hf;have hgo:=hR1 ⟨by omega,hf⟩ oO
      exact kR (aN @hBl @g1) @hgo @hs
    ·obtain rfl:i=12:=by omega
     have e:bI.all st=true:=hf;rw[e];exact lQ @hBl
theorem UD (a:Bytes) (la:a.length<1099511627776):aA Tryz.prog 107 [.s a] (.tup [.b (aa a&&decide (a.length<=8)&&du (num a)),E (if aa a then(if a.length<=8 then 0 else 5)else 3)]):=by
 have hf:=Fz a;have hu:=Wu a la
 by_cases hv:aa a=true
 ·rw[hv]at hf⊢
  by_cases h8:a.length<=8
  ·have hn:=dY h8;rw[decide_eq_true h8,aV hn]at hu;have hi:=Qn hn;rw[decide_eq_true h8,if_pos rfl,if_pos h8];generalize du (num a)=b at*;refine eW Tryz.call107 Tryz.func107 ?_;exact ZQ @hf @hu @hi
  ·rw[decide_eq_false h8]at hu⊢;rw[if_pos rfl,if_neg h8];refine eW Tryz.call107 Tryz.func107 ?_;exact U1 @hf @hu
 ·have hv:aa a=false:=by simpa using hv
  rw[hv]at hf⊢;refine eW Tryz.call107 Tryz.func107 ?_;exact XG @hf
end Go.Proofs.YtfdjchnefpefbaaGreatDoor
