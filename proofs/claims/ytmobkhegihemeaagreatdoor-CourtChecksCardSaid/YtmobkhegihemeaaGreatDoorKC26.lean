/-
  Part of the proof, part KC26. Own work.
-/
import Derived.Test.YtmobkhegihemeaaGreatDoorKC25
import Derived.Test.YtmobkhegihemeaaGreatDoorKC24
set_option linter.all false
namespace Go.Proofs.YtmobkhegihemeaaGreatDoor
open Go Go.Dom
set_option maxRecDepth 100000
set_option maxHeartbeats 8000000
theorem xC:18446744073709551616≤c9:=by decide
theorem iS:18446744073709551616≤du:=by unfold du;decide+kernel
theorem yM {x:Int} {m:Nat} (hx:x.natAbs<c9) (hm:m<c9) (h0:0<m):aD Tryz.prog 306 [Z x,Z m] (.tup [Z (x/m),N (x%m).toNat,E 0]):=by
 have hw:=Ao;have v1:=gX (x:=x) (by omega)
 have v2:=gX (x:=(m:Int)) (by omega)
 have hd:=n8 (a:=x.natAbs) (b:=m) (by omega) (by omega) h0
 have e0:(aP m==([]:Bytes))=false:=qz (by omega)
 have hl:=aG x.natAbs h0;have hq:x.natAbs/m≤x.natAbs:=dR _ _;have h1:=gP 1 (by decide)
 by_cases hs:x<0
 ·have hz:zs x=true:=by simp[zs,hs]
  have hn:x= -(x.natAbs:Int):=by omega
  simp only[Z,hz]at v1;simp only[Z,kY,kX]at v2
  by_cases hr:x.natAbs%m=0
  ·obtain⟨g1,g2⟩:=LB h0 hr;rw[←hn]at g1 g2;have hk:=kU true (x.natAbs/m) (z:=x/m) (by rw[g1];rfl)
   have e1:(aP (x.natAbs%m)==([]:Bytes))=true:=by rw[hr];rfl
   rw[g2,←hr];generalize x/(m:Int)=q at*;clear g1 g2 hn hr hw;refine eW Tryz.call306 Tryz.func306 ?_;repeat' first|simp only[go_sem,seval,Z,kY,kX,hz,e0,e1]|refine cP v1 ?_|refine cP v2 ?_|refine cP hd ?_|refine cP hk ?_|refine sB ?_|(first|apply pX|apply bX)<;>intro hc|refine⟨oD,?_⟩|exact oD|fail
  ·obtain⟨g1,g2⟩:=H6 h0 hr;rw[←hn]at g1 g2;have hk:=kU true (x.natAbs/m+1) (z:=x/m) (by rw[g1];rfl)
   have e1:(aP (x.natAbs%m)==([]:Bytes))=false:=qz hr;have ha:=FP (a:=x.natAbs/m) (b:=1) (by have:=C2;unfold c9 at*;omega)
   have hb:=FW (a:=m) (b:=x.natAbs%m) (by omega) (by omega)
   rw[g2];generalize x/(m:Int)=q at*;clear g1 g2 hn hr hw;refine eW Tryz.call306 Tryz.func306 ?_;repeat' first|simp only[go_sem,seval,Z,kY,kX,hz,e0,e1]|refine cP v1 ?_|refine cP v2 ?_|refine cP hd ?_|refine cP h1 ?_|refine cP ha ?_|refine cP hb ?_|refine cP hk ?_|refine sB ?_|(first|apply pX|apply bX)<;>intro hc|refine⟨oD,?_⟩|exact oD|fail
 ·have hz:zs x=false:=by simp[zs,hs]
  have hn:x=(x.natAbs:Int):=by omega
  simp only[Z,hz]at v1;simp only[Z,kY,kX]at v2;obtain⟨g1,g2⟩:=LC x.natAbs m;rw[←hn]at g1 g2;have hk:=kU false (x.natAbs/m) (z:=x/m) (by rw[g1];rfl)
  rw[g2];generalize x/(m:Int)=q at*;clear g1 g2 hn hw;refine eW Tryz.call306 Tryz.func306 ?_;repeat' first|simp only[go_sem,seval,Z,kY,kX,hz,e0]|refine cP v1 ?_|refine cP v2 ?_|refine cP hd ?_|refine cP hk ?_|refine sB ?_|(first|apply pX|apply bX)<;>intro hc|refine⟨oD,?_⟩|exact oD|fail
theorem Sk {x:Int} {m:Nat} (hx:x.natAbs<c9) (hm:m<c9) (h0:0<m):aD Tryz.prog 235 [Z x,N m] (.tup [N (x%m).toNat,E 0]):=by
 have hw:=Ao;have v1:=gX (x:=x) (by omega)
 have v2:=aO (aP m);rw[vB (show m<du by omega)]at v2
 have hf:=wZ (n:=m) (by omega)
 have hd:=yM hx hm h0;refine eW Tryz.call235 Tryz.func235 ?_;repeat' first|simp only[go_sem,seval,Z]|refine cP v1 ?_|refine cP v2 ?_|refine cP hf ?_|refine cP hd ?_|refine sB ?_|(first|apply pX|apply bX)<;>intro hc|refine⟨oD,?_⟩|exact oD|fail
theorem D0: ∀(n a b:Nat),b≤n→a<18446744073709551616→b<18446744073709551616→ ∃g x y,O0 a b g x y∧aD Tryz.prog 305 [N a,N b] (.tup [N g,Z x,Z y]):=by
 intro n
 induction n with
 |zero=>
  intro a b hn ha hb;obtain rfl:b=0:=by omega
  refine⟨a,1,0,O0.base a,?_⟩;have h1:=V4;have h0:=V3;refine eW Tryz.call305 Tryz.func305 ?_;repeat' first|simp only[go_sem,seval,DN,Z]|refine cP h1 ?_|refine cP h0 ?_|refine sB ?_|(first|apply pX|apply bX)<;>intro hc|refine⟨oD,?_⟩|exact oD|fail
 |succ n ih=>
  intro a b hn ha hb
  by_cases hb0:b=0
  ·subst hb0;exact ih a 0 (aL _) ha hb
  have hpos:0<b:=by omega
  have hml:=aG a hpos;obtain⟨g,x,y,hz,he⟩:=ih b (a%b) (by omega) hb (by omega)
  have hst:=O0.step hpos hz;refine⟨g,y,_,hst,?_⟩;have hq:a/b≤a:=dR _ _;have w1:=xC;have w2:=iS;have by1:=hst.bx hpos;have bx1:x.natAbs≤b:=by
   rcases jR (a%b)with h0|h0
   ·obtain⟨rfl,-⟩:=hz.z h0;exact hpos
   ·have:=hz.bx h0;omega
  have hf:=wZ (n:=a/b) (by omega)
  have hm:=KR (x:=((a/b:Nat):Int)) (y:=y) (by rw[Int.natAbs_natCast];omega) (by omega)
  have hpb:(((a/b:Nat):Int)*y).natAbs<c9:=by
   rw[kC,Int.natAbs_natCast];have:a/b*y.natAbs≤a/b*b:=ic _ by1;have h2:a/b*b≤a:=oV a b;omega
  have hs:=Sn (x:=x) (y:=((a/b:Nat):Int)*y) (by omega) hpb
  have hd:=n8 (a:=a) (b:=b) (by omega) (by omega) hpos
  have e0:=qz hb0;generalize x-((a/b:Nat):Int)*y=u at*;generalize ((a/b:Nat):Int)*y=v at*;clear hst hz hpb by1 bx1 hq ih;refine eW Tryz.call305 Tryz.func305 ?_;repeat' first|simp only[go_sem,seval,e0,Z,kY,kX]|refine cP hd ?_|refine cP he ?_|refine cP hf ?_|refine cP hm ?_|refine cP hs ?_|refine sB ?_|(first|apply pX|apply bX)<;>intro hc|refine⟨oD,?_⟩|exact oD|fail
theorem zZ {a b:Nat} (ha:a<18446744073709551616) (hb:b<18446744073709551616) (h0:0<b): ∃X Y:Int,(Nat.gcd a b=1→0≤X∧X.natAbs%b=eV a b)∧X.natAbs<18446744073709551616∧aD Tryz.prog 234 [N a,N b] (.tup [N (Nat.gcd a b),Z X,Z Y,E 0]):=by
 obtain⟨g,x,y,hz,he⟩:=D0 b a b (au _) ha hb;have hg:=hz.g;have hgp:0<g:=by rw[hg];exact Nat.gcd_pos_of_pos_right _ h0
 have hgb:g≤b:=by rw[hg];exact Az _ h0
 have hx:=hz.bx h0;have hy:=hz.by' h0
 have w1:=xC;have w2:=iS;have hm1:b/g≤b:=dR _ _;have hk1:a/g≤a:=dR _ _;have hmp:0<b/g:=Nat.div_pos hgb hgp;have v1:=aO (aP a);have v2:=aO (aP b);rw[vB (show a<du by omega)]at v1
 rw[vB (show b<du by omega)]at v2
 have e0:(aP b==([]:Bytes))=false:=qz (by omega)
 have d1:=n8 (a:=b) (b:=g) (by omega) (by omega) hgp
 have d2:=n8 (a:=a) (b:=g) (by omega) (by omega) hgp
 have f1:=wZ (n:=b/g) (by omega)
 have f2:=wZ (n:=a/g) (by omega)
 have dm:=yM (x:=x) (m:=b/g) (by omega) (by omega) hmp
 obtain⟨q,hq⟩: ∃q,q=x/((b/g:Nat):Int):=⟨_,rfl⟩;obtain⟨r,hr⟩: ∃r,r=(x%((b/g:Nat):Int)).toNat:=⟨_,rfl⟩;have hrl:r<b/g:=by
  have h1:=fQ x (show(0:Int)<((b/g:Nat):Int) by omega)
  omega
 have hqb:q.natAbs≤x.natAbs+1:=by
  have h1:=fE x (show((b/g:Nat):Int)≠0 by omega)
  have h2:=mf x ((b/g:Nat):Int);rw[←hq]at h2;have h3:(((b/g:Nat):Int)*q).natAbs=b/g*q.natAbs:=by rw[kC,Int.natAbs_natCast]
  have h4:q.natAbs≤b/g*q.natAbs:=A2 _ hmp
  by_cases hq0:q.natAbs≤1
  ·omega
  ·have h5:b/g+q.natAbs≤b/g*q.natAbs+1:=by
    obtain⟨u,hu⟩: ∃u,b/g=u+1:=⟨b/g-1,by omega⟩
    obtain⟨v,hv⟩: ∃v,q.natAbs=v+1:=⟨q.natAbs-1,by omega⟩
    rw[hu,hv,cr,iX];omega
   omega
 have mk:=KR (x:=q) (y:=((a/g:Nat):Int)) (by unfold c9;omega) (by rw[Int.natAbs_natCast];unfold c9;omega)
 have hpk:(q*((a/g:Nat):Int)).natAbs<c9:=by
  rw[kC,Int.natAbs_natCast];have:=jH (show q.natAbs≤18446744073709551616 by omega) (show a/g≤18446744073709551616-1 by omega)
  unfold c9;omega
 have ad:=Sj (x:=y) (y:=q*((a/g:Nat):Int)) (by unfold c9;omega) hpk
 have fr:=wZ (n:=r) (by omega)
 refine⟨(r:Int),y+q*((a/g:Nat):Int),?_,by omega,?_⟩
 ·intro h1;have g1:g=1:=by rw[hg];exact h1
  refine⟨by omega,(hG (aG _ h0) ?_).symm⟩
  have he1:=hz.e;rw[g1]at hr he1;rw[iY]at hr;have hnn:=fE x (show(b:Int)≠0 by omega)
  have:=DE (a:=a) (b:=b) (X:=x%(b:Int)) (Y:=y+a*(x/(b:Int))) hnn (by
   have h2:=mf x (b:Int);have h3:x%(b:Int)=x-b*(x/(b:Int)):=by omega
   rw[h3,nA,kz];have h4:(a:Int)*(b*(x/(b:Int)))=b*(a*(x/(b:Int))):=by rw[←kF,qW (a:Int),kF]
   simp only[Int.natCast_one]at he1;omega)
  have e5:(r:Int).natAbs=(x%(b:Int)).natAbs:=by rw[hr];omega
  rw[e5];exact this
 ·rw[←hg];rw[←hq,←hr]at dm;generalize q*((a/g:Nat):Int)=u at*;generalize y+u=v at*;clear hz hx hy hpk hqb hrl hq hr hmp hm1 hk1 hgp hgb hg;refine eW Tryz.call234 Tryz.func234 ?_;repeat' first|simp only[go_sem,seval,e0,Z,kY,kX]|refine cP v1 ?_|refine cP v2 ?_|refine cP he ?_|refine cP d1 ?_|refine cP d2 ?_|refine cP f1 ?_|refine cP f2 ?_|refine cP dm ?_|refine cP mk ?_|refine cP ad ?_|refine cP fr ?_|refine sB ?_|(first|apply pX|apply bX)<;>intro hc|refine⟨oD,?_⟩|exact oD|fail
theorem hO {a m:Nat} (ha:a<du) (hm:m<du) (h0:0<m):aD Tryz.prog 156 [N a,N m] (N (a%m)):=by
 have hd:=n8 ha hm h0;refine eW Tryz.call156 Tryz.func156 ?_;repeat' first|simp only[go_sem,seval]|refine cP hd ?_|refine sB ?_|(first|apply pX|apply bX)<;>intro hc|refine⟨oD,?_⟩|exact oD|fail
theorem T6 (a m:Bytes):aD Tryz.prog 104 [.sl [.s a, .s m]] (E (qh [a] m)):=by
 have va:=aO a;have vm:=aO m;refine eW Tryz.call104 Tryz.func104 ?_;repeat' first|simp only[go_sem,seval,cb,bI]|refine cP va ?_|refine cP vm ?_|(refine ae ?_)|refine sB ?_|(first|apply pX|apply bX)<;>intro hc|refine⟨oD,?_⟩|exact oD|fail
 all_goals simp_all[qh]
theorem FQ (a b m:Bytes):aD Tryz.prog 104 [.sl [.s a, .s b, .s m]] (E (qh [a,b] m)):=by
 have va:=aO a;have vb:=aO b;have vm:=aO m;refine eW Tryz.call104 Tryz.func104 ?_;repeat' first|simp only[go_sem,seval,cb,bI]|refine cP va ?_|refine cP vb ?_|refine cP vm ?_|(refine ae ?_)|refine sB ?_|(first|apply pX|apply bX)<;>intro hc|refine⟨oD,?_⟩|exact oD|fail
 all_goals simp_all[qh]
theorem z8 {a b m:Nat} (ha:a<18446744073709551616) (hb:b<18446744073709551616) (hm:m<18446744073709551616) (h0:0<m):aD Tryz.prog 105 [N a,N b,N m] (N (a*b%m)):=by
 have w2:=iS;have hs:=sE (aP m);rw[vB (show m<du by omega),decide_eq_true (lN hm),aK]at hs
 have d1:=hO (a:=a) (m:=m) (by omega) (by omega) h0
 have d2:=hO (a:=b) (m:=m) (by omega) (by omega) h0
 have l1:=aG a h0;have l2:=aG b h0;have s1:=sE (aP (a%m));rw[vB (show a%m<du by omega),decide_eq_true (lN (show a%m<18446744073709551616 by omega)),aK]at s1
 have s2:=sE (aP (b%m));rw[vB (show b%m<du by omega),decide_eq_true (lN (show b%m<18446744073709551616 by omega)),aK]at s2
 have hmul:a%m*(b%m)<18446744073709551616*18446744073709551616:=fO (by omega) (by omega)
 have hlm:18446744073709551616*18446744073709551616≤du:=by unfold du;decide+kernel
 have hp:=PA (a:=a%m) (b:=b%m) (by omega) (by omega) (by omega)
 have d3:=hO (a:=a%m*(b%m)) (m:=m) (by omega) (by omega) h0
 rw[←cz]at d3;have hl3:=aG (a*b) h0
 by_cases hsm:m<2147483648
 ·have ho:=gP (a*b%m) (by omega)
  have hlt:a%m*(b%m)<18446744073709551616:=by
   have:a%m*(b%m)<2147483648*2147483648:=fO (by omega) (by omega)
   omega
  have hw: ∀ _:True,IntKind.u64.wrap (((a%m:Nat):Int)*((b%m:Nat):Int))=((a%m*(b%m):Nat):Int):=fun _=>by
   rw[←Int.natCast_mul,IntWalk.u64_in _ (by omega)]
  have hmm: ∀ _:True,((a%m*(b%m):Nat):Int).tmod (m:Int)=((a*b%m:Nat):Int):=fun _=>by
   rw[cz];rfl
  clear hp d3 hmul hlm;generalize a%m=u at*;generalize b%m=v at*;refine eW Tryz.call105 Tryz.func105 ?_;repeat' first|simp only[go_sem,seval,if_true,hw trivial,hmm trivial]|refine cP hs ?_|refine cP d1 ?_|refine cP d2 ?_|refine cP s1 ?_|refine cP s2 ?_|refine cP ho ?_|refine sB ?_|(first|apply pX|apply bX)<;>intro hc|refine⟨oD,?_⟩|exact oD|fail
 ·clear hmul hlm;refine eW Tryz.call105 Tryz.func105 ?_;repeat' first|simp only[go_sem,seval,if_true]|refine cP hs ?_|refine cP d1 ?_|refine cP d2 ?_|refine cP hp ?_|refine cP d3 ?_|refine sB ?_|(first|apply pX|apply bX)<;>intro hc|refine⟨oD,?_⟩|exact oD|fail
theorem Pz {a b m:Nat} (ha:a<18446744073709551616) (hb:b<18446744073709551616) (hm:m<18446744073709551616) (h0:0<m):aD Tryz.prog 51 [N a,N b,N m] (.tup [N (a*b%m),E 0]):=by
 have hc:=FQ (aP a) (aP b) (aP m);rw[sT ha (vN hb) hm h0]at hc;have ht:=z8 ha hb hm h0;refine eW Tryz.call51 Tryz.func51 ?_;repeat' first|simp only[go_sem,seval]|refine cP hc ?_|refine cP ht ?_|refine sB ?_|(first|apply pX|apply bX)<;>intro hc|refine⟨oD,?_⟩|exact oD|fail
theorem sD {a m:Nat} {e:Bytes} (ha:a<18446744073709551616) (he:aa e=true) (hm:m<18446744073709551616) (h0:0<m):aD Tryz.prog 159 [N a, .s e,N m] (N (a^num e%m)):=by
 have w2:=iS;have ho:=gP 1 (by decide)
 have d1:=hO (a:=1) (m:=m) (by omega) (by omega) h0
 have hb:=HJ he;have hbi:=fun i hi=>Oc he i hi
 obtain⟨n,hn⟩: ∃n,n=num e:=⟨_,rfl⟩;have hbl:cd n<1000000:=by
  have h1:n<2^1024:=by
   rw[hn];refine a9 (bV e) ?_;have le:=cI he;exact fg (cQ (by decide) le) (by decide+kernel)
  by_cases hz:n=0
  ·rw[hz];decide
  ·obtain⟨g1,g2⟩:=pZ hz;have:=(oN (by decide:1<2)).1 (dQ g1 h1)
   omega
 rw[←hn]at hb hbi⊢;have hb2:n/2^cd n=0:=gn (p9 n);clear hn;refine eW Tryz.call159 Tryz.func159 ?_;repeat' first|simp only[go_sem,seval]|refine cP ho ?_|refine cP d1 ?_|refine cP hb ?_|refine sB ?_|(first|apply pX|apply bX)<;>intro hc|refine⟨oD,?_⟩|exact oD|fail
 refine aj (α:=Nat) (fun k=>k) (fun k=>⟨[(0, .v (N a)),(1, .v (.s e)),(2, .v (N m)),(7, .v (N (a^(n/2^k)%m))),(8, .v (.i .i64 ((k:Int)-1)))],[],_⟩) (fun k=>k≤cd n) (cd n) (fun _=>au _) (au _) ?_ ?_
 ·(refine AS.Le.of (by first|decide|omega) ?_ ?_<;>simp[cl,cj,aF,ar,AV.bd,AV.bd.bdL,u8,ah,ai,aq])
  rw[hb2,Nat.pow_zero]
 ·intro k hk R hR
  cases k with
  |zero=>
   repeat' first|simp only[go_sem,seval]|refine sB ?_|(first|apply pX|apply bX)<;>intro hc|refine⟨oD,?_⟩|exact oD|fail
   rw[iY]
  |succ k=>
   obtain⟨x,hx⟩: ∃x,x=a^(n/2^(k+1))%m:=⟨_,rfl⟩;have hxm:x<m:=by rw[hx];exact aG _ h0
   have hxx:x*x%m<m:=aG _ h0;have t1:=z8 (a:=x) (b:=x) (by omega) (by omega) hm h0
   have t2:=z8 (a:=x*x%m) (b:=a) (by omega) ha hm h0
   have hbit:=hbi k (by omega)
   rw[jS]at hbit;have hdd:=BM n k;have hw0: ∀ _:True,((k+1:Nat):Int)-1=(k:Int):=fun _=>by omega
   have hge0: ∀ _:True,decide ((k:Int)≥0)=true:=fun _=>by simp
   rw[←hx];repeat' first|simp only[go_sem,seval,hw0 trivial,hge0 trivial]|refine cP t1 ?_|refine cP t2 ?_|refine cP hbit ?_|refine sB ?_|(first|apply pX|apply bX)<;>intro hc|refine⟨oD,?_⟩|exact oD|fail
   ·have ez:x*x%m*a%m=a^(n/2^k)%m:=by
     have e3:x*x%m=a^(n/2^(k+1))*a^(n/2^(k+1))%m:=by rw[hx,←cz]
     rw[e3,iV,←ct,←Nat.pow_succ];congr 2;omega
    refine hR k (by omega) (by omega) _ ?_
    rw[←ez];exact lE
   ·have ez:x*x%m=a^(n/2^k)%m:=by
     rw[hx,←cz,←ct];congr 2;omega
    refine hR k (by omega) (by omega) _ ?_
    rw[←ez];exact lE
theorem T8 {a m:Nat} {e:Bytes} (ha:a<18446744073709551616) (he:aa e=true) (hm:m<18446744073709551616) (h0:0<m):aD Tryz.prog 155 [N a, .s e,N m] (.tup [N (a^num e%m),E 0]):=by
 have hc:=FQ (aP a) e (aP m);rw[sT ha he hm h0]at hc;have hr:=sD ha he hm h0;refine eW Tryz.call155 Tryz.func155 ?_;repeat' first|simp only[go_sem,seval]|refine cP hc ?_|refine cP hr ?_|refine sB ?_|(first|apply pX|apply bX)<;>intro hc|refine⟨oD,?_⟩|exact oD|fail
theorem tc {a m:Nat} (ha:a<18446744073709551616) (hm:m<18446744073709551616) (h0:0<m) (hg:Nat.gcd a m=1):aD Tryz.prog 158 [N a,N m] (.tup [N (eV a m),E 0]):=by
 have w1:=xC;have w2:=iS;have hc:=T6 (aP a) (aP m);rw[O8 ha hm h0]at hc;have hd:=hO (a:=a) (m:=m) (by omega) (by omega) h0
 have hl:=aG a h0;have hg':Nat.gcd (a%m) m=1:=by rw[←hg,←kD,jx]
 obtain⟨X,Y,h1,h2,h3⟩:=zZ (a:=a%m) (b:=m) (by omega) hm h0
 obtain⟨h4,h5⟩:=h1 hg';rw[hg']at h3;have ho:=gP 1 (by decide)
 have hi:=Sk (x:=X) (m:=m) (by omega) (by omega) h0
 have hX:(X%(m:Int)).toNat=eV a m:=by
  obtain⟨n,rfl⟩:=Int.eq_ofNat_of_zero_le h4;rw[Int.natAbs_natCast]at h5;have e1:((n:Int)%(m:Int)).toNat=n%m:=rfl;rw[e1,h5];obtain⟨g1,g2⟩:=(fA h0 hg').inv;exact(hG g1 (by rw[iV]at g2;exact g2)).symm
 rw[hX]at hi;have hbn:(aP 1 !=aP 1)=false:=by simp
 clear h1 h4 h5 hX;refine eW Tryz.call158 Tryz.func158 ?_;repeat' first|simp only[go_sem,seval,Z,hbn,bne_self_eq_false,beq_self_eq_true]|refine cP hc ?_|refine cP hd ?_|refine cP h3 ?_|refine cP ho ?_|refine cP hi ?_|refine sB ?_|(first|apply pX|apply bX)<;>intro hc|refine⟨oD,?_⟩|exact oD|fail
theorem HK {a m:Nat} {e:Bytes} {ng:Bool} (ha:a<m) (he:aa e=true) (hz:(ng&&e==[])=false) (hm:m<18446744073709551616) (hu:Nat.gcd a m=1):aD Tryz.prog 106 [N a, .agg [.b ng, .s e],N m] (.tup [N (cL m a ng (num e)),E 0]):=by
 have h0:0<m:=by omega
 have w2:=iS;have v1:=aO (aP a);have v2:=aO (aP m);rw[vB (show a<du by omega)]at v1
 rw[vB (show m<du by omega)]at v2
 have v3:=pG ng e;rw[he,hz]at v3;have e0:(aP m==([]:Bytes))=false:=qz (by omega)
 have hi:=tc (show a<18446744073709551616 by omega) hm h0 hu
 have hil:=(fA h0 hu).inv.1;cases ng
 ·have hr:=sD (a:=a) (m:=m) (e:=e) (by omega) he hm h0
  have e1:cL m a false (num e)=a^num e%m:=rfl;rw[e1];refine eW Tryz.call106 Tryz.func106 ?_;repeat' first|simp only[go_sem,seval,e0]|refine cP v1 ?_|refine cP v2 ?_|refine cP v3 ?_|refine cP hr ?_|refine sB ?_|(first|apply pX|apply bX)<;>intro hc|refine⟨oD,?_⟩|exact oD|fail
 ·have hr:=sD (a:=eV a m) (m:=m) (e:=e) (by omega) he hm h0
  have e1:cL m a true (num e)=eV a m^num e%m:=rfl;rw[e1];refine eW Tryz.call106 Tryz.func106 ?_;repeat' first|simp only[go_sem,seval,e0]|refine cP v1 ?_|refine cP v2 ?_|refine cP v3 ?_|refine cP hi ?_|refine cP hr ?_|refine sB ?_|(first|apply pX|apply bX)<;>intro hc|refine⟨oD,?_⟩|exact oD|fail
end Go.Proofs.YtmobkhegihemeaaGreatDoor
namespace Go.Proofs.YtmobkhegihemeaaGreatDoor
open Go Go.Dom Go.Num
set_option maxRecDepth 100000
set_option maxHeartbeats 8000000
theorem D5 (a:Bytes):aD Tryz.prog 84 [.s a] (.b (aa a)):=by
 rw[sN];refine eW Tryz.call84 Tryz.func84 ?_;repeat' first|simp only[go_sem,seval]|refine sB ?_|(first|apply pX|apply bX)<;>intro hc|refine⟨oD,?_⟩|exact oD|fail
 all_goals simp_all
 all_goals first|omega|(cases a<;>simp_all)
theorem zR {a:Bytes} {i:Nat} (h:i<a.length):(num (a.take i)%18446744073709551616*256%18446744073709551616+(a.getD i 0).toNat)%18446744073709551616=num (a.take (i+1))%18446744073709551616:=by
 rw[jM h];omega
theorem Ua (a:Bytes) (la:a.length<1099511627776):aD Tryz.prog 85 [.s a] (.tup [.i .u64 (num a%18446744073709551616:Nat), .b (decide (a.length≤8))]):=by
 refine eW Tryz.call85 Tryz.func85 ?_;repeat' first|simp only[go_sem,seval]|refine sB ?_|(first|apply pX|apply bX)<;>intro hc|refine⟨oD,?_⟩|exact oD|fail
 refine aj (α:=Nat) (fun i=>a.length-i) (fun i=>⟨[(0, .v (.s a)),(4, .v (.i .u64 (num (a.take i)%18446744073709551616:Nat))),(5, .v (.i .i64 i))],[],_⟩) (fun i=>i≤a.length) 0 (fun _=>au _) (aL _) ?_ ?_
 ·(refine AS.Le.of (by first|decide|omega) ?_ ?_<;>simp[cl,cj,aF,ar,AV.bd,AV.bd.bdL,u8,ah,ai,aq])
  all_goals rfl
 ·intro i hi R hR
  by_cases hlt:i<a.length
  ·have h1:=zR hlt;have hgo:=hR (i+1) (by omega) (by omega)
   rw[←h1]at hgo;clear h1 hR;obtain⟨u,hu⟩: ∃u,u=num (a.take i)%18446744073709551616:=⟨_,rfl⟩;have hul:u<18446744073709551616:=by rw[hu];exact aG _ (by decide)
   rw[←hu]at hgo⊢;have hw1: ∀ _:True,IntKind.u64.wrap ((u:Int)*256)=((u*256%18446744073709551616:Nat):Int):=fun _=>by rw[C5];omega
   have hw2: ∀x:Nat,IntKind.u64.wrap (((u*256%18446744073709551616:Nat):Int)+(x:Int))=(((u*256%18446744073709551616+x)%18446744073709551616:Nat):Int):=fun x=>by rw[C5];omega
   have hwb: ∀c:UInt8,IntKind.u64.wrap ((c.toNat:Nat):Int)=((c.toNat:Nat):Int):=fun c=>IntWalk.u64_in _ (by have:=c.toNat_lt;omega)
   repeat' first|simp only[go_sem,seval,hw1 trivial,hw2,hwb]|refine sB ?_|(first|apply pX|apply bX)<;>intro hc|refine⟨oD,?_⟩|exact oD|fail
   refine hgo _ ?_;exact lE
  ·obtain rfl:i=a.length:=by omega
   rw[cM];have hd:decide ((a.length:Int)≤8)=decide (a.length≤8):=by rw[dx];simp only[decide_eq_true_eq];omega
   repeat' first|simp only[go_sem,seval,hd]|refine sB ?_|(first|apply pX|apply bX)<;>intro hc|refine⟨oD,?_⟩|exact oD|fail
theorem wX {a b m:Nat} (ha:a<m) (hb:b<m) (hm:m<18446744073709551616):aD Tryz.prog 301 [.i .u64 a, .i .u64 b, .i .u64 m] (.i .u64 ((a+b)%m:Nat)):=by
 by_cases h:m≤a+b
 ·have e:(a+b)%m=a+b-m:=by rw[Nat.mod_eq_sub_mod h,bA (by omega)]
  rw[e];refine eW Tryz.call301 Tryz.func301 ?_;repeat' first|simp only[go_sem,seval]|refine sB ?_|(first|apply pX|apply bX)<;>intro hc|refine⟨oD,?_⟩|exact oD|fail
  all_goals first|rfl|(congr 1;omega)
 ·have e:(a+b)%m=a+b:=bA (by omega)
  rw[e];refine eW Tryz.call301 Tryz.func301 ?_;repeat' first|simp only[go_sem,seval]|refine sB ?_|(first|apply pX|apply bX)<;>intro hc|refine⟨oD,?_⟩|exact oD|fail
  all_goals first|rfl|(congr 1;omega)
theorem pH {a b m:Nat} (ha:a<m) (hb:b<m) (hm:m<18446744073709551616):aD Tryz.prog 221 [.i .u64 a, .i .u64 b, .i .u64 m] (.i .u64 (a*b%m:Nat)):=by
 by_cases h32:m<4294967296
 ·have hlt:a*b<4294967296*4294967296:=fO (by omega) (by omega)
  have hw: ∀ _:True,IntKind.u64.wrap ((a:Int)*(b:Int))=((a*b:Nat):Int):=fun _=>by rw[←Int.natCast_mul,IntWalk.u64_in _ (by omega)]
  clear hlt;refine eW Tryz.call221 Tryz.func221 ?_;repeat' first|simp only[go_sem,seval,hw trivial]|refine sB ?_|(first|apply pX|apply bX)<;>intro hc|refine⟨oD,?_⟩|exact oD|fail
  all_goals skip
 ·refine eW Tryz.call221 Tryz.func221 ?_;repeat' first|simp only[go_sem,seval]|refine sB ?_|(first|apply pX|apply bX)<;>intro hc|refine⟨oD,?_⟩|exact oD|fail
  refine aj (α:=Nat×Nat×Nat) (fun s=>s.2.2) (fun s=>⟨[(0,U s.2.1),(1,U s.2.2),(2,U m),(7,U s.1)],[],_⟩) (fun s=>s.1<m∧s.2.1<m∧s.2.2<18446744073709551616∧(s.1+s.2.1*s.2.2)%m=a*b%m) (0,a,b) (fun _=>au _) ⟨by show 0<m;omega,ha,by show b< _;omega,by simp⟩ ?_ ?_
  ·exact lE
  ·rintro⟨u,x,y⟩ ⟨hu,hx,hy,he⟩ R hR;simp only at hu hx hy he
   by_cases h0:y=0
   ·subst h0;rw[Nat.mul_zero,Nat.add_zero,bA hu]at he;repeat' first|simp only[go_sem,seval]|refine sB ?_|(first|apply pX|apply bX)<;>intro hc|refine⟨oD,?_⟩|exact oD|fail
    rw[he]
   ·have a1:=wX hu hx hm;have a2:=wX hx hx hm;have hm1:(u+x)%m<m:=aG _ (by omega)
    have hm2:(x+x)%m<m:=aG _ (by omega)
    have hy2:((y:Int)).tmod 2=((y%2:Nat):Int):=rfl;have hyd:y/2≤y:=dR _ _;have hxx: ∀k,(x+x)%m*k%m=x*(2*k)%m:=fun k=>by rw[iV,←oL,a7 2 x,bY]
    rcases(show y%2=1∨y%2=0 by omega)with g|g
    ·have he2:((u+x)%m+(x+x)%m*(y/2))%m=a*b%m:=by
      rw[←he,jA,hxx,dt,←jA];have:x*y=x+x*(2*(y/2)):=by
       have:y=1+2*(y/2):=by omega
       conv=>lhs;rw[this,iX,dP]
      rw[this];congr 1;omega
     have hgo:=hR ((u+x)%m,(x+x)%m,y/2) ⟨hm1,hm2,by show y/2< _;omega,he2⟩ (by show y/2<y;omega)
     clear he he2 hR hxx;repeat' first|simp only[go_sem,seval,hy2,g]|refine cP a1 ?_|refine cP a2 ?_|refine sB ?_|(first|apply pX|apply bX)<;>intro hc|refine⟨oD,?_⟩|exact oD|fail
     refine hgo _ ?_;exact lE
    ·have he2:(u+(x+x)%m*(y/2))%m=a*b%m:=by
      rw[←he,jA,hxx,←jA];have:x*y=x*(2*(y/2)):=by congr 1;omega
      rw[this]
     have hgo:=hR (u,(x+x)%m,y/2) ⟨hu,hm2,by show y/2< _;omega,he2⟩ (by show y/2<y;omega)
     clear he he2 hR hxx;repeat' first|simp only[go_sem,seval,hy2,g]|refine cP a1 ?_|refine cP a2 ?_|refine sB ?_|(first|apply pX|apply bX)<;>intro hc|refine⟨oD,?_⟩|exact oD|fail
     refine hgo _ ?_;exact lE
theorem D4 {a e m:Nat} (ha:a<m) (he:e<18446744073709551616) (hm:m<18446744073709551616):aD Tryz.prog 220 [.i .u64 a, .i .u64 e, .i .u64 m] (.i .u64 (a^e%m:Nat)):=by
 have h0:0<m:=by omega
 have e1:(1:Int).tmod (m:Int)=((1%m:Nat):Int):=rfl;refine eW Tryz.call220 Tryz.func220 ?_;repeat' first|simp only[go_sem,seval,e1]|refine sB ?_|(first|apply pX|apply bX)<;>intro hc|refine⟨oD,?_⟩|exact oD|fail
 refine aj (α:=Nat×Nat×Nat) (fun s=>s.2.2) (fun s=>⟨[(0,U s.2.1),(1,U s.2.2),(2,U m),(7,U s.1)],[],_⟩) (fun s=>s.1<m∧s.2.1<m∧s.2.2<18446744073709551616∧s.1*s.2.1^s.2.2%m=a^e%m) (1%m,a,e) (fun _=>au _) ⟨aG _ h0,ha,he,by show 1%m*a^e%m= _;rw[iV,ko]⟩ ?_ ?_
 ·(refine AS.Le.of (by first|decide|omega) ?_ ?_<;>simp[cl,cj,aF,ar,AV.bd,AV.bd.bdL,u8,ah,ai,aq])
  all_goals first|rfl|skip
 ·rintro⟨u,x,y⟩ ⟨hu,hx,hy,hq⟩ R hR;simp only at hu hx hy hq
  by_cases h1:y=0
  ·subst h1;rw[Nat.pow_zero,dP,bA hu]at hq;repeat' first|simp only[go_sem,seval]|refine sB ?_|(first|apply pX|apply bX)<;>intro hc|refine⟨oD,?_⟩|exact oD|fail
   rw[hq]
  ·have a1:=pH hu hx hm;have a2:=pH hx hx hm;have hm1:u*x%m<m:=aG _ h0;have hm2:x*x%m<m:=aG _ h0;have hy2:((y:Int)).tmod 2=((y%2:Nat):Int):=rfl;have hyd:y/2≤y:=dR _ _;rcases(show y%2=1∨y%2=0 by omega)with g|g
   ·have hgo:=hR (u*x%m,x*x%m,y/2) ⟨hm1,hm2,by show y/2< _;omega,by show u*x%m*(x*x%m)^(y/2)%m= _;rw[KA g,hq]⟩ (by show y/2<y;omega)
    clear hq hR;repeat' first|simp only[go_sem,seval,hy2,g]|refine cP a1 ?_|refine cP a2 ?_|refine sB ?_|(first|apply pX|apply bX)<;>intro hc|refine⟨oD,?_⟩|exact oD|fail
    refine hgo _ ?_;exact lE
   ·have hgo:=hR (u,x*x%m,y/2) ⟨hu,hm2,by show y/2< _;omega,by show u*(x*x%m)^(y/2)%m= _;rw[FJ g,hq]⟩ (by show y/2<y;omega)
    clear hq hR;repeat' first|simp only[go_sem,seval,hy2,g]|refine cP a1 ?_|refine cP a2 ?_|refine sB ?_|(first|apply pX|apply bX)<;>intro hc|refine⟨oD,?_⟩|exact oD|fail
    refine hgo _ ?_;exact lE
def PD (n:Nat):Nat→Nat→Bool
 |0,_=>false
 |r+1,x=>x==n-1||PD n r (x*x%n)
theorem Lm (n:Nat): ∀r x,PD n (r+1) x=(x==n-1||PF r x n)
 |0,x=>rfl
 |r+1,x=>by rw[PD,Lm n r];rfl
theorem D7 {n a:Nat} (hn:n<18446744073709551616) (h3:3≤n) (hodd:n%2=1) (ha:a<n) (ha0:a≠0):aD Tryz.prog 140 [.i .u64 n, .i .u64 a] (.b (mA n (CX 64 (n-1)) ((n-1)/2^CX 64 (n-1)) a)):=by
 have e1: ∀ _:True,((n:Int)-1)=((n-1:Nat):Int):=fun _=>by omega
 have e2:(n:Int).tmod 2=((n%2:Nat):Int):=rfl;obtain⟨T,hT⟩: ∃T,T=CX 64 (n-1):=⟨_,rfl⟩;rw[←hT];have hT0:T≠0:=by
  rw[hT];unfold CX;rw[if_neg (by omega)];omega
 refine eW Tryz.call140 Tryz.func140 ?_;repeat' first|simp only[go_sem,seval,e1 trivial,e2,hodd]|refine sB ?_|(first|apply pX|apply bX)<;>intro hc|refine⟨oD,?_⟩|exact oD|fail
 refine aj (α:=Nat×Nat) (fun s=>s.1) (fun s=>⟨[(0,U n),(1,U a),(5,U s.1),(6,E' s.2)],[],_⟩) (fun s=>0<s.1∧s.1<18446744073709551616∧s.2≤64∧s.1<2^(64-s.2)∧s.1=(n-1)/2^s.2∧CX (64-s.2) s.1+s.2=T) (n-1,0) (fun _=>au _) ⟨by show 0<n-1;omega,by show n-1< _;omega,by show 0≤64;omega,by show n-1<2^64;omega,by show n-1= _;rw[Nat.pow_zero,iY],by rw[hT];rfl⟩ ?_ ?_
 ·exact lE
 ·rintro⟨d,s⟩ ⟨hd0,hd1,hs,hds,hde,ht⟩ R hR;simp only at hd0 hd1 hs hds hde ht;have ed:(d:Int).tmod 2=((d%2:Nat):Int):=rfl;have hs64:s<64:=by
   rcases ny s 64 with g|g
   ·exact g
   ·obtain rfl:s=64:=by omega
    simp at hds;omega
  obtain⟨f,hf⟩: ∃f,64-s=f+1:=⟨63-s,by omega⟩
  rw[hf]at hds ht;unfold CX at ht
  by_cases hev:d%2=0
  ·rw[if_neg (by omega)]at ht
   have hdl:d/2≤d:=dR _ _;have hgo:=hR (d/2,s+1) ⟨by show 0<d/2;omega,by show d/2< _;omega,by show s+1≤64;omega,by
    show d/2<2^(64-(s+1));rw[show 64-(s+1)=f by omega];rw[Nat.pow_succ]at hds;omega,by
    show d/2=(n-1)/2^(s+1);rw[Nat.pow_succ,←dZ,←hde],by
    show CX (64-(s+1)) (d/2)+(s+1)=T;rw[show 64-(s+1)=f by omega];omega⟩ (by show d/2<d;omega)
   clear hR ht;repeat' first|simp only[go_sem,seval,ed,hev]|refine sB ?_|(first|apply pX|apply bX)<;>intro hc|refine⟨oD,?_⟩|exact oD|fail
   refine hgo _ ?_;exact lE
  ·have hev:d%2=1:=by omega
   rw[if_pos hev,cW]at ht;subst ht;rw[←hde];have hx:=D4 (a:=a) (e:=d) (m:=n) ha hd1 hn;have es:mA n s d a=(a^d%n==1||PD n s (a^d%n)):=by
    unfold mA;rw[bA ha];obtain⟨r,hr⟩: ∃r,s=r+1:=⟨s-1,by omega⟩
    rw[hr,Lm,kn,Bool.or_assoc]
   rw[es];obtain⟨x,hxx⟩: ∃x,x=a^d%n:=⟨_,rfl⟩;have hxl:x<n:=by rw[hxx];exact aG _ (by omega)
   rw[←hxx]at hx⊢;clear hR es hde hxx
   by_cases hx1:x=1
   ·subst hx1;repeat' first|simp only[go_sem,seval,ed,hev]|refine cP hx ?_|refine sB ?_|(first|apply pX|apply bX)<;>intro hc|refine⟨oD,?_⟩|exact oD|fail
    all_goals skip
   have hb1:(x==1)=false:=by simpa using hx1
   have hb2:((x:Int)==1)=false:=by rw[beq_eq_false_iff_ne];omega
   rw[hb1,mb];repeat' first|simp only[go_sem,seval,ed,hev,hb2]|refine cP hx ?_|refine sB ?_|(first|apply pX|apply bX)<;>intro hc|refine⟨oD,?_⟩|exact oD|fail
   refine aj (α:=Nat×Nat) (fun s'=>s-s'.1) (fun s'=>⟨[(0,U n),(6,E' s),(7,U s'.2),(8,E' s'.1)],[],_⟩) (fun s'=>s'.1≤s∧s'.2<n∧PD n (s-s'.1) s'.2=PD n s x) (0,x) (fun _=>au _) ⟨aL _,hxl,rfl⟩ ?_ ?_
   ·exact lE
   ·rintro⟨i,z⟩ ⟨hi,hz,hq⟩ R hR;simp only at hi hz hq;rw[←hq]
    by_cases hlt:i<s
    ·have hmm:=pH hz hz hn;have hzz:z*z%n<n:=aG _ (by omega)
     obtain⟨r,hr⟩: ∃r,s-i=r+1:=⟨s-i-1,by omega⟩
     have hgo:=hR (i+1,z*z%n);rw[hr]at hq⊢;simp only[PD]at hq⊢
     by_cases hzn:z=n-1
     ·have hb: ∀ _:True,((z:Int)==((n-1:Nat):Int))=true:=fun _=>by rw[hzn];simp
      have hb':(z==n-1)=true:=by simpa using hzn
      rw[hb',oM];clear hq hgo hR;repeat' first|simp only[go_sem,seval,e1 trivial,hb trivial]|refine sB ?_|(first|apply pX|apply bX)<;>intro hc|refine⟨oD,?_⟩|exact oD|fail
     ·have hb: ∀ _:True,((z:Int)==((n-1:Nat):Int))=false:=fun _=>by rw[beq_eq_false_iff_ne];omega
      have hb':(z==n-1)=false:=by simpa using hzn
      rw[hb',mb]at hq⊢;rw[←hq]at hgo;have hgo:=hgo ⟨by show i+1≤s;omega,hzz,by show PD n (s-(i+1)) _= _;rw[show s-(i+1)=r by omega]⟩ (by show s-(i+1)<s-i;omega)
      clear hq hR;repeat' first|simp only[go_sem,seval,e1 trivial,hb trivial]|refine cP hmm ?_|refine sB ?_|(first|apply pX|apply bX)<;>intro hc|refine⟨oD,?_⟩|exact oD|fail
      refine hgo _ ?_;exact lE
    ·obtain rfl:i=s:=by omega
     rw[fh];repeat' first|simp only[go_sem,seval]|refine sB ?_|(first|apply pX|apply bX)<;>intro hc|refine⟨oD,?_⟩|exact oD|fail
     all_goals rfl
theorem T5 {i:Nat} (h:i<12):(List.map (fun n:Nat=>PV.i .u64 (n:Int)) bz).getD i .fn0= .i .u64 (bz.getD i 0:Nat):=by
 have h2:i<bz.length:=h;simp[aX,h2]
theorem Oe {n:Nat} (hn:n<18446744073709551616):aD Tryz.prog 86 [.i .u64 n] (.b (dS n)):=by
 by_cases h2:n<2
 ·have e:dS n=false:=by simp[dS,h2]
  rw[e];refine eW Tryz.call86 Tryz.func86 ?_;repeat' first|simp only[go_sem,seval]|refine sB ?_|(first|apply pX|apply bX)<;>intro hc|refine⟨oD,?_⟩|exact oD|fail
 obtain⟨B,hB⟩: ∃B,B=List.map (fun n:Nat=>PV.i .u64 (n:Int)) bz:=⟨_,rfl⟩
 have hBl:B.length=12:=by rw[hB];rfl
 have hBe: ∀ _:True,[PV.i .u64 2, .i .u64 3, .i .u64 5, .i .u64 7, .i .u64 11, .i .u64 13, .i .u64 17, .i .u64 19, .i .u64 23, .i .u64 29, .i .u64 31, .i .u64 37]=B:=fun _=>by rw[hB];rfl
 have hBc: ∀x∈B,x.cells.length=1:=by
  rw[hB];intro x hx;obtain⟨c,-,rfl⟩:=a5.1 hx;rfl
 have hBg: ∀{i:Nat},i<12→B.getD i .fn0= .i .u64 (bz.getD i 0:Nat):=fun h=>by rw[hB];exact T5 h
 clear hB;refine eW Tryz.call86 Tryz.func86 ?_;repeat' first|simp only[go_sem,seval,hBe trivial]|refine sB ?_|(first|apply pX|apply bX)<;>intro hc|refine⟨oD,?_⟩|exact oD|fail
 refine aj (α:=Nat) (fun i=>12-i) (fun i=>⟨[(0,U n),(3, .fs B),(4,E' i)],[],_⟩) (fun i=>i≤12∧bz.find? (fun p=>n%p==0)=(bz.drop i).find? (fun p=>n%p==0)) 0 (fun _=>au _) ⟨by omega,rfl⟩ ?_ ?_
 ·exact lE
 ·rintro i ⟨hi,hf⟩ R hR
  by_cases hlt:i<12
  ·have g1:=hBg hlt;obtain⟨q0,q1⟩:=MC hlt;rw[EN hlt]at hf;have hmc: ∀q:Nat,(n:Int).tmod (q:Int)=((n%q:Nat):Int):=fun q=>rfl
   generalize bz.getD i 0=q at*
   by_cases hq:n=q
   ·have hz:(n%q==0)=true:=by rw[hq];simp
    rw[List.find?_cons,hz]at hf;have e:dS n=true:=by
     unfold dS;rw[if_neg h2,hf];simpa using hq
    rw[e];repeat' first|simp only[go_sem,seval,hBl,g1,hmc]|refine sB ?_|(first|apply pX|apply bX)<;>intro hc|refine⟨oD,?_⟩|exact oD|fail
   ·by_cases hz0:n%q=0
    ·have hz:(n%q==0)=true:=by simpa using hz0
     rw[List.find?_cons,hz]at hf;have e:dS n=false:=by
      unfold dS;rw[if_neg h2,hf];simpa using hq
     rw[e];repeat' first|simp only[go_sem,seval,hBl,g1,hmc,hz0]|refine sB ?_|(first|apply pX|apply bX)<;>intro hc|refine⟨oD,?_⟩|exact oD|fail
    ·have hz:(n%q==0)=false:=by simpa using hz0
     rw[List.find?_cons,hz]at hf;have hgo:=hR (i+1) ⟨by omega,hf⟩ (by omega)
     repeat' first|simp only[go_sem,seval,hBl,g1,hmc]|refine sB ?_|(first|apply pX|apply bX)<;>intro hc|refine⟨oD,?_⟩|exact oD|fail
     refine hgo _ ?_;exact lE
  ·obtain rfl:i=12:=by omega
   have hf:bz.find? (fun p=>n%p==0)=none:=hf
   have hnd: ∀q∈bz,n%q≠0:=fun q hq=>by simpa using List.find?_eq_none.1 hf q hq
   have key:dS n=bz.all (mA n (CX 64 (n-1)) ((n-1)/2^CX 64 (n-1))):=by
    unfold dS;rw[if_neg h2,hf]
   have h37:37<n:=by
    rcases ny 37 n with g|g
    ·exact g
    ·exfalso
     have: ∀k:Fin 38,2≤k.val→ ∃q∈bz,k.val%q=0:=by decide
     obtain⟨q,hq1,hq2⟩:=this ⟨n,by omega⟩ (by show 2≤n;omega)
     exact hnd q hq1 hq2
   have hodd:n%2=1:=by have:=hnd 2 (by decide);omega
   rw[key];have hst:=fun a (h1:a<38) (h0:a≠0)=>D7 (a:=a) hn (by omega) hodd (by omega) h0
   clear key hf hnd hR;generalize mA n (CX 64 (n-1)) ((n-1)/2^CX 64 (n-1))=st at*;repeat' first|simp only[go_sem,seval,hBl]|refine sB ?_|(first|apply pX|apply bX)<;>intro hc|refine⟨oD,?_⟩|exact oD|fail
   refine aj (α:=Nat) (fun i=>12-i) (fun i=>⟨[(0,U n),(3, .fs B),(5,E' i)],[],_⟩) (fun i=>i≤12∧bz.all st=(bz.drop i).all st) 0 (fun _=>au _) ⟨by omega,rfl⟩ ?_ ?_
   ·exact lE
   ·rintro i ⟨hi,hf⟩ R hR
    by_cases hlt:i<12
    ·have g1:=hBg hlt;obtain⟨q0,q1⟩:=MC hlt;rw[EN hlt,List.all_cons]at hf;have hR1:=hR (i+1);generalize bz.getD i 0=q at*;have hs:=hst q q1 (by omega)
     cases hsq:st q
     ·rw[hsq]at hs hf;rw[hf,ec];repeat' first|simp only[go_sem,seval,hBl,g1]|refine cP hs ?_|refine sB ?_|(first|apply pX|apply bX)<;>intro hc|refine⟨oD,?_⟩|exact oD|fail
     ·rw[hsq]at hs hf;rw[bZ]at hf;have hgo:=hR1 ⟨by omega,hf⟩ (by omega)
      repeat' first|simp only[go_sem,seval,hBl,g1]|refine cP hs ?_|refine sB ?_|(first|apply pX|apply bX)<;>intro hc|refine⟨oD,?_⟩|exact oD|fail
      refine hgo _ ?_;exact lE
    ·obtain rfl:i=12:=by omega
     have e:bz.all st=true:=hf;rw[e];repeat' first|simp only[go_sem,seval,hBl]|refine sB ?_|(first|apply pX|apply bX)<;>intro hc|refine⟨oD,?_⟩|exact oD|fail
theorem D6 (a:Bytes) (la:a.length<1099511627776):aD Tryz.prog 37 [.s a] (.tup [.b (aa a&&decide (a.length≤8)&&dS (num a)),E (if aa a then(if a.length≤8 then 0 else 5)else 3)]):=by
 have hf:=D5 a;have hu:=Ua a la
 by_cases hv:aa a=true
 ·rw[hv]at hf⊢
  by_cases h8:a.length≤8
  ·have hn:=ep h8;rw[decide_eq_true h8,bA hn]at hu;have hi:=Oe hn;rw[decide_eq_true h8,if_pos rfl,if_pos h8];generalize dS (num a)=b at*;refine eW Tryz.call37 Tryz.func37 ?_;repeat' first|simp only[go_sem,seval]|refine cP hf ?_|refine cP hu ?_|refine cP hi ?_|refine sB ?_|(first|apply pX|apply bX)<;>intro hc|refine⟨oD,?_⟩|exact oD|fail
   all_goals simp_all
  ·rw[decide_eq_false h8]at hu⊢;rw[if_pos rfl,if_neg h8];refine eW Tryz.call37 Tryz.func37 ?_;repeat' first|simp only[go_sem,seval]|refine cP hf ?_|refine cP hu ?_|refine sB ?_|(first|apply pX|apply bX)<;>intro hc|refine⟨oD,?_⟩|exact oD|fail
   all_goals simp_all
 ·have hv:aa a=false:=by simpa using hv
  rw[hv]at hf⊢;refine eW Tryz.call37 Tryz.func37 ?_;repeat' first|simp only[go_sem,seval]|refine cP hf ?_|refine sB ?_|(first|apply pX|apply bX)<;>intro hc|refine⟨oD,?_⟩|exact oD|fail
  all_goals simp_all
end Go.Proofs.YtmobkhegihemeaaGreatDoor
