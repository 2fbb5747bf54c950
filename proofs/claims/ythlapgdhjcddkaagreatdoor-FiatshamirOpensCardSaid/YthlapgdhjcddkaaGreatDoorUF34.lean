/- Part of the proof. -/
import Derived.Test.YthlapgdhjcddkaaGreatDoorUF26
import Derived.Test.YthlapgdhjcddkaaGreatDoorUF33
set_option linter.all false
set_option maxHeartbeats 16000000
set_option maxRecDepth 100000
namespace Go.Proofs.Tryz
open Go Go.Dom
variable {a b:Nat}
theorem JN (a:Bytes):aH 396 [.s a] (.tup [.s (if a.length<=128 then a else[]),E (if a.length<=128 then 0 else 5)]):=by
 refine eW call396 func396 ?_;repeat' first|simp only[go_sem,seval]|refine oE ?_|apply xX<;>intro hc
 ·have h: ¬a.length<=128:=oO;simp[h]
 ·have h:a.length<=128:=oO;simp[h]
theorem TL (a b:Bytes):aH 370 [.s a, .s b] (.tup [.s (xV a b).1,E (xV a b).2]):=by
 by_cases hv:ae a=true/\ae b=true
 case neg=>
  refine eW call370 func370 ?_;repeat' first|simp only[go_sem,seval]|refine cP (aU _) ?_|refine oE ?_|apply xX<;>intro hc
  all_goals simp_all[xV]
 have la:=eU hv.1;have lb:=eU hv.2;have hp:=rX a b oO oO;refine eW call370 func370 ?_;repeat' first|simp only[go_sem,seval]|refine cP (aU _) ?_|refine cP hp ?_|refine cP (JN _) ?_|refine oE ?_|apply xX<;>intro hc
 all_goals simp only[ov,xV,hv.1,hv.2,dF,aC]
 all_goals (split<;>simp_all)
theorem Ia (a b:Bytes):aH 395 [.s a, .s b] (.tup [.s (uu a b).1, .s (uu a b).2.1,E (uu a b).2.2]):=by
 by_cases hv:ae a=true/\ae b=true
 case neg=>
  refine eW call395 func395 ?_;repeat' first|simp only[go_sem,seval]|refine cP (aU _) ?_|refine oE ?_|apply xX<;>intro hc
  all_goals simp_all[uu]
 have la:=eU hv.1;have lb:=eU hv.2
 by_cases h0:b=[]
 ·subst h0;refine eW call395 func395 ?_;repeat' first|simp only[go_sem,seval,nn]|refine cP (aU _) ?_|refine oE ?_|apply xX<;>intro hc
  all_goals simp_all[uu]
 have hp:=ow (bJ hv.2) h0;have ho:=uR (bJ hv.1) (bJ hv.2) hp oO oO;refine eW call395 func395 ?_;repeat' first|simp only[go_sem,seval]|refine cP (aU _) ?_|refine cP ho ?_|refine oE ?_|apply xX<;>intro hc
 all_goals simp_all[uu]
theorem wW (a:Bytes):aH 368 [.s a] (.tup [.i .u64 (if ae a&&decide (a.length<=8)then num a else 0), .b (ae a&&decide (a.length<=8))]):=by
 by_cases h:ae a=true/\a.length<=8
 ·have hu:=uT a h.2;refine eW call368 func368 ?_;repeat' first|simp only[go_sem,seval]|refine cP (aU _) ?_|refine cP hu ?_|refine oE ?_|apply xX<;>intro hc
  all_goals simp_all
 ·refine eW call368 func368 ?_;repeat' first|simp only[go_sem,seval]|refine cP (aU _) ?_|refine oE ?_|apply xX<;>intro hc
  all_goals simp_all
  all_goals omega
theorem Lw {a:Bytes} (h:ae a=true):aH 399 [.s a] (E (dG (num a))):=by
 have la:=eU h;have hb:=A9 (bJ h) oO;refine eW call399 func399 ?_;repeat' first|simp only[go_sem,seval]|refine cP (aU _) ?_|refine cP hb ?_|refine oE ?_|apply xX<;>intro hc
 all_goals simp_all
theorem TI {a:Bytes} (h:ae a=true) (i:Nat) (hi:i<1099511627776):aH 400 [.s a,E i] (.b ((num a).testBit i)):=by
 have la:=eU h;have hb:=A9 (bJ h) oO;have ho:=JP a i oO hi;have hv:=aU a;rw[h]at hv;have hlt: ¬i<dG (num a)->(num a).testBit i=false:=by
  intro g;rw[l9,iZ (bM (uf _) (dp oC oO))];rfl
 generalize (num a).testBit i=tb at*;refine eW call400 func400 ?_;repeat' first|simp only[go_sem,seval]|refine cP hv ?_|refine cP hb ?_|refine cP ho ?_|refine oE ?_|apply xX<;>intro hc
 all_goals simp_all
 all_goals (first|omega|skip)
theorem Px (ha:a<ek) (hb:b<ek):aH 329 [N a,N b] (N (Nat.gcd a b)):=by
 have hlim: ∀{x:Nat},x<ek->(b7 x).length<1048576:=fun h=>by have:=ov.2 h;omega
 refine eW call329 func329 ?_;simp only[go_sem,seval];refine ah (α:=Nat×Nat) (fun x=>x.2) (fun x=>⟨[(0, .v (N x.1)),(1, .v (N x.2))],[],_⟩) (fun x=>x.1<ek/\x.2<ek/\Nat.gcd x.1 x.2=Nat.gcd a b) (a,b) (fun _=>aA _) ⟨ha,hb,rfl⟩ ?_ ?_
 ·exact lE
 ·rintro⟨x,y⟩ ⟨hx,hy,hg⟩ R hR;simp only at hx hy hg
  by_cases h0:y=0
  ·subst h0;refine dw @HV ?_;rw[<-hg,EL]
  ·have e:=tF h0;have hd:=uR (iF x) (iF y) (by rw[bG];omega) (hlim hx) (hlim hy)
   rw[bG,bG]at hd;refine gR @e @hd ?_;have hm:x%y<y:=aV _ oO;refine hR (y,x%y) ⟨hy,by show x%y< _;omega,?_⟩ hm _ ?_
   ·show Nat.gcd y (x%y)= _;rw[<-hg,lB x y,mQ y x,lB]
   ·exact lE
theorem U8 (h:a*b<ek) (ha:a<ek) (hb:b<ek):aH 370 [N a,N b] (.tup [N (a*b),E 0]):=by
 have:=TL (b7 a) (b7 b);simp only[xV,vB ha,vB hb,dF,aC,bG,h]at this;exact this
theorem rf (ha:a<ek) (hb:b<ek) (h0:0<b):aH 395 [N a,N b] (.tup [N (a/b),N (a%b),E 0]):=by
 have:=Ia (b7 a) (b7 b);have e:b7 b≠[]:=fun h=>by rw[jh]at h;omega
 simpa only[uu,vB ha,vB hb,dF,aC,e,aB,bG]using this
theorem jW (n:Bool) (a:Bytes):aH 97 [.agg [.b n, .s a]] (.b (ae a&& !(n&&a==[]))):=by
 have hv:=aU a;refine eW call97 func97 ?_;exact zs1 @hv
theorem pL:(2^64)<=ek:=by unfold ek;decide+kernel
theorem uP {a m:Nat} (ha:a<ek) (hm:m<ek) (h0:0<m):aH 369 [N a,N m] (N (a%m)):=by
 have hd:=rf ha hm h0;refine eW call369 func369 ?_;exact z1 @hd
theorem U7 (a b m:Bytes):aH 330 [.sl [.s a, .s b, .s m]] (E (uo [a,b] m)):=by
 have va:=aU a;have vb:=aU b;have vm:=aU m;refine eW call330 func330 ?_;repeat' first|simp only[go_sem,seval,kO,gA]|refine cP va ?_|refine cP vb ?_|refine cP vm ?_|(refine aq ?_)|refine oE ?_|apply xX<;>intro hc
 all_goals simp_all[uo]
theorem DY {a b m:Nat} (ha:a<(2^64)) (hb:b<(2^64)) (hm:m<(2^64)) (h0:0<m):aH 331 [N a,N b,N m] (N (a*b%m)):=by
 have w2:=pL;have hs:=wW (b7 m);rw[vB (show m<ek by omega),aQ (lN hm),bG]at hs
 have d1:=uP (a:=a) (m:=m) oO oO h0;have d2:=uP (a:=b) (m:=m) oO oO h0;have l1:=aV a h0;have l2:=aV b h0;have s1:=wW (b7 (a%m));rw[vB (show a%m<ek by omega),aQ (lN (show a%m<(2^64) by omega)),bG]at s1
 have s2:=wW (b7 (b%m));rw[vB (show b%m<ek by omega),aQ (lN (show b%m<(2^64) by omega)),bG]at s2
 have hmul:a%m*(b%m)<(2^64)*(2^64):=fT oO oO;have hlm:(2^64)*(2^64)<=ek:=by unfold ek;decide+kernel
 have hp:=U8 (a:=a%m) (b:=b%m) oO oO oO;have d3:=uP (a:=a%m*(b%m)) (m:=m) oO oO h0;rw[<-db]at d3;have hl3:=aV (a*b) h0
 by_cases hsm:m<2147483648
 ·have ho:=nN (a*b%m) oO;have hlt:a%m*(b%m)<(2^64):=by
   have:a%m*(b%m)<2147483648*2147483648:=fT oO oO;omega
  have hw: ∀ _:True,IntKind.u64.wrap (((a%m:Nat):Int)*((b%m:Nat):Int))=((a%m*(b%m):Nat):Int):=fun _=>by
   rw[<-Int.natCast_mul,IntWalk.u64_in _ oO]
  have hmm: ∀ _:True,((a%m*(b%m):Nat):Int).tmod (m:Int)=((a*b%m:Nat):Int):=fun _=>by
   rw[db];rfl
  clear hp d3 hmul hlm;generalize a%m=u at*;generalize b%m=v at*;refine eW call331 func331 ?_;repeat' first|simp only[go_sem,seval,aC,hw oT,hmm oT]|refine cP hs ?_|refine cP d1 ?_|refine cP d2 ?_|refine cP s1 ?_|refine cP s2 ?_|refine cP ho ?_|refine oE ?_|apply xX<;>intro hc
 ·clear hmul hlm;refine eW call331 func331 ?_;repeat' first|simp only[go_sem,seval,aC]|refine cP hs ?_|refine cP d1 ?_|refine cP d2 ?_|refine cP hp ?_|refine cP d3 ?_|refine oE ?_|apply xX<;>intro hc
theorem wV {a m:Nat} {e:Bytes} (ha:a<(2^64)) (he:ae e=true) (hm:m<(2^64)) (h0:0<m):aH 372 [N a, .s e,N m] (N (a^num e%m)):=by
 have w2:=pL;have ho:=nN 1 oC;have d1:=uP (a:=1) (m:=m) oO oO h0;have hb:=Lw he;have hbi:=fun i hi=>TI he i hi
 obtain⟨n,hn⟩: ∃n,n=num e:=⟨_,rfl⟩;have hbl:dG n<1000000:=by
  have h1:n<2^1024:=by
   rw[hn];refine bM (cO e) ?_;have le:=eU he;exact fw (dp oC le) (by decide+kernel)
  by_cases hz:n=0
  ·rw[hz];decide
  ·obtain⟨g1,g2⟩:=ue hz;have:=(si (by decide:1<2)).1 (eR g1 h1)
   omega
 rw[<-hn]at hb hbi⊢;have hb2:n/2^dG n=0:=iZ (uf n);clear hn;refine eW call372 func372 ?_;repeat' first|simp only[go_sem,seval]|refine cP ho ?_|refine cP d1 ?_|refine cP hb ?_|refine oE ?_|apply xX<;>intro hc
 refine ah (α:=Nat) (fun k=>k) (fun k=>⟨[(0, .v (N a)),(1, .v (.s e)),(2, .v (N m)),(7, .v (N (a^(n/2^k)%m))),(8, .v (.i .i64 ((k:Int)-1)))],[],_⟩) (fun k=>k<=dG n) (dG n) (fun _=>aA _) (aA _) ?_ ?_
 ·(refine AS.Le.of (by first|decide|omega) ?_ ?_<;>simp[cU,cT,aO,az,AV.bd,AV.bd.bdL,u8,aj,ak,an])
  rw[hb2,Nat.pow_zero]
 ·intro k hk R hR
  cases k with
  |zero=>
   refine ye ?_;rw[jx]
  |succ k=>
   obtain⟨x,hx⟩: ∃x,x=a^(n/2^(k+1))%m:=⟨_,rfl⟩;have hxm:x<m:=by rw[hx];exact aV _ h0
   have hxx:x*x%m<m:=aV _ h0;have t1:=DY (a:=x) (b:=x) oO oO hm h0;have t2:=DY (a:=x*x%m) (b:=a) oO ha hm h0;have hbit:=hbi k oO;rw[l9]at hbit;have hdd:=FP n k;have hw0: ∀ _:True,((k+1:Nat):Int)-1=(k:Int):=fun _=>oO
   have hge0: ∀ _:True,decide ((k:Int)>=0)=true:=fun _=>by simp
   rw[<-hx];repeat' first|simp only[go_sem,seval,hw0 oT,hge0 oT]|refine cP t1 ?_|refine cP t2 ?_|refine cP hbit ?_|refine oE ?_|apply xX<;>intro hc
   ·have ez:x*x%m*a%m=a^(n/2^k)%m:=by
     have e3:x*x%m=a^(n/2^(k+1))*a^(n/2^(k+1))%m:=by rw[hx,<-db]
     rw[e3,jt,<-dD,<-Nat.pow_succ];congr 2;omega
    refine hR k oO oO _ ?_;rw[<-ez];exact lE
   ·have ez:x*x%m=a^(n/2^k)%m:=by
     rw[hx,<-db,<-dD];congr 2;omega
    refine hR k oO oO _ ?_;rw[<-ez];exact lE
theorem aaz {a m:Nat} {e:Bytes} (ha:a<(2^64)) (he:ae e=true) (hm:m<(2^64)) (h0:0<m):aH 367 [N a, .s e,N m] (.tup [N (a^num e%m),E 0]):=by
 have hc:=U7 (b7 a) e (b7 m);rw[Cd ha he hm h0]at hc;have hr:=wV ha he hm h0;refine eW call367 func367 ?_;exact z2 @hc @hr
end Go.Proofs.Tryz
namespace Go.Proofs.Tryz
open Go Go.Dom Go.Num
theorem Ic (a:Bytes):aH 257 [.s a] (.b (ae a)):=by
 rw[xj];refine eW call257 func257 ?_;repeat' first|simp only[go_sem,seval]|refine oE ?_|apply xX<;>intro hc
 all_goals simp_all
 all_goals first|omega|(cases a<;>simp_all)
theorem DO {a:Bytes} {i:Nat} (h:i<a.length):(num (a.take i)%(2^64)*256%(2^64)+(a.getD i 0).toNat)%(2^64)=num (a.take (i+1))%(2^64):=by
 rw[lV h];omega
theorem aaC (a:Bytes) (la:a.length<1099511627776):aH 258 [.s a] (.tup [.i .u64 (num a%(2^64):Nat), .b (decide (a.length<=8))]):=by
 refine eW call258 func258 ?_;refine pO ?_;refine ah (α:=Nat) (fun i=>a.length-i) (fun i=>⟨[(0, .v (.s a)),(4, .v (.i .u64 (num (a.take i)%(2^64):Nat))),(5, .v (.i .i64 i))],[],_⟩) (fun i=>i<=a.length) 0 (fun _=>aA _) (aD _) ?_ ?_
 ·(refine AS.Le.of (by first|decide|omega) ?_ ?_<;>simp[cU,cT,aO,az,AV.bd,AV.bd.bdL,u8,aj,ak,an])
  all_goals rfl
 ·intro i hi R hR
  by_cases hlt:i<a.length
  ·have h1:=DO hlt;have hgo:=hR (i+1) oO oO;rw[<-h1]at hgo;clear h1 hR;obtain⟨u,hu⟩: ∃u,u=num (a.take i)%(2^64):=⟨_,rfl⟩;have hul:u<(2^64):=by rw[hu];exact aV _ oC
   rw[<-hu]at hgo⊢;have hw1: ∀ _:True,IntKind.u64.wrap ((u:Int)*256)=((u*256%(2^64):Nat):Int):=fun _=>by rw[BT];omega
   have hw2: ∀x:Nat,IntKind.u64.wrap (((u*256%(2^64):Nat):Int)+(x:Int))=(((u*256%(2^64)+x)%(2^64):Nat):Int):=fun x=>by rw[BT];omega
   have hwb: ∀c:UInt8,IntKind.u64.wrap ((c.toNat:Nat):Int)=((c.toNat:Nat):Int):=fun c=>IntWalk.u64_in _ (by have:=c.toNat_lt;omega)
   exact gH (aN (hw1 oT) (aN @hw2 @hwb)) @hgo
  ·obtain rfl:i=a.length:=oO;rw[bm];have hd:decide ((a.length:Int)<=8)=decide (a.length<=8):=by rw[cu];simp only[a8];omega
   exact fz @hd
theorem A8 {a b m:Nat} (ha:a<m) (hb:b<m) (hm:m<(2^64)):aH 394 [.i .u64 a, .i .u64 b, .i .u64 m] (.i .u64 ((a+b)%m:Nat)):=by
 by_cases h:m<=a+b
 ·have e:(a+b)%m=a+b-m:=by rw[Nat.mod_eq_sub_mod h,bV oO]
  rw[e];refine eW call394 func394 ?_;repeat' first|simp only[go_sem,seval]|refine oE ?_|apply xX<;>intro hc
  all_goals first|rfl|(congr 1;omega)
 ·have e:(a+b)%m=a+b:=bV oO;rw[e];refine eW call394 func394 ?_;repeat' first|simp only[go_sem,seval]|refine oE ?_|apply xX<;>intro hc
  all_goals first|rfl|(congr 1;omega)
theorem tK {a b m:Nat} (ha:a<m) (hb:b<m) (hm:m<(2^64)):aH 365 [.i .u64 a, .i .u64 b, .i .u64 m] (.i .u64 (a*b%m:Nat)):=by
 by_cases h32:m<4294967296
 ·have hlt:a*b<4294967296*4294967296:=fT oO oO;have hw: ∀ _:True,IntKind.u64.wrap ((a:Int)*(b:Int))=((a*b:Nat):Int):=fun _=>by rw[<-Int.natCast_mul,IntWalk.u64_in _ oO]
  clear hlt;refine eW call365 func365 ?_;repeat' first|simp only[go_sem,seval,hw oT]|refine oE ?_|apply xX<;>intro hc
  all_goals skip
 ·refine eW call365 func365 ?_;refine pO ?_;refine ah (α:=Nat×Nat×Nat) (fun s=>s.2.2) (fun s=>⟨[(0,U s.2.1),(1,U s.2.2),(2,U m),(7,U s.1)],[],_⟩) (fun s=>s.1<m/\s.2.1<m/\s.2.2<(2^64)/\(s.1+s.2.1*s.2.2)%m=a*b%m) (0,a,b) (fun _=>aA _) ⟨by show 0<m;omega,ha,by show b< _;omega,by simp⟩ ?_ ?_
  ·exact lE
  ·rintro⟨u,x,y⟩ ⟨hu,hx,hy,he⟩ R hR;simp only at hu hx hy he
   by_cases h0:y=0
   ·subst h0;rw[Nat.mul_zero,Nat.add_zero,bV hu]at he;refine ye ?_;rw[he]
   ·have a1:=A8 hu hx hm;have a2:=A8 hx hx hm;have hm1:(u+x)%m<m:=aV _ oO;have hm2:(x+x)%m<m:=aV _ oO;have hy2:((y:Int)).tmod 2=((y%2:Nat):Int):=rfl;have hyd:y/2<=y:=fx _ _;have hxx: ∀k,(x+x)%m*k%m=x*(2*k)%m:=fun k=>by rw[jt,<-sw,cv 2 x,de]
    rcases(show y%2=1\/y%2=0 by omega)with g|g
    ·have he2:((u+x)%m+(x+x)%m*(y/2))%m=a*b%m:=by
      rw[<-he,jP,hxx,eQ,<-jP];have:x*y=x+x*(2*(y/2)):=by
       have:y=1+2*(y/2):=oO
       conv=>lhs;rw[this,kN,dr]
      rw[this];congr 1;omega
     have hgo:=hR ((u+x)%m,(x+x)%m,y/2) ⟨hm1,hm2,by show y/2< _;omega,he2⟩ (by show y/2<y;omega)
     clear he he2 hR hxx;exact yd (aN @hy2 @g) @hgo @a1 @a2
    ·have he2:(u+(x+x)%m*(y/2))%m=a*b%m:=by
      rw[<-he,jP,hxx,<-jP];have:x*y=x*(2*(y/2)):=by congr 1;omega
      rw[this]
     have hgo:=hR (u,(x+x)%m,y/2) ⟨hu,hm2,by show y/2< _;omega,he2⟩ (by show y/2<y;omega)
     clear he he2 hR hxx;exact yd (aN @hy2 @g) @hgo @a1 @a2
theorem Ib {a e m:Nat} (ha:a<m) (he:e<(2^64)) (hm:m<(2^64)):aH 364 [.i .u64 a, .i .u64 e, .i .u64 m] (.i .u64 (a^e%m:Nat)):=by
 have h0:0<m:=oO;have e1:(1:Int).tmod (m:Int)=((1%m:Nat):Int):=rfl;refine eW call364 func364 ?_;refine dh @e1 ?_;refine ah (α:=Nat×Nat×Nat) (fun s=>s.2.2) (fun s=>⟨[(0,U s.2.1),(1,U s.2.2),(2,U m),(7,U s.1)],[],_⟩) (fun s=>s.1<m/\s.2.1<m/\s.2.2<(2^64)/\s.1*s.2.1^s.2.2%m=a^e%m) (1%m,a,e) (fun _=>aA _) ⟨aV _ h0,ha,he,by show 1%m*a^e%m= _;rw[jt,iL]⟩ ?_ ?_
 ·(refine AS.Le.of (by first|decide|omega) ?_ ?_<;>simp[cU,cT,aO,az,AV.bd,AV.bd.bdL,u8,aj,ak,an])
  all_goals first|rfl|skip
 ·rintro⟨u,x,y⟩ ⟨hu,hx,hy,hq⟩ R hR;simp only at hu hx hy hq
  by_cases h1:y=0
  ·subst h1;rw[Nat.pow_zero,dr,bV hu]at hq;refine ye ?_;rw[hq]
  ·have a1:=tK hu hx hm;have a2:=tK hx hx hm;have hm1:u*x%m<m:=aV _ h0;have hm2:x*x%m<m:=aV _ h0;have hy2:((y:Int)).tmod 2=((y%2:Nat):Int):=rfl;have hyd:y/2<=y:=fx _ _;rcases(show y%2=1\/y%2=0 by omega)with g|g
   ·have hgo:=hR (u*x%m,x*x%m,y/2) ⟨hm1,hm2,by show y/2< _;omega,by show u*x%m*(x*x%m)^(y/2)%m= _;rw[Pk g,hq]⟩ (by show y/2<y;omega)
    clear hq hR;exact yd (aN @hy2 @g) @hgo @a1 @a2
   ·have hgo:=hR (u,x*x%m,y/2) ⟨hu,hm2,by show y/2< _;omega,by show u*(x*x%m)^(y/2)%m= _;rw[JJ g,hq]⟩ (by show y/2<y;omega)
    clear hq hR;exact yd (aN @hy2 @g) @hgo @a1 @a2
def Ve (n:Nat):Nat->Nat->Bool
 |0,_=>false
 |r+1,x=>x==n-1||Ve n r (x*x%n)
theorem Qn (n:Nat): ∀r x,Ve n (r+1) x=(x==n-1||Vg r x n)
 |0,x=>rfl
 |r+1,x=>by rw[Ve,Qn n r];rfl
theorem Ih {n a:Nat} (hn:n<(2^64)) (h3:3<=n) (hodd:n%2=1) (ha:a<n) (ha0:a≠0):aH 324 [.i .u64 n, .i .u64 a] (.b (pd n (G2 64 (n-1)) ((n-1)/2^G2 64 (n-1)) a)):=by
 have e1: ∀ _:True,((n:Int)-1)=((n-1:Nat):Int):=fun _=>oO
 have e2:(n:Int).tmod 2=((n%2:Nat):Int):=rfl;obtain⟨T,hT⟩: ∃T,T=G2 64 (n-1):=⟨_,rfl⟩;rw[<-hT];have hT0:T≠0:=by
  rw[hT];unfold G2;rw[aa oO];omega
 refine eW call324 func324 ?_;repeat' first|simp only[go_sem,seval,e1 oT,e2,hodd]|refine oE ?_|apply xX<;>intro hc
 refine ah (α:=Nat×Nat) (fun s=>s.1) (fun s=>⟨[(0,U n),(1,U a),(5,U s.1),(6,E' s.2)],[],_⟩) (fun s=>0<s.1/\s.1<(2^64)/\s.2<=64/\s.1<2^(64-s.2)/\s.1=(n-1)/2^s.2/\G2 (64-s.2) s.1+s.2=T) (n-1,0) (fun _=>aA _) ⟨by show 0<n-1;omega,by show n-1< _;omega,by show 0<=64;omega,by show n-1<2^64;omega,by show n-1= _;rw[Nat.pow_zero,jx],by rw[hT];rfl⟩ ?_ ?_
 ·exact lE
 ·rintro⟨d,s⟩ ⟨hd0,hd1,hs,hds,hde,ht⟩ R hR;simp only at hd0 hd1 hs hds hde ht;have ed:(d:Int).tmod 2=((d%2:Nat):Int):=rfl;have hs64:s<64:=by
   rcases qn s 64 with g|g
   ·exact g
   ·obtain rfl:s=64:=oO;simp at hds;omega
  obtain⟨f,hf⟩: ∃f,64-s=f+1:=⟨63-s,oO⟩;rw[hf]at hds ht;unfold G2 at ht
  by_cases hev:d%2=0
  ·rw[aa oO]at ht;have hdl:d/2<=d:=fx _ _;have hgo:=hR (d/2,s+1) ⟨by show 0<d/2;omega,by show d/2< _;omega,by show s+1<=64;omega,by
    show d/2<2^(64-(s+1));rw[show 64-(s+1)=f by omega];rw[Nat.pow_succ]at hds;omega,by
    show d/2=(n-1)/2^(s+1);rw[Nat.pow_succ,<-ff,<-hde],by
    show G2 (64-(s+1)) (d/2)+(s+1)=T;rw[show 64-(s+1)=f by omega];omega⟩ (by show d/2<d;omega)
   clear hR ht;exact gH (aN @ed @hev) @hgo
  ·have hev:d%2=1:=oO;rw[af hev,eX]at ht;subst ht;rw[<-hde];have hx:=Ib (a:=a) (e:=d) (m:=n) ha hd1 hn;have es:pd n s d a=(a^d%n==1||Ve n s (a^d%n)):=by
    unfold pd;rw[bV ha];obtain⟨r,hr⟩: ∃r,s=r+1:=⟨s-1,oO⟩;rw[hr,Qn,sB,Bool.or_assoc]
   rw[es];obtain⟨x,hxx⟩: ∃x,x=a^d%n:=⟨_,rfl⟩;have hxl:x<n:=by rw[hxx];exact aV _ oO
   rw[<-hxx]at hx⊢;clear hR es hde hxx
   by_cases hx1:x=1
   ·subst hx1;repeat' first|simp only[go_sem,seval,ed,hev]|refine cP hx ?_|refine oE ?_|apply xX<;>intro hc
    all_goals skip
   have hb1:(x==1)=false:=by simpa using hx1
   have hb2:((x:Int)==1)=false:=by rw[du];omega
   rw[hb1,eH];refine jA (aN @ed (aN @hev @hb2)) @hx ?_;refine ah (α:=Nat×Nat) (fun s'=>s-s'.1) (fun s'=>⟨[(0,U n),(6,E' s),(7,U s'.2),(8,E' s'.1)],[],_⟩) (fun s'=>s'.1<=s/\s'.2<n/\Ve n (s-s'.1) s'.2=Ve n s x) (0,x) (fun _=>aA _) ⟨aD _,hxl,rfl⟩ ?_ ?_
   ·exact lE
   ·rintro⟨i,z⟩ ⟨hi,hz,hq⟩ R hR;simp only at hi hz hq;rw[<-hq]
    by_cases hlt:i<s
    ·have hmm:=tK hz hz hn;have hzz:z*z%n<n:=aV _ oO;obtain⟨r,hr⟩: ∃r,s-i=r+1:=⟨s-i-1,oO⟩;have hgo:=hR (i+1,z*z%n);rw[hr]at hq⊢;simp only[Ve]at hq⊢
     by_cases hzn:z=n-1
     ·have hb: ∀ _:True,((z:Int)==((n-1:Nat):Int))=true:=fun _=>by rw[hzn];simp
      have hb':(z==n-1)=true:=by simpa using hzn
      rw[hb',iI];clear hq hgo hR;exact fz (aN (e1 oT) (hb oT))
     ·have hb: ∀ _:True,((z:Int)==((n-1:Nat):Int))=false:=fun _=>by rw[du];omega
      have hb':(z==n-1)=false:=by simpa using hzn
      rw[hb',eH]at hq⊢;rw[<-hq]at hgo;have hgo:=hgo ⟨by show i+1<=s;omega,hzz,by show Ve n (s-(i+1)) _= _;rw[show s-(i+1)=r by omega]⟩ (by show s-(i+1)<s-i;omega)
      clear hq hR;exact gi (aN (e1 oT) (hb oT)) @hgo @hmm
    ·obtain rfl:i=s:=oO;rw[gD];exact z0
theorem aaw {i:Nat} (h:i<12):(List.map (fun n:Nat=>PV.i .u64 (n:Int)) cJ).getD i .fn0= .i .u64 (cJ.getD i 0:Nat):=by
 have h2:i<cJ.length:=h;simp[bu,h2]
theorem TK {n:Nat} (hn:n<(2^64)):aH 259 [.i .u64 n] (.b (ia n)):=by
 by_cases h2:n<2
 ·have e:ia n=false:=by simp[ia,h2]
  rw[e];refine eW call259 func259 ?_;exact z0
 obtain⟨B,hB⟩: ∃B,B=List.map (fun n:Nat=>PV.i .u64 (n:Int)) cJ:=⟨_,rfl⟩
 have hBl:B.length=12:=by rw[hB];rfl
 have hBe: ∀ _:True,[PV.i .u64 2, .i .u64 3, .i .u64 5, .i .u64 7, .i .u64 11, .i .u64 13, .i .u64 17, .i .u64 19, .i .u64 23, .i .u64 29, .i .u64 31, .i .u64 37]=B:=fun _=>by rw[hB];rfl
 have hBc: ∀x∈B,x.cells.length=1:=by
  rw[hB];intro x hx;obtain⟨c,-,rfl⟩:=cx.1 hx;rfl
 have hBg: ∀{i:Nat},i<12->B.getD i .fn0= .i .u64 (cJ.getD i 0:Nat):=fun h=>by rw[hB];exact aaw h
 clear hB;refine eW call259 func259 ?_;refine dh (hBe oT) ?_;refine ah (α:=Nat) (fun i=>12-i) (fun i=>⟨[(0,U n),(3, .fs B),(4,E' i)],[],_⟩) (fun i=>i<=12/\cJ.find? (fun p=>n%p==0)=(cJ.drop i).find? (fun p=>n%p==0)) 0 (fun _=>aA _) ⟨oO,rfl⟩ ?_ ?_
 ·exact lE
 ·rintro i ⟨hi,hf⟩ R hR
  by_cases hlt:i<12
  ·have g1:=hBg hlt;obtain⟨q0,q1⟩:=R5 hlt;rw[IW hlt]at hf;have hmc: ∀q:Nat,(n:Int).tmod (q:Int)=((n%q:Nat):Int):=fun q=>rfl
   generalize cJ.getD i 0=q at*
   by_cases hq:n=q
   ·have hz:(n%q==0)=true:=by rw[hq];simp
    rw[List.find?_cons,hz]at hf;have e:ia n=true:=by
     unfold ia;rw[aa h2,hf];simpa using hq
    rw[e];exact fz (aN @hBl (aN @g1 @hmc))
   ·by_cases hz0:n%q=0
    ·have hz:(n%q==0)=true:=by simpa using hz0
     rw[List.find?_cons,hz]at hf;have e:ia n=false:=by
      unfold ia;rw[aa h2,hf];simpa using hq
     rw[e];exact fz (aN @hBl (aN @g1 (aN @hmc @hz0)))
    ·have hz:(n%q==0)=false:=by simpa using hz0
     rw[List.find?_cons,hz]at hf;have hgo:=hR (i+1) ⟨oO,hf⟩ oO;exact gH (aN @hBl (aN @g1 @hmc)) @hgo
  ·obtain rfl:i=12:=oO;have hf:cJ.find? (fun p=>n%p==0)=none:=hf
   have hnd: ∀q∈cJ,n%q≠0:=fun q hq=>by simpa using List.find?_eq_none.1 hf q hq
   have key:ia n=cJ.all (pd n (G2 64 (n-1)) ((n-1)/2^G2 64 (n-1))):=by
    unfold ia;rw[aa h2,hf]
   have h37:37<n:=by
    rcases qn 37 n with g|g
    ·exact g
    ·exfalso
     have: ∀k:Fin 38,2<=k.val-> ∃q∈cJ,k.val%q=0:=by decide
     obtain⟨q,hq1,hq2⟩:=this ⟨n,oO⟩ (by show 2<=n;omega)
     exact hnd q hq1 hq2
   have hodd:n%2=1:=by have:=hnd 2 oC;omega
   rw[key];have hst:=fun a (h1:a<38) (h0:a≠0)=>Ih (a:=a) hn oO hodd oO h0
   clear key hf hnd hR;generalize pd n (G2 64 (n-1)) ((n-1)/2^G2 64 (n-1))=st at*;refine dh @hBl ?_;refine ah (α:=Nat) (fun i=>12-i) (fun i=>⟨[(0,U n),(3, .fs B),(5,E' i)],[],_⟩) (fun i=>i<=12/\cJ.all st=(cJ.drop i).all st) 0 (fun _=>aA _) ⟨oO,rfl⟩ ?_ ?_
   ·exact lE
   ·rintro i ⟨hi,hf⟩ R hR
    by_cases hlt:i<12
    ·have g1:=hBg hlt;obtain⟨q0,q1⟩:=R5 hlt;rw[IW hlt,List.all_cons]at hf;have hR1:=hR (i+1);generalize cJ.getD i 0=q at*;have hs:=hst q q1 oO
     cases hsq:st q
     ·rw[hsq]at hs hf;rw[hf,br];exact iE (aN @hBl @g1) @hs
     ·rw[hsq]at hs hf;rw[bE]at hf;have hgo:=hR1 ⟨oO,hf⟩ oO;exact gi (aN @hBl @g1) @hgo @hs
    ·obtain rfl:i=12:=oO;have e:cJ.all st=true:=hf;rw[e];exact fz @hBl
theorem Yd (a:Bytes) (la:a.length<1099511627776):aH 169 [.s a] (.tup [.b (ae a&&decide (a.length<=8)&&ia (num a)),E (if ae a then(if a.length<=8 then 0 else 5)else 3)]):=by
 have hf:=Ic a;have hu:=aaC a la
 by_cases hv:ae a=true
 ·rw[hv]at hf⊢
  by_cases h8:a.length<=8
  ·have hn:=ga h8;rw[aQ h8,bV hn]at hu;have hi:=TK hn;rw[aQ h8,af rfl,af h8];generalize ia (num a)=b at*;refine eW call169 func169 ?_;exact zs4 @hf @hu @hi oT
  ·rw[aS h8]at hu⊢;rw[af rfl,aa h8];refine eW call169 func169 ?_;exact Ut @hf @hu
 ·have hv:ae a=false:=by simpa using hv
  rw[hv]at hf⊢;refine eW call169 func169 ?_;exact zs1 @hf
end Go.Proofs.Tryz
namespace Go.Proofs.Tryz
open Go Go.Dom Go.Num
theorem aci {a b:Nat} (h:a<b):decide (a7 a b>=0)=false:=aS (fun g=>by have:=dY.1 g;omega)
theorem acj {a b:Nat} (h:b<=a):decide (a7 a b>=0)=true:=aQ (dY.2 h)
theorem dLt (a b:Nat):decide (a7 a b<0)=decide (a<b):=by rw[cu];simp only[a8];exact fZ
theorem Lv (m o:Bytes):aH 366 [G m o] (.b (ae m&&ae o)):=by
 have v1:=aU m;have v2:=aU o;refine eW call366 func366 ?_;exact Ut @v1 @v2
theorem Pv {m:Bytes} (lm:m.length<=8) (o x:Bytes):aH 328 [G m o, .s x] (.b (oz m o x)):=by
 have hf:=Lv m o;have vx:=aU x
 by_cases h:ae m=true/\ae o=true/\ae x=true/\o≠[]/\x≠[]
 ·obtain⟨v1,v2,v3,h4,h5⟩:=h;have e4:(o==([]:Bytes))=false:=by simpa using h4
  have e5:(x==([]:Bytes))=false:=by simpa using h5
  have hn:=ga lm;have lx:=eU v3;have hor:=fD (bJ v3) (bJ v1) oO oO;rw[v1,v2]at hf;rw[v3]at vx;have hx0:=ow (bJ v3) h5
  by_cases h6:num x<num m
  ·have hE:=aaz (a:=num x) (m:=num m) (e:=o) oO v2 hn oO;rw[fA v3,fA v1]at hE;have hlt: ∀ _:True,decide (a7 (num x) (num m)>=0)=false:=fun _=>aci oO
   have e:oz m o x=decide (num x^num o%num m=1):=by simp[oz,v1,v2,v3,e4,e5,h6,bV (show 1<num m by omega)]
   rw[e];generalize num x^num o%num m=z1 at*;refine eW call328 func328 ?_;exact ry (aN @e4 (aN @e5 (aN (hlt oT) @XF))) @hf @vx @hor @hE
  ·have hlt: ∀ _:True,decide (a7 (num x) (num m)>=0)=true:=fun _=>acj oO
   have e:oz m o x=false:=by simp[oz,h6]
   rw[e];refine eW call328 func328 ?_;exact ry (aN @e4 (aN @e5 (hlt oT))) @hf @vx @hor oT
 ·have e:oz m o x=false:=by
   rw[dR];intro g;simp[oz]at g;exact h ⟨g.1.1.1.1.1.1,g.1.1.1.1.1.2,g.1.1.1.1.2,g.1.1.1.2,g.1.1.2⟩
  rw[e]
  by_cases hmo:(ae m&&ae o)=true
  case neg=>
   have hmo:(ae m&&ae o)=false:=by simpa using hmo
   rw[hmo]at hf;refine eW call328 func328 ?_;exact z2 @hf @vx
  rw[hmo]at hf
  by_cases v3:ae x=true
  case neg=>
   have v3:ae x=false:=by simpa using v3
   rw[v3]at vx;refine eW call328 func328 ?_;exact z2 @hf @vx
  rw[v3]at vx
  by_cases h4:o=[]
  ·subst h4;refine eW call328 func328 ?_;exact vV @nn @hf @vx
  ·have e4:(o==([]:Bytes))=false:=by simpa using h4
   by_cases h5:x=[]
   ·subst h5;refine eW call328 func328 ?_;exact vV (aN @nn @e4) @hf @vx
   ·simp only[bc]at hmo;exact aJ ⟨hmo.1,hmo.2,v3,h4,h5⟩ h
theorem KT {m:Bytes} (hm:m≠[]):(m.getD (m.length-1) 0).toNat%2=num m%2:=by
 obtain⟨r,c,rfl⟩: ∃r c,m=r++[c]:=⟨_,_,(List.dropLast_concat_getLast hm).symm⟩;rw[Gf];have:(r++[c]).getD ((r++[c]).length-1) 0=c:=by simp[bu]
 rw[this];omega
theorem oJ {m:Bytes} (lm:m.length<=8) {o:Bytes} (lo:o.length<=8):aH 263 [G m o] (E (gE m o)):=by
 have v1:=aU m;have v2:=aU o;unfold gE
 by_cases hv:ae m=true/\ae o=true
 case neg=>
  have:(ae m&&ae o)=false:=by rw[dR];intro g;simp at g;exact hv g
  rw[this];generalize ae m=b1 at*;generalize ae o=b2 at*;refine eW call263 func263 ?_;exact Ut @v1 @v2
 obtain⟨vm,vo⟩:=hv;have nm:=ga lm;have no:=ga lo;rw[vm]at v1;rw[vo]at v2
 by_cases ho:o=[]
 ·subst ho;have e0:(if !(ae m&&ae [])then(3:Int)else if(([]:Bytes)==[])then(if jE m []then 0 else 13)else if num m<=1\/num []<=1\/(num m-1)%num []≠0 then 13 else 0)=if jE m []then 0 else 13:=by
   rw[vm];rfl
  rw[e0]
  by_cases hm:m=[]
  ·subst hm;have:jE [] []=false:=by decide
   rw[this];refine eW call263 func263 ?_;exact vV @nn @v1 @v2
  have hb:(m==([]:Bytes))=false:=by simpa using hm
  have hl:=KT hm;have hlen:0<m.length:=gF.2 hm;have hix: ∀ _:True,((m.length:Int)-1).toNat=m.length-1:=fun _=>oO
  have hmod: ∀c:UInt8,((c.toNat:Nat):Int).tmod 2=((c.toNat%2:Nat):Int):=fun c=>rfl
  have ho8:=fD (a:=m) (b:=[8]) (bJ vm) (.inr oC) oO oC;rw[show num ([8]:Bytes)=8 from rfl]at ho8
  have hle: ∀ _:True,decide (a7 (num m) 8<=0)= !decide (8<num m):=fun _=>by
   rw[cu];simp only[a8,fW,kM];unfold a7;split<;>(try split)<;>omega
  have hg:jE m []=(decide (num m%2=1)&&decide (8<num m)):=by
   unfold jE;rw[vm,l9,Nat.pow_zero,jx];rfl
  rw[hg,<-hl];generalize a7 (num m) 8=cm at*;obtain⟨c,hcc⟩: ∃c,c=m.getD (m.length-1) 0:=⟨_,rfl⟩;rw[<-hcc];clear hl hg e0;refine eW call263 func263 ?_;repeat' first|simp only[go_sem,seval,nn,hb,hix oT,<-hcc,hmod,hle oT]|refine cP v1 ?_|refine cP v2 ?_|refine cP ho8 ?_|refine oE ?_|apply xX<;>intro hc
  all_goals first|(simp_all;done)|(simp_all;omega)|skip
 have hb:(o==([]:Bytes))=false:=by simpa using ho
 have hop:num o≠0:=fun e=>ho ((uL vo).1 e)
 have e1:N (num m)= .s m:=congrArg PV.s (jr vm);have e2:N (num o)= .s o:=congrArg PV.s (jr vo);rw[vm,vo,hb];simp only[dF,dy,cE,aB];have q0:(m==([]:Bytes))=decide (num m=0):=by
  have:=Ca (num m) 0;rw[jr vm]at this;exact this
 have q1:(m==([1]:Bytes))=decide (num m=1):=by
  have:=Ca (num m) 1;rw[jr vm]at this;exact this
 have q2:(o==([1]:Bytes))=decide (num o=1):=by
  have:=Ca (num o) 1;rw[jr vo]at this;exact this
 by_cases hbad:num m=0\/num m=1\/num o=1
 ·rw[af oO];refine eW call263 func263 ?_;repeat' first|simp only[go_sem,seval,hb,q0,q1,q2]|refine cP v1 ?_|refine cP v2 ?_|refine oE ?_|apply xX<;>intro hc
  all_goals (exfalso;simp_all)
 have h1:=pE m [1] oO oC (show 1<=num m by omega)
 rw[show num ([1]:Bytes)=1 from rfl]at h1
 have h2:=uR (a:=b7 (num m-1)) (b:=o) (iF _) (bJ vo) oO (by
  have:=lN (show num m-1<(2^64) by omega)
  omega) oO
 rw[bG]at h2;have hz: ∀ _:True,(b7 ((num m-1)%num o)==([]:Bytes))=decide ((num m-1)%num o=0):=fun _=>by
  rw[cu];simp[jh]
 have t0:decide (num m=0)=false:=aS oO;have t1:decide (num m=1)=false:=aS oO;have t2:decide (num o=1)=false:=aS oO;have ei:(if num m<=1\/num o<=1\/(num m-1)%num o≠0 then(13:Int)else 0)=if(num m-1)%num o=0 then 0 else 13:=by
  by_cases g:(num m-1)%num o=0
  ·rw[aa oO,af g]
  ·rw[af oO,aa g]
 rw[ei];refine eW call263 func263 ?_;exact YJ (aN @hb (aN @q0 (aN @q1 (aN @q2 (aN @t0 (aN @t1 (aN @t2 (hz oT)))))))) @v1 @v2 @h1 @h2
theorem CI {m:Bytes} (lm:m.length<=8) (o:Bytes) {x:Bytes} (hE:gE m o=0) (vx:ae x=true):aH 264 [G m o, .s x] (.b (nU m o x)):=by
 by_cases ho:o=[]
 ·subst ho;obtain⟨vm,-,m1,hr,-⟩:=nD hE;have hg:=hr rfl;have lx:=eU vx;have hor:=fD (bJ vx) (bJ vm) oO oO;have hcm:=Px (wN vx) (wN vm);rw[fA vx,fA vm]at hcm;have hlt: ∀ _:True,decide (a7 (num x) (num m)<0)=decide (num x<num m):=fun _=>dLt _ _
  have e:nU m [] x=(!(x==[])&&decide (num x<num m)&&decide (Nat.gcd (num x) (num m)=1)):=by
   simp[nU,Bb,hg,vx]
  rw[e];generalize a7 (num x) (num m)=cm at*;refine eW call264 func264 ?_;repeat' first|simp only[go_sem,seval,nn,hlt oT,XF]|refine cP hor ?_|refine cP hcm ?_|refine oE ?_|apply xX<;>intro hc
  all_goals simp_all
  all_goals (intros;omega)
 ·have hb:(o==([]:Bytes))=false:=by simpa using ho
  have h:=Pv lm o x;unfold nU;rw[hb];simp only[cE,aB];refine eW call264 func264 ?_;exact iE @hb @h
theorem rW {m:Bytes} (lm:m.length<=8) {o:Bytes} (lo:o.length<=8) (x:Bytes):aH 335 [G m o, .s x] (.b (vX m o x)):=by
 have h1:=oJ lm lo;have hv:=aU x
 by_cases hE:gE m o=0
 ·rw[hE]at h1
  by_cases vx:ae x=true
  ·have h2:=CI lm o hE vx;rw[vx]at hv;unfold vX;rw[hE];generalize nU m o x=b at*;refine eW call335 func335 ?_;exact zs4 @h1 @hv @h2 oT
  ·have vx:ae x=false:=by simpa using vx
   rw[vx]at hv;have:vX m o x=false:=by
    rw[dR];intro g;simp only[vX,bc]at g;have:=((dH hE).1 g.2).1;rw[vx]at this;cases this
   rw[this];refine eW call335 func335 ?_;exact z2 @h1 @hv
 ·have:vX m o x=false:=by simp[vX,hE]
  rw[this];generalize gE m o=z at*;refine eW call335 func335 ?_;exact zs1 @h1
theorem Im {s:aT} (hs:UB s) (hv: ∀b∈s.vars,ae b=true):aH 254 [s.pv] (.b true):=by
 obtain⟨gs,vs,es⟩:=s;obtain⟨hg,hq,ng,nv,ne⟩:=hs;simp only at hg hv hq ng nv ne;have l1:(gs.map cz).length=gs.length:=au ..;have l2:(vs.map bO).length=vs.length:=au ..;have l3:(es.map bZ.pv).length=es.length:=au ..;unfold aT.pv;simp only;refine eW call254 func254 ?_;refine pO ?_;refine ah (α:=Nat) (fun i=>gs.length-i) (fun i=>⟨[(1, .p 1000 0 0),(3,E' i)],[(1000,⟨0,[.v (.sl (gs.map cz)), .v (.sl (vs.map bO)), .v (.sl (es.map bZ.pv))],false,none⟩)],_⟩) (fun i=>i<=gs.length) 0 (fun _=>aA _) (aD _) ?_ ?_
 ·exact lE
 ·intro i hi R hR
  by_cases hlt:i<gs.length
  ·have e1:=getD_map cz gs dL hlt;have k:=hg _ (ai dL hlt);have hgo:=hR (i+1) oO oO;obtain⟨x,hx⟩: ∃x,x=gs.getD i dL:=⟨_,rfl⟩;rw[<-hx]at e1 k;obtain⟨m,o⟩:=x;obtain⟨vm,vo,-⟩:=nD k.1;have v1:=aU m;have v2:=aU o;rw[vm]at v1;rw[vo]at v2;clear hR hx k vm vo;simp only[cz]at e1;exact yd (aN @l1 @e1) @hgo @v1 @v2
  ·obtain rfl:i=gs.length:=oO;refine dh @l1 ?_;refine ah (α:=Nat) (fun i=>vs.length-i) (fun i=>⟨[(1, .p 1000 0 0),(4,E' i)],[(1000,⟨0,[.v (.sl (gs.map cz)), .v (.sl (vs.map bO)), .v (.sl (es.map bZ.pv))],false,none⟩)],_⟩) (fun i=>i<=vs.length) 0 (fun _=>aA _) (aD _) ?_ ?_
   ·exact lE
   ·intro i hi R hR
    by_cases hlt:i<vs.length
    ·have e1:=getD_map bO vs [] hlt;have k:=hv _ (ai [] hlt);have hgo:=hR (i+1) oO oO;obtain⟨x,hx⟩: ∃x,x=vs.getD i []:=⟨_,rfl⟩;rw[<-hx]at e1 k;have v1:=aU x;rw[k]at v1;clear hR hx k;simp only[bO]at e1;exact gi (aN @l2 @e1) @hgo @v1
    ·obtain rfl:i=vs.length:=oO;refine dh @l2 ?_;refine ah (α:=Nat) (fun i=>es.length-i) (fun i=>⟨[(1, .p 1000 0 0),(5,E' i)],[(1000,⟨0,[.v (.sl (gs.map cz)), .v (.sl (vs.map bO)), .v (.sl (es.map bZ.pv))],false,none⟩)],_⟩) (fun i=>i<=es.length) 0 (fun _=>aA _) (aD _) ?_ ?_
     ·exact lE
     ·intro i hi R hR
      by_cases hlt:i<es.length
      ·have e1:=getD_map bZ.pv es dU hlt;obtain⟨q1,q2,q3,q4,q5⟩:=hq _ (ai dU hlt);have hgo:=hR (i+1) oO oO;obtain⟨x,hx⟩: ∃x,x=es.getD i dU:=⟨_,rfl⟩;rw[<-hx]at e1 q1 q2 q3 q4 q5;obtain⟨gr,tg,ts⟩:=x;simp only at q1 q2 q3 q4 q5;have hgE:=(hg _ (ai dL (show gr.toNat<gs.length by omega))).1
       have v1:=aU tg;rw[fP hgE q3]at v1;have l4:(ts.map dx.pv).length=ts.length:=au ..;simp only[bZ.pv]at e1;clear hR hx q3;have hd1:decide (gr<0)=false:=aS oO;have hd2:decide (gr>=(gs.length:Int))=false:=aS oO;refine jA (aN @l1 (aN @l3 (aN @l4 (aN @e1 (aN @hd1 @hd2))))) @v1 ?_;refine ah (α:=Nat) (fun i=>ts.length-i) (fun j=>⟨[(1, .p 1000 0 0),(5,E' i),(6, .p 1025 0 0),(7,E' j)],[(1000,⟨0,[.v (.sl (gs.map cz)), .v (.sl (vs.map bO)), .v (.sl (es.map bZ.pv))],false,none⟩),(1025,⟨0,[.v (.i .i64 gr), .v (.s tg), .v (.sl (ts.map dx.pv))],false,some 119⟩)],_⟩) (fun i=>i<=ts.length) 0 (fun _=>aA _) (aD _) ?_ ?_
       ·exact lE
       ·intro j hj R' hR'
        by_cases hjt:j<ts.length
        ·have e2:=getD_map dx.pv ts dN hjt;obtain⟨t1,t2,t3,t4⟩:=q5 _ (ai dN hjt);have hgo':=hR' (j+1) oO oO;obtain⟨y,hy⟩: ∃y,y=ts.getD j dN:=⟨_,rfl⟩;rw[<-hy]at e2 t1 t2 t3 t4;obtain⟨b,v,n,a⟩:=y;simp only at t1 t2 t3 t4;have v2:=aU b;rw[fP hgE t3]at v2;have v3:=jW n a;rw[show(ae a&& !(n&&a==[]))=true from t4]at v3
         simp only[dx.pv]at e2;clear hR' hy t3 t4 q5;have hd3:decide (v<0)=false:=aS oO;have hd4:decide (v>=(vs.length:Int))=false:=aS oO;refine rz (aN @l2 (aN @l4 (aN @e2 (aN @hd3 @hd4)))) @v2 @v3 ?_;refine hgo' _ ?_;exact lE
        ·obtain rfl:j=ts.length:=oO;exact gH (aN @l3 @l4) @hgo
      ·obtain rfl:i=es.length:=oO;exact fz @l3
theorem PS {s:aT} (hs:UB s):aH 321 [s.pv] (.b false):=by
 obtain⟨gs,vs,es⟩:=s;obtain⟨hg,hq,ng,nv,ne⟩:=hs;simp only at hg hq ng nv ne;have l1:(gs.map cz).length=gs.length:=au ..;have l2:(vs.map bO).length=vs.length:=au ..;have l3:(es.map bZ.pv).length=es.length:=au ..;unfold aT.pv;simp only;refine eW call321 func321 ?_;refine pO ?_;refine ah (α:=Nat) (fun i=>es.length-i) (fun i=>⟨[(1, .p 1000 0 0),(3,E' i)],[(1000,⟨0,[.v (.sl (gs.map cz)), .v (.sl (vs.map bO)), .v (.sl (es.map bZ.pv))],false,none⟩)],_⟩) (fun i=>i<=es.length) 0 (fun _=>aA _) (aD _) ?_ ?_
 ·exact lE
 ·intro i hi R hR
  by_cases hlt:i<es.length
  ·have e1:=getD_map bZ.pv es dU hlt;have q4:=(hq _ (ai dU hlt)).2.2.2.1;have hgo:=hR (i+1) oO oO;obtain⟨x,hx⟩: ∃x,x=es.getD i dU:=⟨_,rfl⟩;rw[<-hx]at e1 q4;obtain⟨gr,tg,ts⟩:=x;simp only at q4;have l4:(ts.map dx.pv).length=ts.length:=au ..;simp only[bZ.pv]at e1;clear hR hx;exact gH (aN @l3 (aN @l4 @e1)) @hgo
  ·obtain rfl:i=es.length:=oO;have hd:decide ((es.length:Int)>64)=false:=aS oO;exact fz (aN @l1 (aN @l2 (aN @l3 @hd)))
theorem DZ {s:aT} (hs:UB s):aH 322 [s.pv] (.b true):=by
 obtain⟨gs,vs,es⟩:=s;obtain⟨hg,hq,ng,nv,ne⟩:=hs;simp only at hg hq ng nv ne;have l1:(gs.map cz).length=gs.length:=au ..;have l3:(es.map bZ.pv).length=es.length:=au ..;unfold aT.pv;simp only;refine eW call322 func322 ?_;refine pO ?_;refine ah (α:=Nat) (fun i=>gs.length-i) (fun i=>⟨[(1, .p 1000 0 0),(3,E' i)],[(1000,⟨0,[.v (.sl (gs.map cz)), .v (.sl (vs.map bO)), .v (.sl (es.map bZ.pv))],false,none⟩)],_⟩) (fun i=>i<=gs.length) 0 (fun _=>aA _) (aD _) ?_ ?_
 ·exact lE
 ·intro i hi R hR
  by_cases hlt:i<gs.length
  ·have e1:=getD_map cz gs dL hlt;have k:=hg _ (ai dL hlt);have hgo:=hR (i+1) oO oO;obtain⟨x,hx⟩: ∃x,x=gs.getD i dL:=⟨_,rfl⟩;rw[<-hx]at e1 k;obtain⟨m,o⟩:=x;have v1:=oJ k.2.1 k.2.2;rw[k.1]at v1;clear hR hx k;simp only[cz]at e1;exact gi (aN @l1 @e1) @hgo @v1
  ·obtain rfl:i=gs.length:=oO;refine dh @l1 ?_;refine ah (α:=Nat) (fun i=>es.length-i) (fun i=>⟨[(1, .p 1000 0 0),(4,E' i)],[(1000,⟨0,[.v (.sl (gs.map cz)), .v (.sl (vs.map bO)), .v (.sl (es.map bZ.pv))],false,none⟩)],_⟩) (fun i=>i<=es.length) 0 (fun _=>aA _) (aD _) ?_ ?_
   ·exact lE
   ·intro i hi R hR
    by_cases hlt:i<es.length
    ·have e1:=getD_map bZ.pv es dU hlt;obtain⟨q1,q2,q3,q4,q5⟩:=hq _ (ai dU hlt);have hgo:=hR (i+1) oO oO;obtain⟨x,hx⟩: ∃x,x=es.getD i dU:=⟨_,rfl⟩;rw[<-hx]at e1 q1 q2 q3 q4 q5;obtain⟨gr,tg,ts⟩:=x;simp only at q1 q2 q3 q4 q5;have hgl:gr.toNat<gs.length:=oO;have kg:=hg _ (ai dL hgl);have e3:=getD_map cz gs dL hgl;obtain⟨z,hz⟩: ∃z,z=gs.getD gr.toNat dL:=⟨_,rfl⟩;rw[<-hz]at q3 q5 kg e3;obtain⟨m,o⟩:=z;simp only at q3 q5 kg;have hIn: ∀{x:Bytes},nU m o x=true->vX m o x=true:=fun h=>by simp[vX,kg.1,h]
     have v1:=rW kg.2.1 kg.2.2 tg;rw[hIn q3]at v1;have v2:=rW kg.2.1 kg.2.2;have l4:(ts.map dx.pv).length=ts.length:=au ..;simp only[cz]at e3;simp only[bZ.pv]at e1;clear hR hx hz q3;refine jA (aN @l1 (aN @l3 (aN @e1 @e3))) @v1 ?_;refine ah (α:=Nat) (fun i=>ts.length-i) (fun j=>⟨[(1, .p 1000 0 0),(4,E' i),(5, .p 1019 0 0),(6, .p 1027 0 0),(7,E' j)],[(1000,⟨0,[.v (.sl (gs.map cz)), .v (.sl (vs.map bO)), .v (.sl (es.map bZ.pv))],false,none⟩),(1019,⟨0,[.v (.i .i64 gr), .v (.s tg), .v (.sl (ts.map dx.pv))],false,some 119⟩),(1027,⟨0,[.v (.s m), .v (.s o)],false,some 114⟩)],_⟩) (fun i=>i<=ts.length) 0 (fun _=>aA _) (aD _) ?_ ?_
     ·exact lE
     ·intro j hj R' hR'
      by_cases hjt:j<ts.length
      ·have e2:=getD_map dx.pv ts dN hjt;have t3:=(q5 _ (ai dN hjt)).2.2.1;have hgo':=hR' (j+1) oO oO;obtain⟨y,hy⟩: ∃y,y=ts.getD j dN:=⟨_,rfl⟩;rw[<-hy]at e2 t3;obtain⟨b,v,n,a⟩:=y;simp only at t3;have v3:=v2 b;rw[hIn t3]at v3;simp only[dx.pv]at e2;clear hR' hy t3 q5;refine gR (aN @l4 @e2) @v3 ?_;refine hgo' _ ?_;exact lE
      ·obtain rfl:j=ts.length:=oO;exact gH @l4 @hgo
    ·obtain rfl:i=es.length:=oO;exact fz @l3
theorem xF (s:aT) (hl:s.groups.length<1000000):aH 165 [s.pv] (.s (ba s.groups)):=by
 obtain⟨gs,vs,es⟩:=s;simp only at hl;have l1:(gs.map cz).length=gs.length:=au ..;unfold aT.pv;simp only;refine eW call165 func165 ?_;refine pO ?_;refine ah (α:=Nat) (fun i=>gs.length-i) (fun i=>⟨[(1, .p 1000 0 0),(3,E' i)],[(1000,⟨0,[.v (.sl (gs.map cz)), .v (.sl (vs.map bO)), .v (.sl (es.map bZ.pv))],false,none⟩)],_⟩) (fun i=>i<=gs.length/\ba (gs.drop i)=ba gs) 0 (fun _=>aA _) ⟨aD _,rfl⟩ ?_ ?_
 ·exact lE
 ·rintro i ⟨hi,hf⟩ R hR;rw[<-hf]
  by_cases hlt:i<gs.length
  ·have e1:=getD_map cz gs dL hlt;have hgo:=hR (i+1);rw[<-hf]at hgo;rw[aE dL hlt]at hgo⊢;obtain⟨x,hx⟩: ∃x,x=gs.getD i dL:=⟨_,rfl⟩;rw[<-hx]at e1 hgo⊢;clear hx hf hR;obtain⟨m,o⟩:=x;simp only[ba]at hgo⊢;simp only[cz]at e1
   by_cases ho:o=[]
   ·subst ho;simp only[aC]at hgo⊢;have hgo:=hgo ⟨oO,trivial⟩ oO;exact gH (aN @l1 (aN @e1 @nn)) @hgo
   ·have hb:(o==([]:Bytes))=false:=by simpa using ho
    rw[aa ho];exact fz (aN @l1 (aN @e1 @hb))
  ·obtain rfl:i=gs.length:=oO;rw[bw];exact fz @l1
end Go.Proofs.Tryz
namespace Go.Proofs.Tryz
open Go Go.Dom
variable {c ch sl:Bytes} {ls:List (List (Bool×Bytes))} {rs:List (Bool×Bytes)}
theorem Ld (hr:we c sl) {s:aT} {gs:List Bytes} (h1:rs.length<1000000) (h2:gs.length<=1000) (h3:ls.length<=1000) (h4: ∀l∈ls,l.length<4611686018427387904) (hf:iT c s.vars.length ch rs gs ls≠0):
  aH 43 [X0 c sl s,kC ch rs gs ls] (.tup [Ke,B0,E (iT c s.vars.length ch rs gs ls)]):=by
 have hfo:=yp (c:=c) (sl:=sl) hr.vc s ch rs gs ls h1 h2 h3 h4;have hb:(iT c s.vars.length ch rs gs ls==0)=false:=by simpa using hf
 generalize iT c s.vars.length ch rs gs ls=e at*;obtain⟨gq,vs,es⟩:=s;simp only[X0,kC]at hfo⊢;refine eW call43 func43 ?_;repeat' first|simp only[go_sem,seval,hb]|refine cP hfo ?_|refine oE ?_|apply xX<;>intro hc
 all_goals skip
theorem Hl (s:aT) (x:PV) (n:Bytes):aH 44 [X0 c sl s,B0, .s n] (.b true):=by
 obtain⟨gq,vs,es⟩:=s;simp only[X0];refine eW call44 func44 ?_;exact z0
theorem KM {nv:Nat} {gs:List Bytes} (h:iT c nv ch rs gs ls=0):gs=[]/\ls=[]:=by
 unfold iT at h
 split at h
 ·exact aJ h oC
 ·split at h
  ·exact aJ h oC
  ·rename_i hm;exact⟨vH fun h=>hm (.inr (.inl h)),vH fun h=>hm (.inr (.inr h))⟩
theorem gU (l:List Bytes) (hl:l.length<4611686018427387904):aH 36 [.sl (l.map .s)] (.b (l.all ae)):=by
 have l5:(l.map PV.s).length=l.length:=au ..;refine eW call36 func36 ?_;refine pO ?_;refine ah (α:=Nat) (fun i=>l.length-i) (fun i=>⟨[(0, .v (.sl (l.map .s))),(3,E' i)],[],_⟩) (fun i=>i<=l.length/\(l.drop i).all ae=l.all ae) 0 (fun _=>aA _) ⟨aD _,rfl⟩ ?_ ?_
 ·exact lE
 ·rintro i ⟨hi,hf⟩ R hR;rw[<-hf]
  by_cases hlt:i<l.length
  ·have e1:=getD_map PV.s l ([]:Bytes) hlt;have hgo:=hR (i+1);rw[<-hf]at hgo;rw[aE ([]:Bytes) hlt,List.all_cons]at hgo⊢;generalize l.getD i []=a at*;clear hf hR;have hv:=aU a;generalize ae a=b at*;cases b
   ·repeat' first|simp only[go_sem,seval,l5,e1]|refine cP hv ?_|refine oE ?_|apply xX<;>intro hc
    all_goals simp
   ·have hgo:=hgo ⟨oO,by simp⟩ oO
    exact gi (aN @l5 @e1) @hgo @hv
  ·obtain rfl:i=l.length:=oO;rw[bw];exact fz @l5
