/-
  Part of the proof, part FA20. Own work.
-/
import Derived.Lib.TrailingZeros
import Derived.Test.YtfdjchnefpefbaaGreatDoorFA19
set_option linter.all false
namespace Go.Dom
theorem Bo (a p:Nat):a%(p*256)=a%p+p*(a/p%256):=nX
theorem zJ (x p:Nat):x%(p*256)/p=x/p%256:=pK x p 256
theorem ofNat_mod {x y:Nat} (h:x%256=y%256):UInt8.ofNat x=UInt8.ofNat y:=by
 apply iP.1;simpa using h
def carry (a b p:Nat):Nat:=(a%p+b%p)/p
theorem CQ (a b:Nat) {p:Nat} (hp:0<p):carry a b p<=1:=by
 unfold carry;have h1:=aD a hp;have h2:=aD b hp;have:(a%p+b%p)/p<2:=(gK hp).2 (by omega)
 omega
theorem zF (a b:Nat) {p:Nat} (hp:0<p):carry a b p+(a/p%256+b/p%256)=(a%(p*256)+b%(p*256))/p:=by
 unfold carry;rw[Bo,Bo,show a%p+p*(a/p%256)+(b%p+p*(b/p%256))=(a%p+b%p)+p*(a/p%256+b/p%256) by rw[jn];omega,mz _ _ hp]
theorem wT (a b:Nat) {p:Nat} (hp:0<p):UInt8.ofNat (carry a b p+(a/p%256+b/p%256))=UInt8.ofNat ((a+b)/p):=by
 rw[zF a b hp];apply ofNat_mod;rw[<-zJ,<-zJ,<-jN]
theorem wU (a b:Nat) {p:Nat} (hp:0<p):(carry a b p+(a/p%256+b/p%256))/256=carry a b (p*256):=by
 rw[zF a b hp,eg];rfl
def borrow (a b p:Nat):Nat:=if a%p<b%p then 1 else 0
theorem zE (a b p:Nat):borrow a b p<=1:=by unfold borrow;split<;>omega
theorem uy (a b:Nat) {p:Nat} (hp:0<p):borrow a b (p*256)=if((a/p%256:Nat):Int)-(b/p%256:Nat)-(borrow a b p:Nat)<0 then 1 else 0:=by
 unfold borrow;rw[Bo,Bo];have h1:=aD a hp;have h2:=aD b hp;generalize a/p%256=x;generalize b/p%256=y;generalize a%p=r at*;generalize b%p=q at*;have key:(r+p*x<q+p*y)↔(x<y\/(x=y/\r<q)):=by
  rcases Ca x y with h|h|h
  ·have:=iw p (show x+1<=y from h)
   rw[jn]at this;simp only[h,true_or,iff_true];omega
  ·subst h;simp
  ·have:=iw p (show y+1<=x from h)
   rw[jn]at this;constructor
   ·intro;omega
   ·rintro(_|⟨_,_⟩)<;>omega
 by_cases hk:r+p*x<q+p*y
 ·rw[if_pos hk,if_pos];rcases key.1 hk with h|⟨h,h'⟩
  ·split<;>omega
  ·rw[if_pos h'];omega
 ·rw[if_neg hk,if_neg];have:=fun h=>hk (key.2 h)
  split<;>omega
theorem ux (a b:Nat) {p:Nat} (hp:0<p) (h:b<=a) (d:Int) (hd:d=((a/p%256:Nat):Int)-(b/p%256:Nat)-(borrow a b p:Nat)):d%256=(((a-b)/p%256:Nat):Int):=by
 have h1:=aD a hp;have h2:=aD b hp;have e1:=gM a p;have e2:=gM b p;have hle:b/p+borrow a b p<=a/p:=by
  have hdv:=Nat.div_le_div_right (c:=p) h;unfold borrow;split
  ·rename_i hlt;rcases nS (b/p) (a/p)with g|g
   ·omega
   ·have:b/p=a/p:=by omega
    rw[this]at e2;omega
  ·omega
 have key:(a-b)/p=a/p-b/p-borrow a b p:=by
  have e3:a-b=(a%p+borrow a b p*p-b%p)+p*(a/p-b/p-borrow a b p):=by
   rw[Nat.mul_sub,Nat.mul_sub,bc (borrow a b p) p];have g1:p*(b/p)+p*borrow a b p<=p*(a/p):=by rw[<-jn];exact iw _ hle
   have g2:b%p<=a%p+p*borrow a b p:=by unfold borrow;split<;>simp<;>omega
   omega
  have hlt:a%p+borrow a b p*p-b%p<p:=by unfold borrow;split<;>simp<;>omega
  rw[e3,mz _ _ hp,gI hlt,dI]
 rw[key,hd];omega
structure Gb (B y y1 y0 u t q r:Nat):Prop where
 s:q*y1+r=u
 ge:(u*B+t)/y<=q
theorem Gb.step {B y y1 y0 u t q r:Nat} (hy:y=y1*B+y0) (hy0:0<y) (h:Gb B y y1 y0 u t q r) (hu:u<y) (ht:t<B) (hc:B<=q\/B*r+t<q*y0):0<q/\Gb B y y1 y0 u t (q-1) (r+y1):=by
 have hlt:(u*B+t)/y<q:=by
  rcases hc with hc|hc
  ·refine bj ((gK hy0).2 ?_) hc;have:(u+1)*B<=y*B:=cF _ hu;rw[cu]at this;rw[bc B y];omega
  ·refine(gK hy0).2 ?_;have e:q*y=q*y1*B+q*y0:=by rw[hy,jn,bQ]
   have e2:u*B=q*y1*B+B*r:=by rw[<-h.s,cu,bc r B]
   omega
 have hq:0<q:=ec (aH _) hlt;refine⟨hq,⟨?_,Nat.le_sub_one_of_lt hlt⟩⟩;have:=h.s;obtain⟨k,rfl⟩: ∃k,q=k+1:=⟨q-1,by omega⟩
 rw[cu]at this;simp only[j8];omega
theorem Gb.done {B y y1 y0 u t q r:Nat} (hy:y=y1*B+y0) (hy0:0<y) (h:Gb B y y1 y0 u t q r) (hc:q*y0<=B*r+t):q=(u*B+t)/y:=by
 refine Ct ((sE hy0).2 ?_) h.ge;have e:q*y=q*y1*B+q*y0:=by rw[hy,jn,bQ]
 have e2:u*B=q*y1*B+B*r:=by rw[<-h.s,cu,bc r B]
 omega
theorem Gb.ZX {B y y1 y0 u t q r:Nat} (hy:y=y1*B+y0) (hy0:0<y) (hy0B:y0<B) (h:Gb B y y1 y0 u t q r) (hu:u<y) (hr:B<=r):q=(u*B+t)/y:=by
 have hq:q<B:=by
  rcases nS q B with g|g
  ·exact g
  ·exfalso
   have:=cF y1 g;have:=h.s;rw[bc B y1]at*;omega
 refine h.done hy hy0 ?_;have h1:q*y0<=B*y0:=cF _ (by omega)
 have h2:B*y0<=B*r:=iw _ (by omega)
 omega
theorem Gb.start {B y y1 y0 u t:Nat} (hy:y=y1*B+y0) (hy1:0<y1) (hu:u<y) (ht:t<B):Gb B y y1 y0 u t (u/y1) (u%y1):=by
 refine⟨by have:=gM u y1;rw[bc];omega,?_⟩
 rcases j5 B with hB|hB
 ·subst hB;omega
 ·have:(u*B+t)/y<=(u*B+t)/(y1*B):=Nat.div_le_div_left (by omega) (nT hy1 hB)
  refine ft this ?_;rw[bc y1 B,<-eg,bc u B,vM hB,gI ht];exact an _
theorem Gb.lt {B y y1 y0 u t q:Nat} (hy0:0<y) (hu:u<y) (ht:t<B) (h:q=(u*B+t)/y):q<B:=by
 rw[h];refine(gK hy0).2 ?_;have:(u+1)*B<=y*B:=cF _ hu;rw[cu]at this;rw[bc B y];omega
theorem F2 {B y N u t1 t0 q1 q0 r1:Nat} (hB:0<B) (hy:0<y) (hN:N=u*(B*B)+t1*B+t0) (h1:q1=(u*B+t1)/y) (hr:r1=(u*B+t1)%y) (h0:q0=(r1*B+t0)/y):q1*B+q0=N/y/\(r1*B+t0)%y=N%y:=by
 have e:N=(r1*B+t0)+y*(q1*B):=by
  have:=gM (u*B+t1) y;rw[<-h1,<-hr]at this;have e2:(u*B+t1)*B=y*q1*B+r1*B:=by rw[<-this,cu]
  rw[hN,<-bQ,<-bQ y];rw[cu]at e2;omega
 rw[e,mz _ _ hy,vR,<-h0];exact⟨by omega,rfl⟩
theorem qc {y:Nat} (h0:0<y) (h:y<18446744073709551616):1<=Lib.bitLen y/\2^(Lib.bitLen y-1)<=y/\y<2^Lib.bitLen y:=Lib.bitLenAux_bounds 64 y h (by omega)
structure Sp (hi lo y s:Nat):Prop where
 s64:s<64
 yl:9223372036854775808<=y*2^s
 yh:y*2^s<18446744073709551616
 hil:hi*2^s+lo/2^(64-s)<y*2^s
 eq:(hi*18446744073709551616+lo)*2^s=(hi*2^s+lo/2^(64-s))*18446744073709551616+lo*2^s%18446744073709551616
 hs:hi*2^s<18446744073709551616
 ol:lo/2^(64-s)<2^s
theorem scaled {hi lo y:Nat} (h:hi<y) (hlo:lo<18446744073709551616) (hy:y<18446744073709551616):Sp hi lo y (64-Lib.bitLen y):=by
 obtain⟨b1,b2,b3⟩:=qc (y:=y) (by omega) hy
 have b4:=Lib.bitLen_le y 64 (by decide) hy
 obtain⟨s,hs⟩: ∃s,s=64-Lib.bitLen y:=⟨_,rfl⟩;rw[<-hs];have e1:2^(Lib.bitLen y-1)*2^s=9223372036854775808:=by rw[<-ct,show Lib.bitLen y-1+s=63 by omega]
 have e2:2^Lib.bitLen y*2^s=18446744073709551616:=by rw[<-ct,show Lib.bitLen y+s=64 by omega]
 have e3:2^(64-s)*2^s=18446744073709551616:=by rw[<-ct,show 64-s+s=64 by omega]
 have hp:=BZ s;have hp':=BZ (64-s);have c1:9223372036854775808<=y*2^s:=by rw[<-e1];exact cF _ b2
 have c2:y*2^s<18446744073709551616:=by rw[<-e2];exact Co b3 hp
 have c3:lo/2^(64-s)<2^s:=by
  refine(gK hp').2 ?_;rw[bc,e3];exact hlo
 have c4:hi*2^s+2^s<=y*2^s:=by
  have:(hi+1)*2^s<=y*2^s:=cF (2^s) h;rw[cu,ia]at this;exact this
 refine⟨by omega,c1,c2,by omega,?_,by omega,c3⟩
 have d1:=gM lo (2^(64-s));have d2:lo*2^s%18446744073709551616=lo%2^(64-s)*2^s:=by
  rw[<-e3,Cn]
 have d3:lo*2^s=lo/2^(64-s)*18446744073709551616+lo%2^(64-s)*2^s:=by
  rw[<-e3];have:=congrArg (· *2^s) d1;simp only[cu]at this;rw[<-this,bc (2^(64-s)),bQ]
 rw[d2,cu,d3,cu];have:hi*18446744073709551616*2^s=hi*2^s*18446744073709551616:=by rw[bQ,bc 18446744073709551616,bQ]
 omega
theorem iZ {u B t q y:Nat} (hq:q=(u*B+t)/y):(u*B+t)-q*y=(u*B+t)%y:=by
 have:=gM (u*B+t) y;rw[hq,bc _ y];omega
theorem pA {u t z:Nat} (h1:z<=u*4294967296+t) (h2:u*4294967296+t-z<18446744073709551616):
  ((u*4294967296%18446744073709551616+t)%18446744073709551616+(18446744073709551616-z%18446744073709551616%18446744073709551616))%18446744073709551616=u*4294967296+t-z:=by omega
theorem AM {u t q y:Nat} (hq:q=(u*4294967296+t)/y):q*y<=u*4294967296+t:=by rw[hq];exact pD _ _
theorem whole {N Y y s U V q1 q0 R:Nat} (hy:0<y) (hY:Y=y*2^s) (hN:N*2^s=U*18446744073709551616+V) (h1:q1=(U*4294967296+V/4294967296)/Y) (hR:R=(U*4294967296+V/4294967296)%Y) (h0:q0=(R*4294967296+V%4294967296)/Y):
  q1*4294967296+q0=N/y/\(R*4294967296+V%4294967296)%Y/2^s=N%y:=by
 have hp:=BZ s;have hYp:0<Y:=by rw[hY];exact nT hy hp
 obtain⟨a,b⟩:=F2 (B:=4294967296) (y:=Y) (N:=N*2^s) (u:=U) (t1:=V/4294967296) (t0:=V%4294967296) (by decide) hYp (by rw[hN];omega) h1 hR h0
 rw[a,b,hY];exact⟨Nat.mul_div_mul_right _ _ hp,by rw[Cn,Cl _ hp]⟩
end Go.Dom
namespace Go.Proofs.YtfdjchnefpefbaaGreatDoor
open Go Go.Dom
set_option maxRecDepth 100000
set_option maxHeartbeats 4000000
abbrev U (n:Nat):AV:= .v (.i .u64 n)
structure NR (hi lo y s Y V u:Nat):Prop where
 hy:0<y
 s64:s<64
 yl:9223372036854775808<=Y
 yh:Y<18446744073709551616
 hY:Y=y*2^s
 hV:V=lo*2^s%18446744073709551616
 hVl:V<18446744073709551616
 hil:u<Y
 eqn:(hi*18446744073709551616+lo)*2^s=u*18446744073709551616+V
 hyy:Y=Y/4294967296*4294967296+Y%4294967296
theorem NR.sub {hi lo y s Y V u:Nat} (D:NR hi lo y s Y V u) {z:Nat} (hz:z<18446744073709551616):(z+(18446744073709551616-z/(Y/4294967296)*(Y/4294967296)%18446744073709551616))%18446744073709551616=z%(Y/4294967296):=by
 have g1:=gM z (Y/4294967296);have g2:=pD z (Y/4294967296);rw[bc]at g1;generalize z/(Y/4294967296)*(Y/4294967296)=k at g1 g2⊢;generalize z%(Y/4294967296)=l at g1⊢;omega
theorem NR.quo {hi lo y s Y V u:Nat} (D:NR hi lo y s Y V u) {z:Nat} (hz:z<18446744073709551616):z/(Y/4294967296)%18446744073709551616=z/(Y/4294967296):=aV (ec (dZ _ _) hz)
structure wE (Y u t:Nat) (x:Nat×Nat):Prop where
 d:Gb 4294967296 Y (Y/4294967296) (Y%4294967296) u t x.1 x.2
 r:x.2<4294967296
 q:x.1<18446744073709551616
theorem wE.start {hi lo y s Y V u:Nat} (D:NR hi lo y s Y V u) {z t:Nat} (hz:z<Y) (ht:t<4294967296):wE Y z t (z/(Y/4294967296),z%(Y/4294967296)):=by
 have:=D.yl;have:=D.yh;refine⟨Gb.start D.hyy oO hz ht,?_,?_⟩
 ·have:=aD z (y:=Y/4294967296) oO;show z%(Y/4294967296)< _;omega
 ·show z/(Y/4294967296)< _;exact ec (dZ _ _) oO
theorem wE.fin {hi lo y s Y V u:Nat} (D:NR hi lo y s Y V u) {z t q r:Nat} (hz:z<Y) (ht:t<4294967296) (h:wE Y z t (q,r)) (hq:q*(Y%4294967296)<=4294967296*r+t):q=(z*4294967296+t)/Y:=h.d.done D.hyy (by have:=D.yl;omega) hq
theorem wE.go {hi lo y s Y V u:Nat} (D:NR hi lo y s Y V u) {z t q r:Nat} (hz:z<Y) (ht:t<4294967296) (h:wE Y z t (q,r)) (hq:4294967296<=q\/4294967296*r+t<q*(Y%4294967296)):
  (q+18446744073709551615)%18446744073709551616=q-1/\(r+Y/4294967296)%18446744073709551616=r+Y/4294967296/\q-1<q/\(4294967296<=r+Y/4294967296->q-1=(z*4294967296+t)/Y)/\(r+Y/4294967296<4294967296->wE Y z t (q-1,r+Y/4294967296)):=by
 have h1:=D.yl;have h2:=D.yh;have h3:=h.r;have h4:=h.q;simp only at h3 h4;obtain⟨p1,p2⟩:=h.d.step D.hyy oO hz ht hq;simp only at p1 p2;exact⟨by omega,by omega,by omega,fun g=>p2.ZX D.hyy oO oO hz g,fun g=>⟨p2,g,by show q-1< _;omega⟩⟩
theorem NR.out {hi lo y s Y V u q1 z q0:Nat} (D:NR hi lo y s Y V u) (hlo:lo<18446744073709551616) (h:hi<y) (h1:q1=(u*4294967296+V/4294967296)/Y) (hz:z=(u*4294967296+V/4294967296)%Y) (h0:q0=(z*4294967296+V%4294967296)/Y):
  (q1*4294967296%18446744073709551616+q0)%18446744073709551616=(hi*18446744073709551616+lo)/y/\((z*4294967296%18446744073709551616+V%4294967296)%18446744073709551616+(18446744073709551616-q0*Y%18446744073709551616))%18446744073709551616/2^s=(hi*18446744073709551616+lo)%y:=by
 have hy:=D.hy;have yl:=D.yl;have yh:=D.yh;obtain⟨a,b⟩:=whole (N:=hi*18446744073709551616+lo) hy D.hY D.eqn h1 hz h0;have hzl:z<Y:=by rw[hz];exact aD _ oO
 have hq0:q0<4294967296:=Gb.lt (B:=4294967296) (y1:=Y/4294967296) (y0:=Y%4294967296) oO hzl (aD _ oC) h0;have hq1:q1<4294967296:=Gb.lt (B:=4294967296) (y1:=Y/4294967296) (y0:=Y%4294967296) oO D.hil (by have:=D.hVl;omega) h1
 have hw:=pA (AM h0) (by rw[iZ h0];exact bj (aD _ oO) oO)
 rw[iZ h0,dq]at hw;rw[hw,b,<-a];exact⟨by omega,rfl⟩
theorem CE (hi lo y:Nat) (h:hi<y) (hlo:lo<18446744073709551616) (hy:y<18446744073709551616):aA Tryz.prog 374 [.i .u64 hi, .i .u64 lo, .i .u64 y] (.tup [.i .u64 ((hi*18446744073709551616+lo)/y:Nat), .i .u64 ((hi*18446744073709551616+lo)%y:Nat)]):=by
 by_cases h0:hi=0
 ·subst h0;have hq:=aV (ec (dZ lo y) hlo);refine eW Tryz.call374 Tryz.func374 ?_;repeat' first|simp only[go_sem,seval,uw,hq,mA]|refine sB ?_|apply xX<;>intro hc|refine⟨oD,?_⟩|exact oD|fail
 have sc:=scaled h hlo hy;obtain⟨s,hs⟩: ∃s,s=64-Lib.bitLen y:=⟨_,rfl⟩;rw[<-hs]at sc;have hlz:=qR y hy;rw[<-hs]at hlz;obtain⟨s64,yl,yh,hil,eqn,hs1,ol⟩:=sc;obtain⟨Y,hY⟩: ∃Y,Y=y*2^s:=⟨_,rfl⟩;obtain⟨V,hV⟩: ∃V,V=lo*2^s%18446744073709551616:=⟨_,rfl⟩;obtain⟨u,hu⟩: ∃u,u=hi*2^s+lo/2^(64-s):=⟨_,rfl⟩;rw[<-hY]at yl yh hil;rw[<-hu]at hil eqn;rw[<-hV]at eqn;have hVl:V<18446744073709551616:=by rw[hV];exact aD _ oC
 have D:NR hi lo y s Y V u:=⟨by omega,s64,yl,yh,hY,hV,hVl,hil,eqn,by omega⟩
 have e1: ∀ _:True,s%18446744073709551616=s:=fun _=>by omega
 have e2: ∀ _:True,Y%18446744073709551616=Y:=fun _=>by omega
 have e3: ∀ _:True,hi*2^s%18446744073709551616=hi*2^s:=fun _=>aV hs1
 have e4: ∀ _:True,(64+(18446744073709551616-s))%18446744073709551616=64-s:=fun _=>by omega
 have e5: ∀ _:True,EZ .u64 ((hi*2^s:Nat):Int) ((lo/2^(64-s):Nat):Int)=(u:Int):=fun _=>by
  rw[Tk .u64 rfl hs1 (ec (dZ _ _) hlo),DC ol,hu]
 have hm1: ∀ _:True,(if s<=64 then s else 64)=s:=fun _=>by split<;>omega
 have hm2: ∀ _:True,(if 64-s<=64 then 64-s else 64)=64-s:=fun _=>by split<;>omega
 have hY': ∀ _:True,y*2^s=Y:=fun _=>hY.symm
 have hV': ∀ _:True,lo*2^s%18446744073709551616=V:=fun _=>hV.symm
 have hr0: ∀ _:True,(u+(18446744073709551616-u/(Y/4294967296)*(Y/4294967296)%18446744073709551616))%18446744073709551616=u%(Y/4294967296):=fun _=>D.sub oO
 have hq0: ∀ _:True,u/(Y/4294967296)%18446744073709551616=u/(Y/4294967296):=fun _=>D.quo oO
 have hy1:Y/4294967296≠0:=by omega
 have h':=h;clear hs hY hV hu eqn hs1 ol hil yl yh hVl s64;refine eW Tryz.call374 Tryz.func374 ?_;simp only[go_sem,seval,uw,za,rF,xT,FM,CL,wK,BM,yG,yF,qj];repeat' first|simp only[go_sem,seval,uw,za,rF,xT,FM,CL,wK,BM,yG,yF,qj,e1 trivial,hm1 trivial,hm2 trivial,hY' trivial,e2 trivial,e3 trivial,e4 trivial,e5 trivial,hV' trivial,hq0 trivial,dq,hr0 trivial]|refine cP hlz ?_|refine sB ?_|apply xX<;>intro hc|refine⟨oD,?_⟩|exact oD|fail
 clear e1 e2 e3 e4 e5 hm2 hr0 hq0 hlz hY' hV' h0;refine af (α:=Nat×Nat) (fun x=>x.1) (fun x=>⟨[(2,U Y),(8,U s),(9,U (Y/4294967296)),(10,U (Y%4294967296)),(11,U u),(13,U (V/4294967296)),(14,U (V%4294967296)),(15,U x.1),(16,U x.2)],[],_⟩) (wE Y u (V/4294967296)) (u/(Y/4294967296),u%(Y/4294967296)) (fun _=>an _) (.start D D.hil (by have:=D.hVl;omega)) ?_ ?_
 ·exact lE
 ·rintro⟨q,r⟩ hd R hR;have f0:=hd.r;simp only at f0;have f1: ∀ _:True,4294967296*r%18446744073709551616=4294967296*r:=fun _=>by omega
  have f2: ∀ _:True,(4294967296*r+V/4294967296)%18446744073709551616=4294967296*r+V/4294967296:=fun _=>by have:=D.hVl;omega
  have f3:q*(Y%4294967296)<4294967296*4294967296\/4294967296<=q:=by
   by_cases g:4294967296<=q
   ·exact .inr g
   ·exact .inl (fR oO (aD _ oC))
  repeat' first|simp only[go_sem,seval,uw,za,rF,xT,FM,CL,wK,BM,yG,yF,qj,f1 trivial,f2 trivial]|refine sB ?_|apply xX<;>intro hc|refine⟨oD,?_⟩|exact oD|fail
  ·obtain⟨g1,g2,g3,g4,g5⟩:=hd.go D D.hil (by have:=D.hVl;omega) oO
   have hq1:(q-1)=(u*4294967296+V/4294967296)/Y:=g4 oO;obtain⟨q1,e1⟩: ∃q1,q1=(q-1):=⟨_,rfl⟩;rw[<-e1]at hq1;obtain⟨z,hz⟩: ∃z,z=(u*4294967296+V/4294967296)%Y:=⟨_,rfl⟩;have hyl:=D.yl;have hyh:=D.yh;have hzl:z<Y:=by rw[hz];exact aD _ oO
   have hw1:=pA (AM hq1) (by rw[iZ hq1,<-hz];omega)
   rw[iZ hq1,<-hz,dq]at hw1;have hq0:=D.quo (z:=z) oO;have hr0:=D.sub (z:=z) oO;simp only[g1,<-e1,dq,hw1,hq0,hr0];clear hw1 hq0 hr0 hyl hyh e1 f0 f3;refine af (α:=Nat×Nat) (fun x=>x.1) (fun x=>⟨[(2,U Y),(8,U s),(9,U (Y/4294967296)),(10,U (Y%4294967296)),(14,U (V%4294967296)),(15,U q1),(17,U z),(18,U x.1),(16,U x.2)],[],_⟩) (wE Y z (V%4294967296)) (z/(Y/4294967296),z%(Y/4294967296)) (fun _=>an _) (.start D hzl (aD _ oC)) ?_ ?_
   ·exact lE
   ·rintro⟨q,r⟩ hd R hR;have f0:=hd.r;simp only at f0;have f1: ∀ _:True,4294967296*r%18446744073709551616=4294967296*r:=fun _=>by omega
    have f2: ∀ _:True,(4294967296*r+V%4294967296)%18446744073709551616=4294967296*r+V%4294967296:=fun _=>by have:=D.hVl;omega
    have f3:q*(Y%4294967296)<4294967296*4294967296\/4294967296<=q:=by
     by_cases g:4294967296<=q
     ·exact .inr g
     ·exact .inl (fR oO (aD _ oC))
    repeat' first|simp only[go_sem,seval,uw,za,rF,xT,FM,CL,wK,BM,yG,yF,qj,f1 trivial,f2 trivial]|refine sB ?_|apply xX<;>intro hc|refine⟨oD,?_⟩|exact oD|fail
    ·obtain⟨g1,g2,g3,g4,g5⟩:=hd.go D hzl (aD _ oC) oO;have:=D.out hlo h' hq1 hz (g4 oO);simp only[g1,hm1 trivial,dq,this.1,this.2]
    ·obtain⟨g1,g2,g3,g4,g5⟩:=hd.go D hzl (aD _ oC) oO;refine hR (q-1,r+Y/4294967296) (g5 oO) g3 _ ?_;rw[g1,g2];exact lE
    ·obtain⟨g1,g2,g3,g4,g5⟩:=hd.go D hzl (aD _ oC) oO;have:=D.out hlo h' hq1 hz (g4 oO);simp only[g1,hm1 trivial,dq,this.1,this.2]
    ·obtain⟨g1,g2,g3,g4,g5⟩:=hd.go D hzl (aD _ oC) oO;refine hR (q-1,r+Y/4294967296) (g5 oO) g3 _ ?_;rw[g1,g2];exact lE
    ·have:=D.out hlo h' hq1 hz (hd.fin D hzl (aD _ oC) oO);simp only[hm1 trivial,dq,this.1,this.2]
  ·obtain⟨g1,g2,g3,g4,g5⟩:=hd.go D D.hil (by have:=D.hVl;omega) oO
   refine hR (q-1,r+Y/4294967296) (g5 oO) g3 _ ?_;rw[g1,g2];exact lE
  ·obtain⟨g1,g2,g3,g4,g5⟩:=hd.go D D.hil (by have:=D.hVl;omega) oO
   have hq1:(q-1)=(u*4294967296+V/4294967296)/Y:=g4 oO;obtain⟨q1,e1⟩: ∃q1,q1=(q-1):=⟨_,rfl⟩;rw[<-e1]at hq1;obtain⟨z,hz⟩: ∃z,z=(u*4294967296+V/4294967296)%Y:=⟨_,rfl⟩;have hyl:=D.yl;have hyh:=D.yh;have hzl:z<Y:=by rw[hz];exact aD _ oO
   have hw1:=pA (AM hq1) (by rw[iZ hq1,<-hz];omega)
   rw[iZ hq1,<-hz,dq]at hw1;have hq0:=D.quo (z:=z) oO;have hr0:=D.sub (z:=z) oO;simp only[g1,<-e1,dq,hw1,hq0,hr0];clear hw1 hq0 hr0 hyl hyh e1 f0 f3;refine af (α:=Nat×Nat) (fun x=>x.1) (fun x=>⟨[(2,U Y),(8,U s),(9,U (Y/4294967296)),(10,U (Y%4294967296)),(14,U (V%4294967296)),(15,U q1),(17,U z),(18,U x.1),(16,U x.2)],[],_⟩) (wE Y z (V%4294967296)) (z/(Y/4294967296),z%(Y/4294967296)) (fun _=>an _) (.start D hzl (aD _ oC)) ?_ ?_
   ·exact lE
   ·rintro⟨q,r⟩ hd R hR;have f0:=hd.r;simp only at f0;have f1: ∀ _:True,4294967296*r%18446744073709551616=4294967296*r:=fun _=>by omega
    have f2: ∀ _:True,(4294967296*r+V%4294967296)%18446744073709551616=4294967296*r+V%4294967296:=fun _=>by have:=D.hVl;omega
    have f3:q*(Y%4294967296)<4294967296*4294967296\/4294967296<=q:=by
     by_cases g:4294967296<=q
     ·exact .inr g
     ·exact .inl (fR oO (aD _ oC))
    repeat' first|simp only[go_sem,seval,uw,za,rF,xT,FM,CL,wK,BM,yG,yF,qj,f1 trivial,f2 trivial]|refine sB ?_|apply xX<;>intro hc|refine⟨oD,?_⟩|exact oD|fail
    ·obtain⟨g1,g2,g3,g4,g5⟩:=hd.go D hzl (aD _ oC) oO;have:=D.out hlo h' hq1 hz (g4 oO);simp only[g1,hm1 trivial,dq,this.1,this.2]
    ·obtain⟨g1,g2,g3,g4,g5⟩:=hd.go D hzl (aD _ oC) oO;refine hR (q-1,r+Y/4294967296) (g5 oO) g3 _ ?_;rw[g1,g2];exact lE
    ·obtain⟨g1,g2,g3,g4,g5⟩:=hd.go D hzl (aD _ oC) oO;have:=D.out hlo h' hq1 hz (g4 oO);simp only[g1,hm1 trivial,dq,this.1,this.2]
    ·obtain⟨g1,g2,g3,g4,g5⟩:=hd.go D hzl (aD _ oC) oO;refine hR (q-1,r+Y/4294967296) (g5 oO) g3 _ ?_;rw[g1,g2];exact lE
    ·have:=D.out hlo h' hq1 hz (hd.fin D hzl (aD _ oC) oO);simp only[hm1 trivial,dq,this.1,this.2]
  ·obtain⟨g1,g2,g3,g4,g5⟩:=hd.go D D.hil (by have:=D.hVl;omega) oO
   refine hR (q-1,r+Y/4294967296) (g5 oO) g3 _ ?_;rw[g1,g2];exact lE
  ·have hq1:q=(u*4294967296+V/4294967296)/Y:=hd.fin D D.hil (by have:=D.hVl;omega) oO
   obtain⟨q1,e1⟩: ∃q1,q1=q:=⟨_,rfl⟩;rw[<-e1]at hq1;obtain⟨z,hz⟩: ∃z,z=(u*4294967296+V/4294967296)%Y:=⟨_,rfl⟩;have hyl:=D.yl;have hyh:=D.yh;have hzl:z<Y:=by rw[hz];exact aD _ oO
   have hw1:=pA (AM hq1) (by rw[iZ hq1,<-hz];omega)
   rw[iZ hq1,<-hz,dq]at hw1;have hq0:=D.quo (z:=z) oO;have hr0:=D.sub (z:=z) oO;simp only[true_and,<-e1,dq,hw1,hq0,hr0];clear hw1 hq0 hr0 hyl hyh e1 f0 f3;refine af (α:=Nat×Nat) (fun x=>x.1) (fun x=>⟨[(2,U Y),(8,U s),(9,U (Y/4294967296)),(10,U (Y%4294967296)),(14,U (V%4294967296)),(15,U q1),(17,U z),(18,U x.1),(16,U x.2)],[],_⟩) (wE Y z (V%4294967296)) (z/(Y/4294967296),z%(Y/4294967296)) (fun _=>an _) (.start D hzl (aD _ oC)) ?_ ?_
   ·exact lE
   ·rintro⟨q,r⟩ hd R hR;have f0:=hd.r;simp only at f0;have f1: ∀ _:True,4294967296*r%18446744073709551616=4294967296*r:=fun _=>by omega
    have f2: ∀ _:True,(4294967296*r+V%4294967296)%18446744073709551616=4294967296*r+V%4294967296:=fun _=>by have:=D.hVl;omega
    have f3:q*(Y%4294967296)<4294967296*4294967296\/4294967296<=q:=by
     by_cases g:4294967296<=q
     ·exact .inr g
     ·exact .inl (fR oO (aD _ oC))
    repeat' first|simp only[go_sem,seval,uw,za,rF,xT,FM,CL,wK,BM,yG,yF,qj,f1 trivial,f2 trivial]|refine sB ?_|apply xX<;>intro hc|refine⟨oD,?_⟩|exact oD|fail
    ·obtain⟨g1,g2,g3,g4,g5⟩:=hd.go D hzl (aD _ oC) oO;have:=D.out hlo h' hq1 hz (g4 oO);simp only[g1,hm1 trivial,dq,this.1,this.2]
    ·obtain⟨g1,g2,g3,g4,g5⟩:=hd.go D hzl (aD _ oC) oO;refine hR (q-1,r+Y/4294967296) (g5 oO) g3 _ ?_;rw[g1,g2];exact lE
    ·obtain⟨g1,g2,g3,g4,g5⟩:=hd.go D hzl (aD _ oC) oO;have:=D.out hlo h' hq1 hz (g4 oO);simp only[g1,hm1 trivial,dq,this.1,this.2]
    ·obtain⟨g1,g2,g3,g4,g5⟩:=hd.go D hzl (aD _ oC) oO;refine hR (q-1,r+Y/4294967296) (g5 oO) g3 _ ?_;rw[g1,g2];exact lE
    ·have:=D.out hlo h' hq1 hz (hd.fin D hzl (aD _ oC) oO);simp only[hm1 trivial,dq,this.1,this.2]
theorem JX (hi lo y:Nat) (h0:0<y) (hhi:hi<18446744073709551616) (hlo:lo<18446744073709551616) (hy:y<18446744073709551616):aA Tryz.prog 357 [.i .u64 hi, .i .u64 lo, .i .u64 y] (.i .u64 ((hi*18446744073709551616+lo)%y:Nat)):=by
 have h1:hi%y<y:=aD _ h0;have h2:(hi%y*18446744073709551616+lo)%y=(hi*18446744073709551616+lo)%y:=by
  rw[jN,bM,dq,<-bM,<-jN]
 refine eW Tryz.call357 Tryz.func357 ?_;repeat' first|simp only[go_sem,seval,h2]|refine cP (CE _ _ _ h1 hlo hy) ?_|refine sB ?_|apply xX<;>intro hc|refine⟨oD,?_⟩|exact oD|fail
end Go.Proofs.YtfdjchnefpefbaaGreatDoor
namespace Go.Dom
def ad (a b:Nat):Nat:=(a+b)%4294967296
def zX (a b:Nat):Nat:=(a%4294967296)|||(b%4294967296)
def ot (a b:Nat):Nat:=(a%4294967296)^^^(b%4294967296)
def JM (a b:Nat):Nat:=(a%4294967296)&&&(b%4294967296)
def V8 (a:Nat):Nat:=4294967295^^^(a%4294967296)
def uB (a k:Nat):Nat:=a*2^k%4294967296
theorem L5 (a b:Nat):zX a b=zX b a:=Nat.or_comm _ _
theorem kS (a:Nat):BitVec.ofInt 32 ((a%4294967296:Nat):Int)=BitVec.ofInt 32 (a:Int):=by
 rw[fC,fC];apply BitVec.eq_of_toNat_eq;simp
theorem EO:IntKind.bits .u32=32:=rfl
theorem ow (a b:Nat):IntKind.u32.wrap ((a:Int)+(b:Int))=((ad a b:Nat):Int):=by rw[JF,ad];omega
theorem YW (a b:Nat):EZ .u32 (a:Int) (b:Int)=((zX a b:Nat):Int):=by
 have h:=Tk .u32 rfl (a:=a%4294967296) (b:=b%4294967296) (aD _ (by decide)) (aD _ (by decide))
 rw[zX,<-h,EZ,EZ,EO,kS,kS]
theorem Ve (a b:Nat):Dm .u32 (a:Int) (b:Int)=((ot a b:Nat):Int):=by
 have h:=Rp .u32 rfl (a:=a%4294967296) (b:=b%4294967296) (aD _ (by decide)) (aD _ (by decide))
 rw[ot,<-h,Dm,Dm,EO,kS,kS]
theorem Xy (a b:Nat):lk .u32 (a:Int) (b:Int)=((JM a b:Nat):Int):=by
 have h:=Lw .u32 rfl (a:=a%4294967296) (b:=b%4294967296) (aD _ (by decide)) (aD _ (by decide))
 rw[JM,<-h,lk,lk,EO,kS,kS]
theorem n_r (a:Nat):IntKind.u32.wrap ((BitVec.ofInt 32 4294967295^^^BitVec.ofInt 32 (a:Int)).toNat:Int)=((V8 a:Nat):Int):=by
 have h:BitVec.ofInt 32 4294967295=BitVec.ofNat 32 4294967295:=rfl;have h2:4294967295^^^a%4294967296<2^32:=Nat.xor_lt_two_pow (by decide) (aD _ (by decide))
 rw[h,fC,BitVec.toNat_xor,jL,jL,V8,JF];simp only[Nat.reducePow,Nat.reduceMod]at*;omega
theorem V5 (a k:Nat):IntKind.u32.wrap ((a:Int)*2^k)=((uB a k:Nat):Int):=by
 rw[JF,uB];have:((2:Int)^k)=((2^k:Nat):Int):=by simp
 rw[this,<-Int.natCast_mul];omega
def om:List Nat:=[0x428a2f98,0x71374491,0xb5c0fbcf,0xe9b5dba5,0x3956c25b,0x59f111f1,0x923f82a4,0xab1c5ed5,
 0xd807aa98,0x12835b01,0x243185be,0x550c7dc3,0x72be5d74,0x80deb1fe,0x9bdc06a7,0xc19bf174,
 0xe49b69c1,0xefbe4786,0x0fc19dc6,0x240ca1cc,0x2de92c6f,0x4a7484aa,0x5cb0a9dc,0x76f988da,
 0x983e5152,0xa831c66d,0xb00327c8,0xbf597fc7,0xc6e00bf3,0xd5a79147,0x06ca6351,0x14292967,
 0x27b70a85,0x2e1b2138,0x4d2c6dfc,0x53380d13,0x650a7354,0x766a0abb,0x81c2c92e,0x92722c85,
 0xa2bfe8a1,0xa81a664b,0xc24b8b70,0xc76c51a3,0xd192e819,0xd6990624,0xf40e3585,0x106aa070,
 0x19a4c116,0x1e376c08,0x2748774c,0x34b0bcb5,0x391c0cb3,0x4ed8aa4a,0x5b9cca4f,0x682e6ff3,
 0x748f82ee,0x78a5636f,0x84c87814,0x8cc70208,0x90befffa,0xa4506ceb,0xbef9a3f7,0xc67178f2]
def np:List Nat:=[0x6a09e667,0xbb67ae85,0x3c6ef372,0xa54ff53a,0x510e527f,0x9b05688c,0x1f83d9ab,0x5be0cd19]
def rr (x n:Nat):Nat:=zX (x/2^n) (uB x (32-n))
def Ww (x:Nat):Nat:=ot (ot (rr x 7) (rr x 18)) (x/8)
def Wx (x:Nat):Nat:=ot (ot (rr x 17) (rr x 19)) (x/1024)
def BI (l:List Nat):Nat:=ad (ad (ad (l.getD (l.length-16) 0) (Ww (l.getD (l.length-15) 0))) (l.getD (l.length-7) 0)) (Wx (l.getD (l.length-2) 0))
def Jq:Nat->List Nat->List Nat
 |0,l=>l
 |n+1,l=>Jq n (l++[BI l])
def uV (blk:Bytes) (i:Nat):Nat:=num ((blk.drop (4*i)).take 4)
def sched (blk:Bytes):List Nat:=Jq 48 ((List.range 16).map (uV blk))
def Nj (k w:Nat) (v:List Nat):Nat:=ad (ad (ad (ad (v.getD 7 0) (ot (ot (rr (v.getD 4 0) 6) (rr (v.getD 4 0) 11)) (rr (v.getD 4 0) 25))) (ot (JM (v.getD 4 0) (v.getD 5 0)) (JM (V8 (v.getD 4 0)) (v.getD 6 0)))) k) w
def UL (v:List Nat):Nat:=ad (ot (ot (rr (v.getD 0 0) 2) (rr (v.getD 0 0) 13)) (rr (v.getD 0 0) 22)) (ot (ot (JM (v.getD 0 0) (v.getD 1 0)) (JM (v.getD 0 0) (v.getD 2 0))) (JM (v.getD 1 0) (v.getD 2 0)))
def Nh (k w:Nat) (v:List Nat):List Nat:=[ad (Nj k w v) (UL v),v.getD 0 0,v.getD 1 0,v.getD 2 0,ad (v.getD 3 0) (Nj k w v),v.getD 4 0,v.getD 5 0,v.getD 6 0]
def ue (W:List Nat):Nat->List Nat->List Nat
 |0,v=>v
 |n+1,v=>ue W n (Nh (om.getD (63-n) 0) (W.getD (63-n) 0) v)
def pV (st:List Nat) (blk:Bytes):List Nat:=List.zipWith ad (ue (sched blk) 64 st) st
def mN:Nat->Bytes->List Nat->List Nat
 |0,_,st=>st
 |n+1,m,st=>mN n (m.drop 64) (pV st (m.take 64))
def pad (s:Bytes):Bytes:=s++128::(List.replicate ((119-s.length%64)%64) 0++be 8 (s.length*8))
def Ue (w:Nat):Bytes:=[UInt8.ofNat (w/2^24),UInt8.ofNat (w/2^16),UInt8.ofNat (w/2^8),UInt8.ofNat w]
def lD (s:Bytes):Bytes:=(mN ((pad s).length/64) (pad s) np).flatMap Ue
theorem D9: ∀n l,(Jq n l).length=l.length+n
 |0,l=>rfl
 |n+1,l=>by rw[Jq,D9 n];simp;omega
theorem kU (b:Bytes):(sched b).length=64:=by simp[sched,D9]
theorem Ni (k w:Nat) (v:List Nat):(Nh k w v).length=8:=rfl
theorem D8 (W:List Nat): ∀n v,v.length=8->(ue W n v).length=8
 |0,v,h=>h
 |n+1,v,h=>D8 W n _ (Ni _ _ _)
theorem nk {st:List Nat} (b:Bytes) (h:st.length=8):(pV st b).length=8:=by simp[pV,D8 _ _ _ h,h]
theorem D7: ∀n m st,st.length=8->(mN n m st).length=8
 |0,m,st,h=>h
 |n+1,m,st,h=>D7 n _ _ (nk _ h)
theorem Bt (s:Bytes):(pad s).length=s.length+9+(119-s.length%64)%64:=by simp[pad,cj];omega
theorem Mk (s:Bytes):(pad s).length=(pad s).length/64*64:=by rw[Bt];omega
theorem eT (s:Bytes):(lD s).length=32:=by
 have h:=D7 ((pad s).length/64) (pad s) np rfl;unfold lD;generalize mN ((pad s).length/64) (pad s) np=l at h;obtain⟨a,b,c,d,e,f,g,i,rfl⟩: ∃a b c d e f g i,l=[a,b,c,d,e,f,g,i]:=by
  match l,h with
  |[a,b,c,d,e,f,g,i],_=>exact⟨_,_,_,_,_,_,_,_,rfl⟩
 rfl
def iE (k:Nat) (parts:List Bytes):Bytes:=UInt8.ofNat k::(be 8 parts.length++parts.flatMap fun s=>be 8 s.length++s)
def r5 (l:Bytes):Bytes:=lD (iE 78 [l])
def jv (st l d:Bytes):Bytes:=lD (iE 65 [st,l,d])
def jH (st l:Bytes) (xs:List Bytes):Bytes:=lD (iE 76 (st::l::xs))
def nH (x:Bool×Bytes):Bytes:=(if x.1 then 45 else 43)::x.2
def FX (st l:Bytes) (xs:List (Bool×Bytes)):Bytes:=lD (iE 73 (st::l::xs.map nH))
def yI (st:Bytes):Bytes:=lD (iE 67 [st,be 8 0])
def kC (st bound:Bytes):Nat:=num ((yI st).take (bound.length+8))%num bound
theorem JA (l:Bytes):(r5 l).length=32:=eT _
theorem px (st l d:Bytes):(jv st l d).length=32:=eT _
theorem iL (st l:Bytes) (xs:List Bytes):(jH st l xs).length=32:=eT _
theorem FY (st l:Bytes) (xs:List (Bool×Bytes)):(FX st l xs).length=32:=eT _
theorem FW (st:Bytes):(yI st).length=32:=eT _
def cW (parts:List Bytes):Bytes:=parts.flatMap fun s=>be 8 s.length++s
theorem oM (l:List Bytes) (s:Bytes):cW (l++[s])=cW l++(be 8 s.length++s):=by simp[cW]
theorem qz (l:List Bytes) {n:Nat} (h: ∀s∈l,s.length<=n):(cW l).length<=l.length*(8+n):=by
 induction l with
 |nil=>simp[cW]
 |cons x l ih=>
  have h1:=ih fun s hs=>h s (jm _ hs)
  have h2:=h x (by simp)
  have e:(cW (x::l)).length=8+x.length+(cW l).length:=by simp[cW,cj];omega
  rw[e,List.length_cons,jU];omega
theorem CN (N k:Nat) (h:k<8):(be 8 N).take (k+1)=(be 8 N).take k++[UInt8.ofNat (N/256^(7-k))]:=by
 match k,h with
 |0,_=>rfl
 |1,_=>rfl
 |2,_=>rfl
 |3,_=>rfl
 |4,_=>rfl
 |5,_=>rfl
 |6,_=>rfl
 |7,_=>rfl
theorem Kl (k n:Nat):be k n=be k (n%256^k):=by
 have h1:num (be k n)=num (be k (n%256^k)):=by rw[xW,xW,dq]
 have h2:=AE (be k n);have h3:=AE (be k (n%256^k));rw[cj]at h2 h3;rw[<-h2,h1,h3]
theorem wN (k m n:Nat):be (k+m) n=be k (n/256^m)++be m n:=by
 induction k with
 |zero=>simp[be]
 |succ k ih=>
  rw[show k+1+m=(k+m)+1 by omega]
  simp only[be,ih,List.cons_append];rw[eg,<-ct,fT m k]
theorem S3 {n j Q c:Nat} (hj:j<n) (hc:Q/256^j%256+c<256):(be n Q).set (n-1-j) (UInt8.ofNat (Q/256^j%256+c))=be n (Q+c*256^j):=by
 obtain⟨k,rfl⟩: ∃k,n=k+(j+1):=⟨n-j-1,by omega⟩
 have hp:0<256^j:=iG j;have h1:(Q+c*256^j)/256^j=Q/256^j+c:=Nat.add_mul_div_right _ _ hp;have h2:(Q+c*256^j)/256^(j+1)=Q/256^(j+1):=by
  rw[Nat.pow_succ,<-eg,<-eg,h1];omega
 have h3:be j (Q+c*256^j)=be j Q:=by rw[Kl,Nat.add_mul_mod_self_right,<-Kl]
 rw[wN k (j+1),wN k (j+1),h2,show k+(j+1)-1-j=k by omega]
 have hl:(be k (Q/256^(j+1))).length=k:=cj _ _;have:=HE (be k (Q/256^(j+1))) (be j Q) (UInt8.ofNat (Q/256^j)) (UInt8.ofNat (Q/256^j%256+c));rw[hl]at this;simp only[be,h1,h3];rw[this];congr 2;exact ofNat_mod (by omega)
theorem Dj (A i:Nat):A/2^i=2*(A/2^(i+1))+A/2^i%2:=by
 rw[Nat.pow_succ,<-eg];omega
theorem KQ {z t B:Nat} (hB:0<B) (ht:t<2):(2*z+t)/B=2*(z/B)+(if B<=2*(z%B)+t then 1 else 0)/\(2*z+t)%B=(if B<=2*(z%B)+t then 2*(z%B)+t-B else 2*(z%B)+t):=by
 have h1:=gM z B;have h2:=aD z hB;generalize z/B=q at*;generalize z%B=r at*;have e:2*z+t=B*(2*q)+(2*r+t):=by
  have:B*(2*q)=2*(B*q):=by rw[Nat.mul_left_comm]
  omega
 split
 ·have e2:2*z+t=(2*r+t-B)+B*(2*q+1):=by rw[jn,dG];omega
  constructor
  ·rw[e2,mz _ _ hB,gI (by omega)];omega
  ·rw[e2,vR,aV (by omega)]
 ·constructor
  ·rw[e,fT,mz _ _ hB,gI (by omega)];omega
  ·rw[e,fT,vR,aV (by omega)]
theorem Kn {Q i:Nat}:Q*2^(i+1)/256^(i/8)%256+2^(i%8)<256:=by
 have h8:i%8<8:=aD _ (by decide)
 have e1:256^(i/8)=2^(8*(i/8)):=by rw[show 256=2^8 from rfl,<-jo]
 have e2:Q*2^(i+1)/256^(i/8)=Q*2^(i%8+1):=by
  rw[e1,show i+1=(i%8+1)+8*(i/8) by omega,ct 2 (i%8+1),<-bQ,Cl _ (fI (by decide))]
 rw[e2];generalize i%8=e at h8;have:e=0\/e=1\/e=2\/e=3\/e=4\/e=5\/e=6\/e=7:=by omega
 rcases this with rfl|rfl|rfl|rfl|rfl|rfl|rfl|rfl<;>simp only[Nat.reduceAdd,Nat.reducePow]<;>omega
theorem Km {i:Nat}:2^(i%8)*256^(i/8)=2^i:=by
 rw[show 256=2^8 from rfl,<-jo,<-ct];congr 1;omega
end Go.Dom
