/-
  Part of the proof, part Z19. Own work.
-/
import Derived.Lib.TrailingZeros
import Derived.Test.YtmobkhegihemeaaGreatDoorZ18
set_option linter.all false
namespace Go.Dom
theorem uT (a p:Nat):a%(p*256)=a%p+p*(a/p%256):=Nat.mod_mul
theorem sX (x p:Nat):x%(p*256)/p=x/p%256:=Nat.mod_mul_right_div_self x p 256
theorem ofNat_mod {x y:Nat} (h:x%256=y%256):UInt8.ofNat x=UInt8.ofNat y:=by
 apply UInt8.toNat_inj.1;simpa using h
def carry (a b p:Nat):Nat:=(a%p+b%p)/p
theorem xr (a b:Nat) {p:Nat} (hp:0<p):carry a b p≤1:=by
 unfold carry;have h1:=Nat.mod_lt a hp;have h2:=Nat.mod_lt b hp;have:(a%p+b%p)/p<2:=(Nat.div_lt_iff_lt_mul hp).2 (by omega)
 omega
theorem sS (a b:Nat) {p:Nat} (hp:0<p):carry a b p+(a/p%256+b/p%256)=(a%(p*256)+b%(p*256))/p:=by
 unfold carry;rw[uT,uT,show a%p+p*(a/p%256)+(b%p+p*(b/p%256))=(a%p+b%p)+p*(a/p%256+b/p%256) by rw[Nat.mul_add];omega,Nat.add_mul_div_left _ _ hp]
theorem qj (a b:Nat) {p:Nat} (hp:0<p):UInt8.ofNat (carry a b p+(a/p%256+b/p%256))=UInt8.ofNat ((a+b)/p):=by
 rw[sS a b hp];apply ofNat_mod;rw[←sX,←sX,←Nat.add_mod]
theorem qI (a b:Nat) {p:Nat} (hp:0<p):(carry a b p+(a/p%256+b/p%256))/256=carry a b (p*256):=by
 rw[sS a b hp,Nat.div_div_eq_div_mul];rfl
def borrow (a b p:Nat):Nat:=if a%p<b%p then 1 else 0
theorem tj (a b p:Nat):borrow a b p≤1:=by unfold borrow;split<;>omega
theorem oC (a b:Nat) {p:Nat} (hp:0<p):borrow a b (p*256)=if((a/p%256:Nat):Int)-(b/p%256:Nat)-(borrow a b p:Nat)<0 then 1 else 0:=by
 unfold borrow;rw[uT,uT];have h1:=Nat.mod_lt a hp;have h2:=Nat.mod_lt b hp;generalize a/p%256=x;generalize b/p%256=y;generalize a%p=r at*;generalize b%p=q at*;have key:(r+p*x<q+p*y)↔(x<y∨(x=y∧r<q)):=by
  rcases Nat.lt_trichotomy x y with h|h|h
  ·have:=Nat.mul_le_mul_left p (show x+1≤y from h)
   rw[Nat.mul_add]at this;simp only[h,true_or,iff_true];omega
  ·subst h;simp
  ·have:=Nat.mul_le_mul_left p (show y+1≤x from h)
   rw[Nat.mul_add]at this;constructor
   ·intro;omega
   ·rintro(_|⟨_,_⟩)<;>omega
 by_cases hk:r+p*x<q+p*y
 ·rw[if_pos hk,if_pos];rcases key.1 hk with h|⟨h,h'⟩
  ·split<;>omega
  ·rw[if_pos h'];omega
 ·rw[if_neg hk,if_neg];have:=fun h=>hk (key.2 h)
  split<;>omega
theorem oE (a b:Nat) {p:Nat} (hp:0<p) (h:b≤a) (d:Int) (hd:d=((a/p%256:Nat):Int)-(b/p%256:Nat)-(borrow a b p:Nat)):d%256=(((a-b)/p%256:Nat):Int):=by
 have h1:=Nat.mod_lt a hp;have h2:=Nat.mod_lt b hp;have e1:=Nat.div_add_mod a p;have e2:=Nat.div_add_mod b p;have hle:b/p+borrow a b p≤a/p:=by
  have hdv:=Nat.div_le_div_right (c:=p) h;unfold borrow;split
  ·rename_i hlt;rcases Nat.lt_or_ge (b/p) (a/p)with g|g
   ·omega
   ·have:b/p=a/p:=by omega
    rw[this]at e2;omega
  ·omega
 have key:(a-b)/p=a/p-b/p-borrow a b p:=by
  have e3:a-b=(a%p+borrow a b p*p-b%p)+p*(a/p-b/p-borrow a b p):=by
   rw[Nat.mul_sub,Nat.mul_sub,Nat.mul_comm (borrow a b p) p];have g1:p*(b/p)+p*borrow a b p≤p*(a/p):=by rw[←Nat.mul_add];exact Nat.mul_le_mul_left _ hle
   have g2:b%p≤a%p+p*borrow a b p:=by unfold borrow;split<;>simp<;>omega
   omega
  have hlt:a%p+borrow a b p*p-b%p<p:=by unfold borrow;split<;>simp<;>omega
  rw[e3,Nat.add_mul_div_left _ _ hp,Nat.div_eq_of_lt hlt,Nat.zero_add]
 rw[key,hd];omega
structure A9 (B y y1 y0 u t q r:Nat):Prop where
 s:q*y1+r=u
 ge:(u*B+t)/y≤q
theorem A9.step {B y y1 y0 u t q r:Nat} (hy:y=y1*B+y0) (hy0:0<y) (h:A9 B y y1 y0 u t q r) (hu:u<y) (ht:t<B) (hc:B≤q∨B*r+t<q*y0):0<q∧A9 B y y1 y0 u t (q-1) (r+y1):=by
 have hlt:(u*B+t)/y<q:=by
  rcases hc with hc|hc
  ·refine Nat.lt_of_lt_of_le ((Nat.div_lt_iff_lt_mul hy0).2 ?_) hc;have:(u+1)*B≤y*B:=Nat.mul_le_mul_right _ hu;rw[Nat.add_mul]at this;rw[Nat.mul_comm B y];omega
  ·refine(Nat.div_lt_iff_lt_mul hy0).2 ?_;have e:q*y=q*y1*B+q*y0:=by rw[hy,Nat.mul_add,Nat.mul_assoc]
   have e2:u*B=q*y1*B+B*r:=by rw[←h.s,Nat.add_mul,Nat.mul_comm r B]
   omega
 have hq:0<q:=Nat.lt_of_le_of_lt (Nat.zero_le _) hlt;refine⟨hq,⟨?_,Nat.le_sub_one_of_lt hlt⟩⟩;have:=h.s;obtain⟨k,rfl⟩: ∃k,q=k+1:=⟨q-1,by omega⟩
 rw[Nat.add_mul]at this;simp only[Nat.add_sub_cancel];omega
theorem A9.done {B y y1 y0 u t q r:Nat} (hy:y=y1*B+y0) (hy0:0<y) (h:A9 B y y1 y0 u t q r) (hc:q*y0≤B*r+t):q=(u*B+t)/y:=by
 refine Nat.le_antisymm ((Nat.le_div_iff_mul_le hy0).2 ?_) h.ge;have e:q*y=q*y1*B+q*y0:=by rw[hy,Nat.mul_add,Nat.mul_assoc]
 have e2:u*B=q*y1*B+B*r:=by rw[←h.s,Nat.add_mul,Nat.mul_comm r B]
 omega
theorem A9.Tr {B y y1 y0 u t q r:Nat} (hy:y=y1*B+y0) (hy0:0<y) (hy0B:y0<B) (h:A9 B y y1 y0 u t q r) (hu:u<y) (hr:B≤r):q=(u*B+t)/y:=by
 have hq:q<B:=by
  rcases Nat.lt_or_ge q B with g|g
  ·exact g
  ·exfalso
   have:=Nat.mul_le_mul_right y1 g;have:=h.s;rw[Nat.mul_comm B y1]at*;omega
 refine h.done hy hy0 ?_;have h1:q*y0≤B*y0:=Nat.mul_le_mul_right _ (by omega)
 have h2:B*y0≤B*r:=Nat.mul_le_mul_left _ (by omega)
 omega
theorem A9.start {B y y1 y0 u t:Nat} (hy:y=y1*B+y0) (hy1:0<y1) (hu:u<y) (ht:t<B):A9 B y y1 y0 u t (u/y1) (u%y1):=by
 refine⟨by have:=Nat.div_add_mod u y1;rw[Nat.mul_comm];omega,?_⟩
 rcases Nat.eq_zero_or_pos B with hB|hB
 ·subst hB;omega
 ·have:(u*B+t)/y≤(u*B+t)/(y1*B):=Nat.div_le_div_left (by omega) (Nat.mul_pos hy1 hB)
  refine Nat.le_trans this ?_;rw[Nat.mul_comm y1 B,←Nat.div_div_eq_div_mul,Nat.mul_comm u B,Nat.mul_add_div hB,Nat.div_eq_of_lt ht];exact Nat.le_refl _
theorem A9.lt {B y y1 y0 u t q:Nat} (hy0:0<y) (hu:u<y) (ht:t<B) (h:q=(u*B+t)/y):q<B:=by
 rw[h];refine(Nat.div_lt_iff_lt_mul hy0).2 ?_;have:(u+1)*B≤y*B:=Nat.mul_le_mul_right _ hu;rw[Nat.add_mul]at this;rw[Nat.mul_comm B y];omega
theorem z9 {B y N u t1 t0 q1 q0 r1:Nat} (hB:0<B) (hy:0<y) (hN:N=u*(B*B)+t1*B+t0) (h1:q1=(u*B+t1)/y) (hr:r1=(u*B+t1)%y) (h0:q0=(r1*B+t0)/y):q1*B+q0=N/y∧(r1*B+t0)%y=N%y:=by
 have e:N=(r1*B+t0)+y*(q1*B):=by
  have:=Nat.div_add_mod (u*B+t1) y;rw[←h1,←hr]at this;have e2:(u*B+t1)*B=y*q1*B+r1*B:=by rw[←this,Nat.add_mul]
  rw[hN,←Nat.mul_assoc,←Nat.mul_assoc y];rw[Nat.add_mul]at e2;omega
 rw[e,Nat.add_mul_div_left _ _ hy,Nat.add_mul_mod_self_left,←h0];exact⟨by omega,rfl⟩
theorem kO {y:Nat} (h0:0<y) (h:y<18446744073709551616):1≤Lib.bitLen y∧2^(Lib.bitLen y-1)≤y∧y<2^Lib.bitLen y:=Lib.bitLenAux_bounds 64 y h (by omega)
structure Ny (hi lo y s:Nat):Prop where
 s64:s<64
 yl:9223372036854775808≤y*2^s
 yh:y*2^s<18446744073709551616
 hil:hi*2^s+lo/2^(64-s)<y*2^s
 eq:(hi*18446744073709551616+lo)*2^s=(hi*2^s+lo/2^(64-s))*18446744073709551616+lo*2^s%18446744073709551616
 hs:hi*2^s<18446744073709551616
 ol:lo/2^(64-s)<2^s
theorem scaled {hi lo y:Nat} (h:hi<y) (hlo:lo<18446744073709551616) (hy:y<18446744073709551616):Ny hi lo y (64-Lib.bitLen y):=by
 obtain⟨b1,b2,b3⟩:=kO (y:=y) (by omega) hy
 have b4:=Lib.bitLen_le y 64 (by decide) hy
 obtain⟨s,hs⟩: ∃s,s=64-Lib.bitLen y:=⟨_,rfl⟩;rw[←hs];have e1:2^(Lib.bitLen y-1)*2^s=9223372036854775808:=by rw[←Nat.pow_add,show Lib.bitLen y-1+s=63 by omega]
 have e2:2^Lib.bitLen y*2^s=18446744073709551616:=by rw[←Nat.pow_add,show Lib.bitLen y+s=64 by omega]
 have e3:2^(64-s)*2^s=18446744073709551616:=by rw[←Nat.pow_add,show 64-s+s=64 by omega]
 have hp:=Nat.two_pow_pos s;have hp':=Nat.two_pow_pos (64-s);have c1:9223372036854775808≤y*2^s:=by rw[←e1];exact Nat.mul_le_mul_right _ b2
 have c2:y*2^s<18446744073709551616:=by rw[←e2];exact Nat.mul_lt_mul_of_pos_right b3 hp
 have c3:lo/2^(64-s)<2^s:=by
  refine(Nat.div_lt_iff_lt_mul hp').2 ?_;rw[Nat.mul_comm,e3];exact hlo
 have c4:hi*2^s+2^s≤y*2^s:=by
  have:(hi+1)*2^s≤y*2^s:=Nat.mul_le_mul_right (2^s) h;rw[Nat.add_mul,Nat.one_mul]at this;exact this
 refine⟨by omega,c1,c2,by omega,?_,by omega,c3⟩
 have d1:=Nat.div_add_mod lo (2^(64-s));have d2:lo*2^s%18446744073709551616=lo%2^(64-s)*2^s:=by
  rw[←e3,Nat.mul_mod_mul_right]
 have d3:lo*2^s=lo/2^(64-s)*18446744073709551616+lo%2^(64-s)*2^s:=by
  rw[←e3];have:=congrArg (· *2^s) d1;simp only[Nat.add_mul]at this;rw[←this,Nat.mul_comm (2^(64-s)),Nat.mul_assoc]
 rw[d2,Nat.add_mul,d3,Nat.add_mul];have:hi*18446744073709551616*2^s=hi*2^s*18446744073709551616:=by rw[Nat.mul_assoc,Nat.mul_comm 18446744073709551616,Nat.mul_assoc]
 omega
theorem eZ {u B t q y:Nat} (hq:q=(u*B+t)/y):(u*B+t)-q*y=(u*B+t)%y:=by
 have:=Nat.div_add_mod (u*B+t) y;rw[hq,Nat.mul_comm _ y];omega
theorem ky {u t z:Nat} (h1:z≤u*4294967296+t) (h2:u*4294967296+t-z<18446744073709551616):
  ((u*4294967296%18446744073709551616+t)%18446744073709551616+(18446744073709551616-z%18446744073709551616%18446744073709551616))%18446744073709551616=u*4294967296+t-z:=by omega
theorem vM {u t q y:Nat} (hq:q=(u*4294967296+t)/y):q*y≤u*4294967296+t:=by rw[hq];exact Nat.div_mul_le_self _ _
theorem whole {N Y y s U V q1 q0 R:Nat} (hy:0<y) (hY:Y=y*2^s) (hN:N*2^s=U*18446744073709551616+V) (h1:q1=(U*4294967296+V/4294967296)/Y) (hR:R=(U*4294967296+V/4294967296)%Y) (h0:q0=(R*4294967296+V%4294967296)/Y):
  q1*4294967296+q0=N/y∧(R*4294967296+V%4294967296)%Y/2^s=N%y:=by
 have hp:=Nat.two_pow_pos s;have hYp:0<Y:=by rw[hY];exact Nat.mul_pos hy hp
 obtain⟨a,b⟩:=z9 (B:=4294967296) (y:=Y) (N:=N*2^s) (u:=U) (t1:=V/4294967296) (t0:=V%4294967296) (by decide) hYp (by rw[hN];omega) h1 hR h0
 rw[a,b,hY];exact⟨Nat.mul_div_mul_right _ _ hp,by rw[Nat.mul_mod_mul_right,Nat.mul_div_cancel _ hp]⟩
end Go.Dom
namespace Go.Proofs.YtmobkhegihemeaaGreatDoor
open Go Go.Dom
set_option maxRecDepth 100000
set_option maxHeartbeats 4000000
abbrev U (n:Nat):AV:= .v (.i .u64 n)
structure Hs (hi lo y s Y V u:Nat):Prop where
 hy:0<y
 s64:s<64
 yl:9223372036854775808≤Y
 yh:Y<18446744073709551616
 hY:Y=y*2^s
 hV:V=lo*2^s%18446744073709551616
 hVl:V<18446744073709551616
 hil:u<Y
 eqn:(hi*18446744073709551616+lo)*2^s=u*18446744073709551616+V
 hyy:Y=Y/4294967296*4294967296+Y%4294967296
theorem Hs.sub {hi lo y s Y V u:Nat} (D:Hs hi lo y s Y V u) {z:Nat} (hz:z<18446744073709551616):(z+(18446744073709551616-z/(Y/4294967296)*(Y/4294967296)%18446744073709551616))%18446744073709551616=z%(Y/4294967296):=by
 have g1:=Nat.div_add_mod z (Y/4294967296);have g2:=Nat.div_mul_le_self z (Y/4294967296);rw[Nat.mul_comm]at g1;generalize z/(Y/4294967296)*(Y/4294967296)=k at g1 g2⊢;generalize z%(Y/4294967296)=l at g1⊢;omega
theorem Hs.quo {hi lo y s Y V u:Nat} (D:Hs hi lo y s Y V u) {z:Nat} (hz:z<18446744073709551616):z/(Y/4294967296)%18446744073709551616=z/(Y/4294967296):=Nat.mod_eq_of_lt (Nat.lt_of_le_of_lt (Nat.div_le_self _ _) hz)
structure qt (Y u t:Nat) (x:Nat×Nat):Prop where
 d:A9 4294967296 Y (Y/4294967296) (Y%4294967296) u t x.1 x.2
 r:x.2<4294967296
 q:x.1<18446744073709551616
theorem qt.start {hi lo y s Y V u:Nat} (D:Hs hi lo y s Y V u) {z t:Nat} (hz:z<Y) (ht:t<4294967296):qt Y z t (z/(Y/4294967296),z%(Y/4294967296)):=by
 have:=D.yl;have:=D.yh;refine⟨A9.start D.hyy (by omega) hz ht,?_,?_⟩
 ·have:=Nat.mod_lt z (y:=Y/4294967296) (by omega)
  show z%(Y/4294967296)< _;omega
 ·show z/(Y/4294967296)< _;exact Nat.lt_of_le_of_lt (Nat.div_le_self _ _) (by omega)
theorem qt.fin {hi lo y s Y V u:Nat} (D:Hs hi lo y s Y V u) {z t q r:Nat} (hz:z<Y) (ht:t<4294967296) (h:qt Y z t (q,r)) (hq:q*(Y%4294967296)≤4294967296*r+t):q=(z*4294967296+t)/Y:=h.d.done D.hyy (by have:=D.yl;omega) hq
theorem qt.go {hi lo y s Y V u:Nat} (D:Hs hi lo y s Y V u) {z t q r:Nat} (hz:z<Y) (ht:t<4294967296) (h:qt Y z t (q,r)) (hq:4294967296≤q∨4294967296*r+t<q*(Y%4294967296)):
  (q+18446744073709551615)%18446744073709551616=q-1∧(r+Y/4294967296)%18446744073709551616=r+Y/4294967296∧q-1<q∧(4294967296≤r+Y/4294967296→q-1=(z*4294967296+t)/Y)∧(r+Y/4294967296<4294967296→qt Y z t (q-1,r+Y/4294967296)):=by
 have h1:=D.yl;have h2:=D.yh;have h3:=h.r;have h4:=h.q;simp only at h3 h4;obtain⟨p1,p2⟩:=h.d.step D.hyy (by omega) hz ht hq
 simp only at p1 p2;exact⟨by omega,by omega,by omega,fun g=>p2.Tr D.hyy (by omega) (by omega) hz g,fun g=>⟨p2,g,by show q-1< _;omega⟩⟩
theorem Hs.out {hi lo y s Y V u q1 z q0:Nat} (D:Hs hi lo y s Y V u) (hlo:lo<18446744073709551616) (h:hi<y) (h1:q1=(u*4294967296+V/4294967296)/Y) (hz:z=(u*4294967296+V/4294967296)%Y) (h0:q0=(z*4294967296+V%4294967296)/Y):
  (q1*4294967296%18446744073709551616+q0)%18446744073709551616=(hi*18446744073709551616+lo)/y∧((z*4294967296%18446744073709551616+V%4294967296)%18446744073709551616+(18446744073709551616-q0*Y%18446744073709551616))%18446744073709551616/2^s=(hi*18446744073709551616+lo)%y:=by
 have hy:=D.hy;have yl:=D.yl;have yh:=D.yh;obtain⟨a,b⟩:=whole (N:=hi*18446744073709551616+lo) hy D.hY D.eqn h1 hz h0;have hzl:z<Y:=by rw[hz];exact Nat.mod_lt _ (by omega)
 have hq0:q0<4294967296:=A9.lt (B:=4294967296) (y1:=Y/4294967296) (y0:=Y%4294967296) (by omega) hzl (Nat.mod_lt _ (by decide)) h0
 have hq1:q1<4294967296:=A9.lt (B:=4294967296) (y1:=Y/4294967296) (y0:=Y%4294967296) (by omega) D.hil (by have:=D.hVl;omega) h1
 have hw:=ky (vM h0) (by rw[eZ h0];exact Nat.lt_of_lt_of_le (Nat.mod_lt _ (by omega)) (by omega))
 rw[eZ h0,Nat.mod_mod]at hw;rw[hw,b,←a];exact⟨by omega,rfl⟩
theorem wu (hi lo y:Nat) (h:hi<y) (hlo:lo<18446744073709551616) (hy:y<18446744073709551616):aA Tryz.prog 211 [.i .u64 hi, .i .u64 lo, .i .u64 y] (.tup [.i .u64 ((hi*18446744073709551616+lo)/y:Nat), .i .u64 ((hi*18446744073709551616+lo)%y:Nat)]):=by
 by_cases h0:hi=0
 ·subst h0;have hq:=Nat.mod_eq_of_lt (Nat.lt_of_le_of_lt (Nat.div_le_self lo y) hlo);refine eW Tryz.call211 Tryz.func211 ?_;repeat' first|simp only[go_sem,seval,uw,hq,Nat.zero_mul]|refine sB ?_|(first|apply pX|apply bX)<;>intro hc|refine⟨oD,?_⟩|exact oD|fail
 have sc:=scaled h hlo hy;obtain⟨s,hs⟩: ∃s,s=64-Lib.bitLen y:=⟨_,rfl⟩;rw[←hs]at sc;have hlz:=mF y hy;rw[←hs]at hlz;obtain⟨s64,yl,yh,hil,eqn,hs1,ol⟩:=sc;obtain⟨Y,hY⟩: ∃Y,Y=y*2^s:=⟨_,rfl⟩;obtain⟨V,hV⟩: ∃V,V=lo*2^s%18446744073709551616:=⟨_,rfl⟩;obtain⟨u,hu⟩: ∃u,u=hi*2^s+lo/2^(64-s):=⟨_,rfl⟩;rw[←hY]at yl yh hil;rw[←hu]at hil eqn;rw[←hV]at eqn;have hVl:V<18446744073709551616:=by rw[hV];exact Nat.mod_lt _ (by decide)
 have D:Hs hi lo y s Y V u:=⟨by omega,s64,yl,yh,hY,hV,hVl,hil,eqn,by omega⟩
 have e1: ∀ _:True,s%18446744073709551616=s:=fun _=>by omega
 have e2: ∀ _:True,Y%18446744073709551616=Y:=fun _=>by omega
 have e3: ∀ _:True,hi*2^s%18446744073709551616=hi*2^s:=fun _=>Nat.mod_eq_of_lt hs1
 have e4: ∀ _:True,(64+(18446744073709551616-s))%18446744073709551616=64-s:=fun _=>by omega
 have e5: ∀ _:True,zR .u64 ((hi*2^s:Nat):Int) ((lo/2^(64-s):Nat):Int)=(u:Int):=fun _=>by
  rw[ND .u64 rfl hs1 (Nat.lt_of_le_of_lt (Nat.div_le_self _ _) hlo),wA ol,hu]
 have hm1: ∀ _:True,(if s≤64 then s else 64)=s:=fun _=>by split<;>omega
 have hm2: ∀ _:True,(if 64-s≤64 then 64-s else 64)=64-s:=fun _=>by split<;>omega
 have hY': ∀ _:True,y*2^s=Y:=fun _=>hY.symm
 have hV': ∀ _:True,lo*2^s%18446744073709551616=V:=fun _=>hV.symm
 have hr0: ∀ _:True,(u+(18446744073709551616-u/(Y/4294967296)*(Y/4294967296)%18446744073709551616))%18446744073709551616=u%(Y/4294967296):=fun _=>D.sub (by omega)
 have hq0: ∀ _:True,u/(Y/4294967296)%18446744073709551616=u/(Y/4294967296):=fun _=>D.quo (by omega)
 have hy1:Y/4294967296≠0:=by omega
 have h':=h;clear hs hY hV hu eqn hs1 ol hil yl yh hVl s64;refine eW Tryz.call211 Tryz.func211 ?_;simp only[go_sem,seval,uw,ss,mE,qD,yY,wC,rp,uz,qZ,q9,lC];repeat' first|simp only[go_sem,seval,uw,ss,mE,qD,yY,wC,rp,uz,qZ,q9,lC,e1 trivial,hm1 trivial,hm2 trivial,hY' trivial,e2 trivial,e3 trivial,e4 trivial,e5 trivial,hV' trivial,hq0 trivial,Nat.mod_mod,hr0 trivial]|refine cP hlz ?_|refine sB ?_|(first|apply pX|apply bX)<;>intro hc|refine⟨oD,?_⟩|exact oD|fail
 clear e1 e2 e3 e4 e5 hm2 hr0 hq0 hlz hY' hV' h0;refine ai (α:=Nat×Nat) (fun x=>x.1) (fun x=>⟨[(2,U Y),(8,U s),(9,U (Y/4294967296)),(10,U (Y%4294967296)),(11,U u),(13,U (V/4294967296)),(14,U (V%4294967296)),(15,U x.1),(16,U x.2)],[],_⟩) (qt Y u (V/4294967296)) (u/(Y/4294967296),u%(Y/4294967296)) (fun _=>Nat.le_refl _) (.start D D.hil (by have:=D.hVl;omega)) ?_ ?_
 ·exact lE
 ·rintro⟨q,r⟩ hd R hR;have f0:=hd.r;simp only at f0;have f1: ∀ _:True,4294967296*r%18446744073709551616=4294967296*r:=fun _=>by omega
  have f2: ∀ _:True,(4294967296*r+V/4294967296)%18446744073709551616=4294967296*r+V/4294967296:=fun _=>by have:=D.hVl;omega
  have f3:q*(Y%4294967296)<4294967296*4294967296∨4294967296≤q:=by
   by_cases g:4294967296≤q
   ·exact .inr g
   ·exact .inl (Nat.mul_lt_mul'' (by omega) (Nat.mod_lt _ (by decide)))
  repeat' first|simp only[go_sem,seval,uw,ss,mE,qD,yY,wC,rp,uz,qZ,q9,lC,f1 trivial,f2 trivial]|refine sB ?_|(first|apply pX|apply bX)<;>intro hc|refine⟨oD,?_⟩|exact oD|fail
  ·obtain⟨g1,g2,g3,g4,g5⟩:=hd.go D D.hil (by have:=D.hVl;omega) (by omega)
   have hq1:(q-1)=(u*4294967296+V/4294967296)/Y:=g4 (by omega)
   obtain⟨q1,e1⟩: ∃q1,q1=(q-1):=⟨_,rfl⟩;rw[←e1]at hq1;obtain⟨z,hz⟩: ∃z,z=(u*4294967296+V/4294967296)%Y:=⟨_,rfl⟩;have hyl:=D.yl;have hyh:=D.yh;have hzl:z<Y:=by rw[hz];exact Nat.mod_lt _ (by omega)
   have hw1:=ky (vM hq1) (by rw[eZ hq1,←hz];omega)
   rw[eZ hq1,←hz,Nat.mod_mod]at hw1;have hq0:=D.quo (z:=z) (by omega)
   have hr0:=D.sub (z:=z) (by omega)
   simp only[g1,←e1,Nat.mod_mod,hw1,hq0,hr0];clear hw1 hq0 hr0 hyl hyh e1 f0 f3;refine ai (α:=Nat×Nat) (fun x=>x.1) (fun x=>⟨[(2,U Y),(8,U s),(9,U (Y/4294967296)),(10,U (Y%4294967296)),(14,U (V%4294967296)),(15,U q1),(17,U z),(18,U x.1),(16,U x.2)],[],_⟩) (qt Y z (V%4294967296)) (z/(Y/4294967296),z%(Y/4294967296)) (fun _=>Nat.le_refl _) (.start D hzl (Nat.mod_lt _ (by decide))) ?_ ?_
   ·exact lE
   ·rintro⟨q,r⟩ hd R hR;have f0:=hd.r;simp only at f0;have f1: ∀ _:True,4294967296*r%18446744073709551616=4294967296*r:=fun _=>by omega
    have f2: ∀ _:True,(4294967296*r+V%4294967296)%18446744073709551616=4294967296*r+V%4294967296:=fun _=>by have:=D.hVl;omega
    have f3:q*(Y%4294967296)<4294967296*4294967296∨4294967296≤q:=by
     by_cases g:4294967296≤q
     ·exact .inr g
     ·exact .inl (Nat.mul_lt_mul'' (by omega) (Nat.mod_lt _ (by decide)))
    repeat' first|simp only[go_sem,seval,uw,ss,mE,qD,yY,wC,rp,uz,qZ,q9,lC,f1 trivial,f2 trivial]|refine sB ?_|(first|apply pX|apply bX)<;>intro hc|refine⟨oD,?_⟩|exact oD|fail
    ·obtain⟨g1,g2,g3,g4,g5⟩:=hd.go D hzl (Nat.mod_lt _ (by decide)) (by omega)
     have:=D.out hlo h' hq1 hz (g4 (by omega))
     simp only[g1,hm1 trivial,Nat.mod_mod,this.1,this.2]
    ·obtain⟨g1,g2,g3,g4,g5⟩:=hd.go D hzl (Nat.mod_lt _ (by decide)) (by omega)
     refine hR (q-1,r+Y/4294967296) (g5 (by omega)) g3 _ ?_
     rw[g1,g2];exact lE
    ·obtain⟨g1,g2,g3,g4,g5⟩:=hd.go D hzl (Nat.mod_lt _ (by decide)) (by omega)
     have:=D.out hlo h' hq1 hz (g4 (by omega))
     simp only[g1,hm1 trivial,Nat.mod_mod,this.1,this.2]
    ·obtain⟨g1,g2,g3,g4,g5⟩:=hd.go D hzl (Nat.mod_lt _ (by decide)) (by omega)
     refine hR (q-1,r+Y/4294967296) (g5 (by omega)) g3 _ ?_
     rw[g1,g2];exact lE
    ·have:=D.out hlo h' hq1 hz (hd.fin D hzl (Nat.mod_lt _ (by decide)) (by omega))
     simp only[hm1 trivial,Nat.mod_mod,this.1,this.2]
  ·obtain⟨g1,g2,g3,g4,g5⟩:=hd.go D D.hil (by have:=D.hVl;omega) (by omega)
   refine hR (q-1,r+Y/4294967296) (g5 (by omega)) g3 _ ?_
   rw[g1,g2];exact lE
  ·obtain⟨g1,g2,g3,g4,g5⟩:=hd.go D D.hil (by have:=D.hVl;omega) (by omega)
   have hq1:(q-1)=(u*4294967296+V/4294967296)/Y:=g4 (by omega)
   obtain⟨q1,e1⟩: ∃q1,q1=(q-1):=⟨_,rfl⟩;rw[←e1]at hq1;obtain⟨z,hz⟩: ∃z,z=(u*4294967296+V/4294967296)%Y:=⟨_,rfl⟩;have hyl:=D.yl;have hyh:=D.yh;have hzl:z<Y:=by rw[hz];exact Nat.mod_lt _ (by omega)
   have hw1:=ky (vM hq1) (by rw[eZ hq1,←hz];omega)
   rw[eZ hq1,←hz,Nat.mod_mod]at hw1;have hq0:=D.quo (z:=z) (by omega)
   have hr0:=D.sub (z:=z) (by omega)
   simp only[g1,←e1,Nat.mod_mod,hw1,hq0,hr0];clear hw1 hq0 hr0 hyl hyh e1 f0 f3;refine ai (α:=Nat×Nat) (fun x=>x.1) (fun x=>⟨[(2,U Y),(8,U s),(9,U (Y/4294967296)),(10,U (Y%4294967296)),(14,U (V%4294967296)),(15,U q1),(17,U z),(18,U x.1),(16,U x.2)],[],_⟩) (qt Y z (V%4294967296)) (z/(Y/4294967296),z%(Y/4294967296)) (fun _=>Nat.le_refl _) (.start D hzl (Nat.mod_lt _ (by decide))) ?_ ?_
   ·exact lE
   ·rintro⟨q,r⟩ hd R hR;have f0:=hd.r;simp only at f0;have f1: ∀ _:True,4294967296*r%18446744073709551616=4294967296*r:=fun _=>by omega
    have f2: ∀ _:True,(4294967296*r+V%4294967296)%18446744073709551616=4294967296*r+V%4294967296:=fun _=>by have:=D.hVl;omega
    have f3:q*(Y%4294967296)<4294967296*4294967296∨4294967296≤q:=by
     by_cases g:4294967296≤q
     ·exact .inr g
     ·exact .inl (Nat.mul_lt_mul'' (by omega) (Nat.mod_lt _ (by decide)))
    repeat' first|simp only[go_sem,seval,uw,ss,mE,qD,yY,wC,rp,uz,qZ,q9,lC,f1 trivial,f2 trivial]|refine sB ?_|(first|apply pX|apply bX)<;>intro hc|refine⟨oD,?_⟩|exact oD|fail
    ·obtain⟨g1,g2,g3,g4,g5⟩:=hd.go D hzl (Nat.mod_lt _ (by decide)) (by omega)
     have:=D.out hlo h' hq1 hz (g4 (by omega))
     simp only[g1,hm1 trivial,Nat.mod_mod,this.1,this.2]
    ·obtain⟨g1,g2,g3,g4,g5⟩:=hd.go D hzl (Nat.mod_lt _ (by decide)) (by omega)
     refine hR (q-1,r+Y/4294967296) (g5 (by omega)) g3 _ ?_
     rw[g1,g2];exact lE
    ·obtain⟨g1,g2,g3,g4,g5⟩:=hd.go D hzl (Nat.mod_lt _ (by decide)) (by omega)
     have:=D.out hlo h' hq1 hz (g4 (by omega))
     simp only[g1,hm1 trivial,Nat.mod_mod,this.1,this.2]
    ·obtain⟨g1,g2,g3,g4,g5⟩:=hd.go D hzl (Nat.mod_lt _ (by decide)) (by omega)
     refine hR (q-1,r+Y/4294967296) (g5 (by omega)) g3 _ ?_
     rw[g1,g2];exact lE
    ·have:=D.out hlo h' hq1 hz (hd.fin D hzl (Nat.mod_lt _ (by decide)) (by omega))
     simp only[hm1 trivial,Nat.mod_mod,this.1,this.2]
  ·obtain⟨g1,g2,g3,g4,g5⟩:=hd.go D D.hil (by have:=D.hVl;omega) (by omega)
   refine hR (q-1,r+Y/4294967296) (g5 (by omega)) g3 _ ?_
   rw[g1,g2];exact lE
  ·have hq1:q=(u*4294967296+V/4294967296)/Y:=hd.fin D D.hil (by have:=D.hVl;omega) (by omega)
   obtain⟨q1,e1⟩: ∃q1,q1=q:=⟨_,rfl⟩;rw[←e1]at hq1;obtain⟨z,hz⟩: ∃z,z=(u*4294967296+V/4294967296)%Y:=⟨_,rfl⟩;have hyl:=D.yl;have hyh:=D.yh;have hzl:z<Y:=by rw[hz];exact Nat.mod_lt _ (by omega)
   have hw1:=ky (vM hq1) (by rw[eZ hq1,←hz];omega)
   rw[eZ hq1,←hz,Nat.mod_mod]at hw1;have hq0:=D.quo (z:=z) (by omega)
   have hr0:=D.sub (z:=z) (by omega)
   simp only[true_and,←e1,Nat.mod_mod,hw1,hq0,hr0];clear hw1 hq0 hr0 hyl hyh e1 f0 f3;refine ai (α:=Nat×Nat) (fun x=>x.1) (fun x=>⟨[(2,U Y),(8,U s),(9,U (Y/4294967296)),(10,U (Y%4294967296)),(14,U (V%4294967296)),(15,U q1),(17,U z),(18,U x.1),(16,U x.2)],[],_⟩) (qt Y z (V%4294967296)) (z/(Y/4294967296),z%(Y/4294967296)) (fun _=>Nat.le_refl _) (.start D hzl (Nat.mod_lt _ (by decide))) ?_ ?_
   ·exact lE
   ·rintro⟨q,r⟩ hd R hR;have f0:=hd.r;simp only at f0;have f1: ∀ _:True,4294967296*r%18446744073709551616=4294967296*r:=fun _=>by omega
    have f2: ∀ _:True,(4294967296*r+V%4294967296)%18446744073709551616=4294967296*r+V%4294967296:=fun _=>by have:=D.hVl;omega
    have f3:q*(Y%4294967296)<4294967296*4294967296∨4294967296≤q:=by
     by_cases g:4294967296≤q
     ·exact .inr g
     ·exact .inl (Nat.mul_lt_mul'' (by omega) (Nat.mod_lt _ (by decide)))
    repeat' first|simp only[go_sem,seval,uw,ss,mE,qD,yY,wC,rp,uz,qZ,q9,lC,f1 trivial,f2 trivial]|refine sB ?_|(first|apply pX|apply bX)<;>intro hc|refine⟨oD,?_⟩|exact oD|fail
    ·obtain⟨g1,g2,g3,g4,g5⟩:=hd.go D hzl (Nat.mod_lt _ (by decide)) (by omega)
     have:=D.out hlo h' hq1 hz (g4 (by omega))
     simp only[g1,hm1 trivial,Nat.mod_mod,this.1,this.2]
    ·obtain⟨g1,g2,g3,g4,g5⟩:=hd.go D hzl (Nat.mod_lt _ (by decide)) (by omega)
     refine hR (q-1,r+Y/4294967296) (g5 (by omega)) g3 _ ?_
     rw[g1,g2];exact lE
    ·obtain⟨g1,g2,g3,g4,g5⟩:=hd.go D hzl (Nat.mod_lt _ (by decide)) (by omega)
     have:=D.out hlo h' hq1 hz (g4 (by omega))
     simp only[g1,hm1 trivial,Nat.mod_mod,this.1,this.2]
    ·obtain⟨g1,g2,g3,g4,g5⟩:=hd.go D hzl (Nat.mod_lt _ (by decide)) (by omega)
     refine hR (q-1,r+Y/4294967296) (g5 (by omega)) g3 _ ?_
     rw[g1,g2];exact lE
    ·have:=D.out hlo h' hq1 hz (hd.fin D hzl (Nat.mod_lt _ (by decide)) (by omega))
     simp only[hm1 trivial,Nat.mod_mod,this.1,this.2]
theorem Hl (hi lo y:Nat) (h0:0<y) (hhi:hi<18446744073709551616) (hlo:lo<18446744073709551616) (hy:y<18446744073709551616):aA Tryz.prog 240 [.i .u64 hi, .i .u64 lo, .i .u64 y] (.i .u64 ((hi*18446744073709551616+lo)%y:Nat)):=by
 have h1:hi%y<y:=Nat.mod_lt _ h0;have h2:(hi%y*18446744073709551616+lo)%y=(hi*18446744073709551616+lo)%y:=by
  rw[Nat.add_mod,Nat.mul_mod,Nat.mod_mod,←Nat.mul_mod,←Nat.add_mod]
 refine eW Tryz.call240 Tryz.func240 ?_;repeat' first|simp only[go_sem,seval,h2]|refine cP (wu _ _ _ h1 hlo hy) ?_|refine sB ?_|(first|apply pX|apply bX)<;>intro hc|refine⟨oD,?_⟩|exact oD|fail
end Go.Proofs.YtmobkhegihemeaaGreatDoor
namespace Go.Dom
def ad (a b:Nat):Nat:=(a+b)%4294967296
def tK (a b:Nat):Nat:=(a%4294967296)|||(b%4294967296)
def nc (a b:Nat):Nat:=(a%4294967296)^^^(b%4294967296)
def DM (a b:Nat):Nat:=(a%4294967296)&&&(b%4294967296)
def Pv (a:Nat):Nat:=4294967295^^^(a%4294967296)
def oK (a k:Nat):Nat:=a*2^k%4294967296
theorem G8 (a b:Nat):tK a b=tK b a:=Nat.or_comm _ _
theorem gO (a:Nat):BitVec.ofInt 32 ((a%4294967296:Nat):Int)=BitVec.ofInt 32 (a:Int):=by
 rw[dy,dy];apply BitVec.eq_of_toNat_eq;simp
theorem yV:IntKind.bits .u32=32:=rfl
theorem nS (a b:Nat):IntKind.u32.wrap ((a:Int)+(b:Int))=((ad a b:Nat):Int):=by rw[JS,ad];omega
theorem Su (a b:Nat):zR .u32 (a:Int) (b:Int)=((tK a b:Nat):Int):=by
 have h:=ND .u32 rfl (a:=a%4294967296) (b:=b%4294967296) (Nat.mod_lt _ (by decide)) (Nat.mod_lt _ (by decide))
 rw[tK,←h,zR,zR,yV,gO,gO]
theorem RH (a b:Nat):xg .u32 (a:Int) (b:Int)=((nc a b:Nat):Int):=by
 have h:=Lc .u32 rfl (a:=a%4294967296) (b:=b%4294967296) (Nat.mod_lt _ (by decide)) (Nat.mod_lt _ (by decide))
 rw[nc,←h,xg,xg,yV,gO,gO]
theorem Sv (a b:Nat):ia .u32 (a:Int) (b:Int)=((DM a b:Nat):Int):=by
 have h:=ET .u32 rfl (a:=a%4294967296) (b:=b%4294967296) (Nat.mod_lt _ (by decide)) (Nat.mod_lt _ (by decide))
 rw[DM,←h,ia,ia,yV,gO,gO]
theorem Td (a:Nat):IntKind.u32.wrap ((BitVec.ofInt 32 4294967295^^^BitVec.ofInt 32 (a:Int)).toNat:Int)=((Pv a:Nat):Int):=by
 have h:BitVec.ofInt 32 4294967295=BitVec.ofNat 32 4294967295:=rfl;have h2:4294967295^^^a%4294967296<2^32:=Nat.xor_lt_two_pow (by decide) (Nat.mod_lt _ (by decide))
 rw[h,dy,BitVec.toNat_xor,BitVec.toNat_ofNat,BitVec.toNat_ofNat,Pv,JS];simp only[Nat.reducePow,Nat.reduceMod]at*;omega
theorem QL (a k:Nat):IntKind.u32.wrap ((a:Int)*2^k)=((oK a k:Nat):Int):=by
 rw[JS,oK];have:((2:Int)^k)=((2^k:Nat):Int):=by simp
 rw[this,←Int.natCast_mul];omega
def ql:List Nat:=[0x428a2f98,0x71374491,0xb5c0fbcf,0xe9b5dba5,0x3956c25b,0x59f111f1,0x923f82a4,0xab1c5ed5,
 0xd807aa98,0x12835b01,0x243185be,0x550c7dc3,0x72be5d74,0x80deb1fe,0x9bdc06a7,0xc19bf174,
 0xe49b69c1,0xefbe4786,0x0fc19dc6,0x240ca1cc,0x2de92c6f,0x4a7484aa,0x5cb0a9dc,0x76f988da,
 0x983e5152,0xa831c66d,0xb00327c8,0xbf597fc7,0xc6e00bf3,0xd5a79147,0x06ca6351,0x14292967,
 0x27b70a85,0x2e1b2138,0x4d2c6dfc,0x53380d13,0x650a7354,0x766a0abb,0x81c2c92e,0x92722c85,
 0xa2bfe8a1,0xa81a664b,0xc24b8b70,0xc76c51a3,0xd192e819,0xd6990624,0xf40e3585,0x106aa070,
 0x19a4c116,0x1e376c08,0x2748774c,0x34b0bcb5,0x391c0cb3,0x4ed8aa4a,0x5b9cca4f,0x682e6ff3,
 0x748f82ee,0x78a5636f,0x84c87814,0x8cc70208,0x90befffa,0xa4506ceb,0xbef9a3f7,0xc67178f2]
def mS:List Nat:=[0x6a09e667,0xbb67ae85,0x3c6ef372,0xa54ff53a,0x510e527f,0x9b05688c,0x1f83d9ab,0x5be0cd19]
def rr (x n:Nat):Nat:=tK (x/2^n) (oK x (32-n))
def Pz (x:Nat):Nat:=nc (nc (rr x 7) (rr x 18)) (x/8)
def QB (x:Nat):Nat:=nc (nc (rr x 17) (rr x 19)) (x/1024)
def GN (l:List Nat):Nat:=ad (ad (ad (l.getD (l.length-16) 0) (Pz (l.getD (l.length-15) 0))) (l.getD (l.length-7) 0)) (QB (l.getD (l.length-2) 0))
def DT:Nat→List Nat→List Nat
 |0,l=>l
 |n+1,l=>DT n (l++[GN l])
def y3 (blk:Bytes) (i:Nat):Nat:=num ((blk.drop (4*i)).take 4)
def sched (blk:Bytes):List Nat:=DT 48 ((List.range 16).map (y3 blk))
def F9 (k w:Nat) (v:List Nat):Nat:=ad (ad (ad (ad (v.getD 7 0) (nc (nc (rr (v.getD 4 0) 6) (rr (v.getD 4 0) 11)) (rr (v.getD 4 0) 25))) (nc (DM (v.getD 4 0) (v.getD 5 0)) (DM (Pv (v.getD 4 0)) (v.getD 6 0)))) k) w
def L4 (v:List Nat):Nat:=ad (nc (nc (rr (v.getD 0 0) 2) (rr (v.getD 0 0) 13)) (rr (v.getD 0 0) 22)) (nc (nc (DM (v.getD 0 0) (v.getD 1 0)) (DM (v.getD 0 0) (v.getD 2 0))) (DM (v.getD 1 0) (v.getD 2 0)))
def JP (k w:Nat) (v:List Nat):List Nat:=[ad (F9 k w v) (L4 v),v.getD 0 0,v.getD 1 0,v.getD 2 0,ad (v.getD 3 0) (F9 k w v),v.getD 4 0,v.getD 5 0,v.getD 6 0]
def yJ (W:List Nat):Nat→List Nat→List Nat
 |0,v=>v
 |n+1,v=>yJ W n (JP (ql.getD (63-n) 0) (W.getD (63-n) 0) v)
def vP (st:List Nat) (blk:Bytes):List Nat:=List.zipWith ad (yJ (sched blk) 64 st) st
def qX:Nat→Bytes→List Nat→List Nat
 |0,_,st=>st
 |n+1,m,st=>qX n (m.drop 64) (vP st (m.take 64))
def pad (s:Bytes):Bytes:=s++128::(List.replicate ((119-s.length%64)%64) 0++be 8 (s.length*8))
def Qp (w:Nat):Bytes:=[UInt8.ofNat (w/2^24),UInt8.ofNat (w/2^16),UInt8.ofNat (w/2^8),UInt8.ofNat w]
def jm (s:Bytes):Bytes:=(qX ((pad s).length/64) (pad s) mS).flatMap Qp
theorem x9: ∀n l,(DT n l).length=l.length+n
 |0,l=>rfl
 |n+1,l=>by rw[DT,x9 n];simp;omega
theorem kE (b:Bytes):(sched b).length=64:=by simp[sched,x9]
theorem DY (k w:Nat) (v:List Nat):(JP k w v).length=8:=rfl
theorem xz (W:List Nat): ∀n v,v.length=8→(yJ W n v).length=8
 |0,v,h=>h
 |n+1,v,h=>xz W n _ (DY _ _ _)
theorem mV {st:List Nat} (b:Bytes) (h:st.length=8):(vP st b).length=8:=by simp[vP,xz _ _ _ h,h]
theorem wa: ∀n m st,st.length=8→(qX n m st).length=8
 |0,m,st,h=>h
 |n+1,m,st,h=>wa n _ _ (mV _ h)
theorem HI (s:Bytes):(pad s).length=s.length+9+(119-s.length%64)%64:=by simp[pad,a5];omega
theorem Me (s:Bytes):(pad s).length=(pad s).length/64*64:=by rw[HI];omega
theorem eC (s:Bytes):(jm s).length=32:=by
 have h:=wa ((pad s).length/64) (pad s) mS rfl;unfold jm;generalize qX ((pad s).length/64) (pad s) mS=l at h;obtain⟨a,b,c,d,e,f,g,i,rfl⟩: ∃a b c d e f g i,l=[a,b,c,d,e,f,g,i]:=by
  match l,h with
  |[a,b,c,d,e,f,g,i],_=>exact⟨_,_,_,_,_,_,_,_,rfl⟩
 rfl
def eU (k:Nat) (parts:List Bytes):Bytes:=UInt8.ofNat k::(be 8 parts.length++parts.flatMap fun s=>be 8 s.length++s)
def lW (l:Bytes):Bytes:=jm (eU 78 [l])
def fy (st l d:Bytes):Bytes:=jm (eU 65 [st,l,d])
def fP (st l:Bytes) (xs:List Bytes):Bytes:=jm (eU 76 (st::l::xs))
def jE (x:Bool×Bytes):Bytes:=(if x.1 then 45 else 43)::x.2
def yX (st l:Bytes) (xs:List (Bool×Bytes)):Bytes:=jm (eU 73 (st::l::xs.map jE))
def qF (st:Bytes):Bytes:=jm (eU 67 [st,be 8 0])
def gJ (st bound:Bytes):Nat:=num ((qF st).take (bound.length+8))%num bound
theorem Cv (l:Bytes):(lW l).length=32:=eC _
theorem kq (st l d:Bytes):(fy st l d).length=32:=eC _
theorem eV (st l:Bytes) (xs:List Bytes):(fP st l xs).length=32:=eC _
theorem y8 (st l:Bytes) (xs:List (Bool×Bytes)):(yX st l xs).length=32:=eC _
theorem y9 (st:Bytes):(qF st).length=32:=eC _
def bH (parts:List Bytes):Bytes:=parts.flatMap fun s=>be 8 s.length++s
theorem jR (l:List Bytes) (s:Bytes):bH (l++[s])=bH l++(be 8 s.length++s):=by simp[bH]
theorem lB (l:List Bytes) {n:Nat} (h: ∀s∈l,s.length≤n):(bH l).length≤l.length*(8+n):=by
 induction l with
 |nil=>simp[bH]
 |cons x l ih=>
  have h1:=ih fun s hs=>h s (List.mem_cons_of_mem _ hs)
  have h2:=h x (by simp)
  have e:(bH (x::l)).length=8+x.length+(bH l).length:=by simp[bH,a5];omega
  rw[e,List.length_cons,Nat.succ_mul];omega
theorem yr (N k:Nat) (h:k<8):(be 8 N).take (k+1)=(be 8 N).take k++[UInt8.ofNat (N/256^(7-k))]:=by
 match k,h with
 |0,_=>rfl
 |1,_=>rfl
 |2,_=>rfl
 |3,_=>rfl
 |4,_=>rfl
 |5,_=>rfl
 |6,_=>rfl
 |7,_=>rfl
theorem F8 (k n:Nat):be k n=be k (n%256^k):=by
 have h1:num (be k n)=num (be k (n%256^k)):=by rw[qW,qW,Nat.mod_mod]
 have h2:=uF (be k n);have h3:=uF (be k (n%256^k));rw[a5]at h2 h3;rw[←h2,h1,h3]
theorem qV (k m n:Nat):be (k+m) n=be k (n/256^m)++be m n:=by
 induction k with
 |zero=>simp[be]
 |succ k ih=>
  rw[show k+1+m=(k+m)+1 by omega]
  simp only[be,ih,List.cons_append];rw[Nat.div_div_eq_div_mul,←Nat.pow_add,Nat.add_comm m k]
theorem NW {n j Q c:Nat} (hj:j<n) (hc:Q/256^j%256+c<256):(be n Q).set (n-1-j) (UInt8.ofNat (Q/256^j%256+c))=be n (Q+c*256^j):=by
 obtain⟨k,rfl⟩: ∃k,n=k+(j+1):=⟨n-j-1,by omega⟩
 have hp:0<256^j:=eP j;have h1:(Q+c*256^j)/256^j=Q/256^j+c:=Nat.add_mul_div_right _ _ hp;have h2:(Q+c*256^j)/256^(j+1)=Q/256^(j+1):=by
  rw[Nat.pow_succ,←Nat.div_div_eq_div_mul,←Nat.div_div_eq_div_mul,h1];omega
 have h3:be j (Q+c*256^j)=be j Q:=by rw[F8,Nat.add_mul_mod_self_right,←F8]
 rw[qV k (j+1),qV k (j+1),h2,show k+(j+1)-1-j=k by omega]
 have hl:(be k (Q/256^(j+1))).length=k:=a5 _ _;have:=An (be k (Q/256^(j+1))) (be j Q) (UInt8.ofNat (Q/256^j)) (UInt8.ofNat (Q/256^j%256+c));rw[hl]at this;simp only[be,h1,h3];rw[this];congr 2;exact ofNat_mod (by omega)
theorem yc (A i:Nat):A/2^i=2*(A/2^(i+1))+A/2^i%2:=by
 rw[Nat.pow_succ,←Nat.div_div_eq_div_mul];omega
theorem Gi {z t B:Nat} (hB:0<B) (ht:t<2):(2*z+t)/B=2*(z/B)+(if B≤2*(z%B)+t then 1 else 0)∧(2*z+t)%B=(if B≤2*(z%B)+t then 2*(z%B)+t-B else 2*(z%B)+t):=by
 have h1:=Nat.div_add_mod z B;have h2:=Nat.mod_lt z hB;generalize z/B=q at*;generalize z%B=r at*;have e:2*z+t=B*(2*q)+(2*r+t):=by
  have:B*(2*q)=2*(B*q):=by rw[Nat.mul_left_comm]
  omega
 split
 ·have e2:2*z+t=(2*r+t-B)+B*(2*q+1):=by rw[Nat.mul_add,Nat.mul_one];omega
  constructor
  ·rw[e2,Nat.add_mul_div_left _ _ hB,Nat.div_eq_of_lt (by omega)];omega
  ·rw[e2,Nat.add_mul_mod_self_left,Nat.mod_eq_of_lt (by omega)]
 ·constructor
  ·rw[e,Nat.add_comm,Nat.add_mul_div_left _ _ hB,Nat.div_eq_of_lt (by omega)];omega
  ·rw[e,Nat.add_comm,Nat.add_mul_mod_self_left,Nat.mod_eq_of_lt (by omega)]
theorem GD {Q i:Nat}:Q*2^(i+1)/256^(i/8)%256+2^(i%8)<256:=by
 have h8:i%8<8:=Nat.mod_lt _ (by decide)
 have e1:256^(i/8)=2^(8*(i/8)):=by rw[show 256=2^8 from rfl,←Nat.pow_mul]
 have e2:Q*2^(i+1)/256^(i/8)=Q*2^(i%8+1):=by
  rw[e1,show i+1=(i%8+1)+8*(i/8) by omega,Nat.pow_add 2 (i%8+1),←Nat.mul_assoc,Nat.mul_div_cancel _ (Nat.pow_pos (by decide))]
 rw[e2];generalize i%8=e at h8;have:e=0∨e=1∨e=2∨e=3∨e=4∨e=5∨e=6∨e=7:=by omega
 rcases this with rfl|rfl|rfl|rfl|rfl|rfl|rfl|rfl<;>simp only[Nat.reduceAdd,Nat.reducePow]<;>omega
theorem Hr {i:Nat}:2^(i%8)*256^(i/8)=2^i:=by
 rw[show 256=2^8 from rfl,←Nat.pow_mul,←Nat.pow_add];congr 1;omega
end Go.Dom
