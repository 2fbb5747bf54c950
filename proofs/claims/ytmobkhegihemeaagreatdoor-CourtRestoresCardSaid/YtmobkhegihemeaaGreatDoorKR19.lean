/-
  Part of the proof, part KR19. Own work.
-/
import Derived.Test.YtmobkhegihemeaaGreatDoorKR17
import Derived.Lib.ItoaNum
set_option linter.all false
namespace Go.Dom
theorem uz (a p:Nat):a%(p*256)=a%p+p*(a/p%256):=Nat.mod_mul
theorem sA (x p:Nat):x%(p*256)/p=x/p%256:=Nat.mod_mul_right_div_self x p 256
theorem ofNat_mod {x y:Nat} (h:x%256=y%256):UInt8.ofNat x=UInt8.ofNat y:=by
 apply UInt8.toNat_inj.1;simpa using h
def carry (a b p:Nat):Nat:=(a%p+b%p)/p
theorem Ed (a b:Nat) {p:Nat} (hp:0<p):carry a b p≤1:=by
 unfold carry;have h1:=Nat.mod_lt a hp;have h2:=Nat.mod_lt b hp;have:(a%p+b%p)/p<2:=(Nat.div_lt_iff_lt_mul hp).2 (by omega)
 omega
theorem su (a b:Nat) {p:Nat} (hp:0<p):carry a b p+(a/p%256+b/p%256)=(a%(p*256)+b%(p*256))/p:=by
 unfold carry;rw[uz,uz,show a%p+p*(a/p%256)+(b%p+p*(b/p%256))=(a%p+b%p)+p*(a/p%256+b/p%256) by rw[Nat.mul_add];omega,Nat.add_mul_div_left _ _ hp]
theorem yE (a b:Nat) {p:Nat} (hp:0<p):UInt8.ofNat (carry a b p+(a/p%256+b/p%256))=UInt8.ofNat ((a+b)/p):=by
 rw[su a b hp];apply ofNat_mod;rw[←sA,←sA,←Nat.add_mod]
theorem yF (a b:Nat) {p:Nat} (hp:0<p):(carry a b p+(a/p%256+b/p%256))/256=carry a b (p*256):=by
 rw[su a b hp,Nat.div_div_eq_div_mul];rfl
def borrow (a b p:Nat):Nat:=if a%p<b%p then 1 else 0
theorem BL (a b p:Nat):borrow a b p≤1:=by unfold borrow;split<;>omega
theorem vQ (a b:Nat) {p:Nat} (hp:0<p):borrow a b (p*256)=if((a/p%256:Nat):Int)-(b/p%256:Nat)-(borrow a b p:Nat)<0 then 1 else 0:=by
 unfold borrow;rw[uz,uz];have h1:=Nat.mod_lt a hp;have h2:=Nat.mod_lt b hp;generalize a/p%256=x;generalize b/p%256=y;generalize a%p=r at*;generalize b%p=q at*;have key:(r+p*x<q+p*y)↔(x<y∨(x=y∧r<q)):=by
  rcases Nat.lt_trichotomy x y with h|h|h
  ·have:=Nat.mul_le_mul_left p (show x+1≤y from h)
   rw[Nat.mul_add]at this;simp only[h,true_or,iff_true];omega
  ·subst h;simp
  ·have:=Nat.mul_le_mul_left p (show y+1≤x from h)
   rw[Nat.mul_add]at this;constructor
   ·intro;omega
   ·rintro(_|⟨_,_⟩)<;>omega
 by_cases hk:r+p*x<q+p*y
 ·rw[if_pos hk,if_pos];rcases key.1 hk with h|⟨h,h'⟩
  ·split<;>omega
  ·rw[if_pos h'];omega
 ·rw[if_neg hk,if_neg];have:=fun h=>hk (key.2 h)
  split<;>omega
theorem vP (a b:Nat) {p:Nat} (hp:0<p) (h:b≤a) (d:Int) (hd:d=((a/p%256:Nat):Int)-(b/p%256:Nat)-(borrow a b p:Nat)):d%256=(((a-b)/p%256:Nat):Int):=by
 have h1:=Nat.mod_lt a hp;have h2:=Nat.mod_lt b hp;have e1:=Nat.div_add_mod a p;have e2:=Nat.div_add_mod b p;have hle:b/p+borrow a b p≤a/p:=by
  have hdv:=Nat.div_le_div_right (c:=p) h;unfold borrow;split
  ·rename_i hlt;rcases Nat.lt_or_ge (b/p) (a/p)with g|g
   ·omega
   ·have:b/p=a/p:=by omega
    rw[this]at e2;omega
  ·omega
 have key:(a-b)/p=a/p-b/p-borrow a b p:=by
  have e3:a-b=(a%p+borrow a b p*p-b%p)+p*(a/p-b/p-borrow a b p):=by
   rw[Nat.mul_sub,Nat.mul_sub,Nat.mul_comm (borrow a b p) p];have g1:p*(b/p)+p*borrow a b p≤p*(a/p):=by rw[←Nat.mul_add];exact Nat.mul_le_mul_left _ hle
   have g2:b%p≤a%p+p*borrow a b p:=by unfold borrow;split<;>simp<;>omega
   omega
  have hlt:a%p+borrow a b p*p-b%p<p:=by unfold borrow;split<;>simp<;>omega
  rw[e3,Nat.add_mul_div_left _ _ hp,Nat.div_eq_of_lt hlt,Nat.zero_add]
 rw[key,hd];omega
structure zW (B y y1 y0 u t q r:Nat):Prop where
 s:q*y1+r=u
 ge:(u*B+t)/y≤q
theorem zW.step {B y y1 y0 u t q r:Nat} (hy:y=y1*B+y0) (hy0:0<y) (h:zW B y y1 y0 u t q r) (hu:u<y) (ht:t<B) (hc:B≤q∨B*r+t<q*y0):0<q∧zW B y y1 y0 u t (q-1) (r+y1):=by
 have hlt:(u*B+t)/y<q:=by
  rcases hc with hc|hc
  ·refine Nat.lt_of_lt_of_le ((Nat.div_lt_iff_lt_mul hy0).2 ?_) hc;have:(u+1)*B≤y*B:=Nat.mul_le_mul_right _ hu;rw[Nat.add_mul]at this;rw[Nat.mul_comm B y];omega
  ·refine(Nat.div_lt_iff_lt_mul hy0).2 ?_;have e:q*y=q*y1*B+q*y0:=by rw[hy,Nat.mul_add,Nat.mul_assoc]
   have e2:u*B=q*y1*B+B*r:=by rw[←h.s,Nat.add_mul,Nat.mul_comm r B]
   omega
 have hq:0<q:=Nat.lt_of_le_of_lt (Nat.zero_le _) hlt;refine⟨hq,⟨?_,Nat.le_sub_one_of_lt hlt⟩⟩;have:=h.s;obtain⟨k,rfl⟩: ∃k,q=k+1:=⟨q-1,by omega⟩
 rw[Nat.add_mul]at this;simp only[Nat.add_sub_cancel];omega
theorem zW.done {B y y1 y0 u t q r:Nat} (hy:y=y1*B+y0) (hy0:0<y) (h:zW B y y1 y0 u t q r) (hc:q*y0≤B*r+t):q=(u*B+t)/y:=by
 refine Nat.le_antisymm ((Nat.le_div_iff_mul_le hy0).2 ?_) h.ge;have e:q*y=q*y1*B+q*y0:=by rw[hy,Nat.mul_add,Nat.mul_assoc]
 have e2:u*B=q*y1*B+B*r:=by rw[←h.s,Nat.add_mul,Nat.mul_comm r B]
 omega
theorem zW.R8 {B y y1 y0 u t q r:Nat} (hy:y=y1*B+y0) (hy0:0<y) (hy0B:y0<B) (h:zW B y y1 y0 u t q r) (hu:u<y) (hr:B≤r):q=(u*B+t)/y:=by
 have hq:q<B:=by
  rcases Nat.lt_or_ge q B with g|g
  ·exact g
  ·exfalso
   have:=Nat.mul_le_mul_right y1 g;have:=h.s;rw[Nat.mul_comm B y1]at*;omega
 refine h.done hy hy0 ?_;have h1:q*y0≤B*y0:=Nat.mul_le_mul_right _ (by omega)
 have h2:B*y0≤B*r:=Nat.mul_le_mul_left _ (by omega)
 omega
theorem zW.start {B y y1 y0 u t:Nat} (hy:y=y1*B+y0) (hy1:0<y1) (hu:u<y) (ht:t<B):zW B y y1 y0 u t (u/y1) (u%y1):=by
 refine⟨by have:=Nat.div_add_mod u y1;rw[Nat.mul_comm];omega,?_⟩
 rcases Nat.eq_zero_or_pos B with hB|hB
 ·subst hB;omega
 ·have:(u*B+t)/y≤(u*B+t)/(y1*B):=Nat.div_le_div_left (by omega) (Nat.mul_pos hy1 hB)
  refine Nat.le_trans this ?_;rw[Nat.mul_comm y1 B,←Nat.div_div_eq_div_mul,Nat.mul_comm u B,Nat.mul_add_div hB,Nat.div_eq_of_lt ht];exact Nat.le_refl _
theorem zW.lt {B y y1 y0 u t q:Nat} (hy0:0<y) (hu:u<y) (ht:t<B) (h:q=(u*B+t)/y):q<B:=by
 rw[h];refine(Nat.div_lt_iff_lt_mul hy0).2 ?_;have:(u+1)*B≤y*B:=Nat.mul_le_mul_right _ hu;rw[Nat.add_mul]at this;rw[Nat.mul_comm B y];omega
theorem zN {B y N u t1 t0 q1 q0 r1:Nat} (hB:0<B) (hy:0<y) (hN:N=u*(B*B)+t1*B+t0) (h1:q1=(u*B+t1)/y) (hr:r1=(u*B+t1)%y) (h0:q0=(r1*B+t0)/y):q1*B+q0=N/y∧(r1*B+t0)%y=N%y:=by
 have e:N=(r1*B+t0)+y*(q1*B):=by
  have:=Nat.div_add_mod (u*B+t1) y;rw[←h1,←hr]at this;have e2:(u*B+t1)*B=y*q1*B+r1*B:=by rw[←this,Nat.add_mul]
  rw[hN,←Nat.mul_assoc,←Nat.mul_assoc y];rw[Nat.add_mul]at e2;omega
 rw[e,Nat.add_mul_div_left _ _ hy,Nat.add_mul_mod_self_left,←h0];exact⟨by omega,rfl⟩
theorem kJ {y:Nat} (h0:0<y) (h:y<18446744073709551616):1≤Lib.bitLen y∧2^(Lib.bitLen y-1)≤y∧y<2^Lib.bitLen y:=Lib.bitLenAux_bounds 64 y h (by omega)
structure Lh (hi lo y s:Nat):Prop where
 s64:s<64
 yl:9223372036854775808≤y*2^s
 yh:y*2^s<18446744073709551616
 hil:hi*2^s+lo/2^(64-s)<y*2^s
 eq:(hi*18446744073709551616+lo)*2^s=(hi*2^s+lo/2^(64-s))*18446744073709551616+lo*2^s%18446744073709551616
 hs:hi*2^s<18446744073709551616
 ol:lo/2^(64-s)<2^s
theorem scaled {hi lo y:Nat} (h:hi<y) (hlo:lo<18446744073709551616) (hy:y<18446744073709551616):Lh hi lo y (64-Lib.bitLen y):=by
 obtain⟨b1,b2,b3⟩:=kJ (y:=y) (by omega) hy
 have b4:=Lib.bitLen_le y 64 (by decide) hy
 obtain⟨s,hs⟩: ∃s,s=64-Lib.bitLen y:=⟨_,rfl⟩;rw[←hs];have e1:2^(Lib.bitLen y-1)*2^s=9223372036854775808:=by rw[←Nat.pow_add,show Lib.bitLen y-1+s=63 by omega]
 have e2:2^Lib.bitLen y*2^s=18446744073709551616:=by rw[←Nat.pow_add,show Lib.bitLen y+s=64 by omega]
 have e3:2^(64-s)*2^s=18446744073709551616:=by rw[←Nat.pow_add,show 64-s+s=64 by omega]
 have hp:=Nat.two_pow_pos s;have hp':=Nat.two_pow_pos (64-s);have c1:9223372036854775808≤y*2^s:=by rw[←e1];exact Nat.mul_le_mul_right _ b2
 have c2:y*2^s<18446744073709551616:=by rw[←e2];exact Nat.mul_lt_mul_of_pos_right b3 hp
 have c3:lo/2^(64-s)<2^s:=by
  refine(Nat.div_lt_iff_lt_mul hp').2 ?_;rw[Nat.mul_comm,e3];exact hlo
 have c4:hi*2^s+2^s≤y*2^s:=by
  have:(hi+1)*2^s≤y*2^s:=Nat.mul_le_mul_right (2^s) h;rw[Nat.add_mul,Nat.one_mul]at this;exact this
 refine⟨by omega,c1,c2,by omega,?_,by omega,c3⟩
 have d1:=Nat.div_add_mod lo (2^(64-s));have d2:lo*2^s%18446744073709551616=lo%2^(64-s)*2^s:=by
  rw[←e3,Nat.mul_mod_mul_right]
 have d3:lo*2^s=lo/2^(64-s)*18446744073709551616+lo%2^(64-s)*2^s:=by
  rw[←e3];have:=congrArg (· *2^s) d1;simp only[Nat.add_mul]at this;rw[←this,Nat.mul_comm (2^(64-s)),Nat.mul_assoc]
 rw[d2,Nat.add_mul,d3,Nat.add_mul];have:hi*18446744073709551616*2^s=hi*2^s*18446744073709551616:=by rw[Nat.mul_assoc,Nat.mul_comm 18446744073709551616,Nat.mul_assoc]
 omega
theorem eN {u B t q y:Nat} (hq:q=(u*B+t)/y):(u*B+t)-q*y=(u*B+t)%y:=by
 have:=Nat.div_add_mod (u*B+t) y;rw[hq,Nat.mul_comm _ y];omega
theorem kC {u t z:Nat} (h1:z≤u*4294967296+t) (h2:u*4294967296+t-z<18446744073709551616):
  ((u*4294967296%18446744073709551616+t)%18446744073709551616+(18446744073709551616-z%18446744073709551616%18446744073709551616))%18446744073709551616=u*4294967296+t-z:=by omega
theorem tS {u t q y:Nat} (hq:q=(u*4294967296+t)/y):q*y≤u*4294967296+t:=by rw[hq];exact Nat.div_mul_le_self _ _
theorem whole {N Y y s U V q1 q0 R:Nat} (hy:0<y) (hY:Y=y*2^s) (hN:N*2^s=U*18446744073709551616+V) (h1:q1=(U*4294967296+V/4294967296)/Y) (hR:R=(U*4294967296+V/4294967296)%Y) (h0:q0=(R*4294967296+V%4294967296)/Y):
  q1*4294967296+q0=N/y∧(R*4294967296+V%4294967296)%Y/2^s=N%y:=by
 have hp:=Nat.two_pow_pos s;have hYp:0<Y:=by rw[hY];exact Nat.mul_pos hy hp
 obtain⟨a,b⟩:=zN (B:=4294967296) (y:=Y) (N:=N*2^s) (u:=U) (t1:=V/4294967296) (t0:=V%4294967296) (by decide) hYp (by rw[hN];omega) h1 hR h0
 rw[a,b,hY];exact⟨Nat.mul_div_mul_right _ _ hp,by rw[Nat.mul_mod_mul_right,Nat.mul_div_cancel _ hp]⟩
def le:List Nat→Nat
 |[]=>0
 |x::r=>x+256*le r
theorem Fj: ∀(l:List Nat) (p v:Nat),p<l.length→le (l.set p (l.getD p 0+v))=le l+v*256^p
 |x::r,0,v,_=>by simp[le];omega
 |x::r,p+1,v,h=>by
  have:=Fj r p v (by simpa using h)
  simp only[List.set_cons_succ,le,List.getD_cons_succ,this,Nat.pow_succ,Nat.mul_add];have e:256*(v*256^p)=v*(256^p*256):=by rw[Nat.mul_comm,Nat.mul_assoc]
  omega
theorem Mh (n:Nat):le (List.replicate n 0)=0:=by induction n<;>simp_all[List.replicate_succ,le]
theorem qi: ∀(l:List Nat) (i:Nat),le l=le (l.take i)+256^i*le (l.drop i)
 |[],i=>by simp[le]
 |x::r,0=>by simp[le]
 |x::r,i+1=>by
  have:=qi r i;simp only[List.take_succ_cons,List.drop_succ_cons,le,Nat.pow_succ];rw[this,Nat.mul_add,←Nat.mul_assoc,Nat.mul_comm 256 (256^i)];omega
theorem mj {l:List Nat} {i:Nat} (h:i<l.length):le (l.take (i+1))=le (l.take i)+l.getD i 0*256^i:=by
 have h1:=qi (l.take (i+1)) i;rw[List.take_take,Nat.min_eq_left (by omega)]at h1
 rw[h1];congr 1;have:(l.take (i+1)).drop i=[l.getD i 0]:=by
  rw[List.drop_take,show i+1-i=1 by omega,List.getD_eq_getElem?_getD,List.getElem?_eq_getElem h]
  rw[List.take_one,List.head?_drop,List.getElem?_eq_getElem h];rfl
 rw[this];simp[le,Nat.mul_comm]
theorem vW {l:List Nat} {i T:Nat} (h:i<l.length) (hT:T=le l):(le (l.take i)/256^i+l.getD i 0)%256=T/256^i%256∧(le (l.take i)/256^i+l.getD i 0)/256=le (l.take (i+1))/256^(i+1):=by
 have h1:=mj h;have h2:=qi l (i+1);have hp:=Nat.pow_pos (n:=i) (show 0<256 by decide)
 have e1:le (l.take (i+1))/256^i=le (l.take i)/256^i+l.getD i 0:=by rw[h1,Nat.add_mul_div_right _ _ hp]
 rw[←e1];constructor
 ·rw[hT,h2,Nat.pow_succ,Nat.mul_assoc,Nat.add_mul_div_left _ _ hp];omega
 ·rw[Nat.pow_succ,Nat.div_div_eq_div_mul]
def vG (m:Nat) (l:List Nat):Prop:= ∀i,l.getD i 0≤m
theorem vG.rep (n m:Nat):vG m (List.replicate n 0):=fun i=>by
 rw[List.getD_eq_getElem?_getD]
 by_cases h:i<n<;>simp[h]
theorem vG.le {m:Nat} {l:List Nat} (h:vG m l) (i:Nat):Dom.le (l.take i)≤m*256^i:=by
 induction i with
 |zero=>simp[Dom.le]
 |succ i ih=>
  by_cases hi:i<l.length
  ·rw[mj hi,Nat.pow_succ];have:=Nat.mul_le_mul_right (256^i) (h i);have e:m*(256^i*256)=m*256^i*256:=by rw[Nat.mul_assoc]
   omega
  ·rw[List.take_of_length_le (by omega)]at ih⊢
   exact Nat.le_trans ih (Nat.mul_le_mul_left _ (Nat.pow_le_pow_right (by decide) (by omega)))
theorem vG.carry {m:Nat} {l:List Nat} (h:vG m l) (i:Nat):Dom.le (l.take i)/256^i≤m:=by
 have:=h.le i;exact Nat.div_le_of_le_mul (by rw[Nat.mul_comm];exact this)
structure rv (L a b i k:Nat) (l:List Nat):Prop where
 len:l.length=L
 v:le l=a%256^i*b+a/256^i%256*(b%256^k)*256^i
 lo:vG (65025*(i+1)) l
 hi: ∀j,i+k≤j→l.getD j 0≤65025*i
theorem rv.start (L a b:Nat):rv L a b 0 0 (List.replicate L 0):=⟨List.length_replicate,by rw[Mh];simp[Nat.mod_one], .rep _ _,fun j _=>vG.rep L 0 j⟩
theorem rv.step {L a b i k:Nat} {l:List Nat} (h:rv L a b i k l) (hp:i+k<L):rv L a b i (k+1) (l.set (i+k) (l.getD (i+k) 0+a/256^i%256*(b/256^k%256))):=by
 have hv:a/256^i%256*(b/256^k%256)≤65025:=Nat.mul_le_mul (by omega:a/256^i%256≤255) (by omega:b/256^k%256≤255)
 have hh:=h.hi (i+k) (Nat.le_refl _);refine⟨by simp[h.len],?_,fun j=> ?_,fun j hj=> ?_⟩
 ·rw[Fj _ _ _ (by rw[h.len];exact hp),h.v,Nat.add_assoc]
  congr 1;have e:=Nat.mod_mul (x:=b) (a:=256^k) (b:=256);rw[show 256^(k+1)=256^k*256 from Nat.pow_succ ..,e,Nat.pow_add]
  generalize a/256^i%256=x;generalize b/256^k%256=y;generalize b%256^k=z;rw[Nat.mul_add,Nat.add_mul,Nat.mul_assoc x y,Nat.mul_assoc x (256^k*y),Nat.mul_comm (256^i) (256^k),←Nat.mul_assoc y,Nat.mul_comm y (256^k)]
 ·rw[List.getD_eq_getElem?_getD,List.getElem?_set];split
  ·split
   ·simp only[Option.getD_some];omega
   ·simp
  ·have:=h.lo j;rw[List.getD_eq_getElem?_getD]at this;exact this
 ·rw[List.getD_eq_getElem?_getD,List.getElem?_set_ne (by omega),←List.getD_eq_getElem?_getD]
  exact h.hi j (by omega)
theorem rv.row {L a b i k:Nat} {l:List Nat} (h:rv L a b i k l) (hk:b<256^k):rv L a b (i+1) 0 l:=by
 refine⟨h.len,?_,fun j=>by have:=h.lo j;omega,fun j _=>by have:=h.lo j;omega⟩
 rw[h.v,Nat.mod_eq_of_lt hk];have e:=Nat.mod_mul (x:=a) (a:=256^i) (b:=256);rw[show 256^(i+1)=256^i*256 from Nat.pow_succ ..,e,Nat.add_mul]
 simp only[Nat.pow_zero,Nat.mod_one,Nat.mul_zero,Nat.zero_mul,Nat.add_zero];congr 1;rw[Nat.mul_comm (256^i),Nat.mul_assoc,Nat.mul_assoc,Nat.mul_comm b]
def ad (a b:Nat):Nat:=(a+b)%4294967296
def sO (a b:Nat):Nat:=(a%4294967296)|||(b%4294967296)
def mQ (a b:Nat):Nat:=(a%4294967296)^^^(b%4294967296)
def Dn (a b:Nat):Nat:=(a%4294967296)&&&(b%4294967296)
def OT (a:Nat):Nat:=4294967295^^^(a%4294967296)
def og (a k:Nat):Nat:=a*2^k%4294967296
theorem FI (a b:Nat):sO a b=sO b a:=Nat.or_comm _ _
theorem gK (a:Nat):BitVec.ofInt 32 ((a%4294967296:Nat):Int)=BitVec.ofInt 32 (a:Int):=by
 rw[dr,dr];apply BitVec.eq_of_toNat_eq;simp
theorem yD:IntKind.bits .u32=32:=rfl
theorem mZ (a b:Nat):IntKind.u32.wrap ((a:Int)+(b:Int))=((ad a b:Nat):Int):=by rw[Ka,ad];omega
theorem RH (a b:Nat):yU .u32 (a:Int) (b:Int)=((sO a b:Nat):Int):=by
 have h:=Mb .u32 rfl (a:=a%4294967296) (b:=b%4294967296) (Nat.mod_lt _ (by decide)) (Nat.mod_lt _ (by decide))
 rw[sO,←h,yU,yU,yD,gK,gK]
theorem Rp (a b:Nat):wO .u32 (a:Int) (b:Int)=((mQ a b:Nat):Int):=by
 have h:=Kx .u32 rfl (a:=a%4294967296) (b:=b%4294967296) (Nat.mod_lt _ (by decide)) (Nat.mod_lt _ (by decide))
 rw[mQ,←h,wO,wO,yD,gK,gK]
theorem Rz (a b:Nat):gV .u32 (a:Int) (b:Int)=((Dn a b:Nat):Int):=by
 have h:=EW .u32 rfl (a:=a%4294967296) (b:=b%4294967296) (Nat.mod_lt _ (by decide)) (Nat.mod_lt _ (by decide))
 rw[Dn,←h,gV,gV,yD,gK,gK]
theorem SF (a:Nat):IntKind.u32.wrap ((BitVec.ofInt 32 4294967295^^^BitVec.ofInt 32 (a:Int)).toNat:Int)=((OT a:Nat):Int):=by
 have h:BitVec.ofInt 32 4294967295=BitVec.ofNat 32 4294967295:=rfl;have h2:4294967295^^^a%4294967296<2^32:=Nat.xor_lt_two_pow (by decide) (Nat.mod_lt _ (by decide))
 rw[h,dr,BitVec.toNat_xor,BitVec.toNat_ofNat,BitVec.toNat_ofNat,OT,Ka];simp only[Nat.reducePow,Nat.reduceMod]at*;omega
theorem P8 (a k:Nat):IntKind.u32.wrap ((a:Int)*2^k)=((og a k:Nat):Int):=by
 rw[Ka,og];have:((2:Int)^k)=((2^k:Nat):Int):=by simp
 rw[this,←Int.natCast_mul];omega
def qV:List Nat:=[0x428a2f98,0x71374491,0xb5c0fbcf,0xe9b5dba5,0x3956c25b,0x59f111f1,0x923f82a4,0xab1c5ed5,
 0xd807aa98,0x12835b01,0x243185be,0x550c7dc3,0x72be5d74,0x80deb1fe,0x9bdc06a7,0xc19bf174,
 0xe49b69c1,0xefbe4786,0x0fc19dc6,0x240ca1cc,0x2de92c6f,0x4a7484aa,0x5cb0a9dc,0x76f988da,
 0x983e5152,0xa831c66d,0xb00327c8,0xbf597fc7,0xc6e00bf3,0xd5a79147,0x06ca6351,0x14292967,
 0x27b70a85,0x2e1b2138,0x4d2c6dfc,0x53380d13,0x650a7354,0x766a0abb,0x81c2c92e,0x92722c85,
 0xa2bfe8a1,0xa81a664b,0xc24b8b70,0xc76c51a3,0xd192e819,0xd6990624,0xf40e3585,0x106aa070,
 0x19a4c116,0x1e376c08,0x2748774c,0x34b0bcb5,0x391c0cb3,0x4ed8aa4a,0x5b9cca4f,0x682e6ff3,
 0x748f82ee,0x78a5636f,0x84c87814,0x8cc70208,0x90befffa,0xa4506ceb,0xbef9a3f7,0xc67178f2]
def mI:List Nat:=[0x6a09e667,0xbb67ae85,0x3c6ef372,0xa54ff53a,0x510e527f,0x9b05688c,0x1f83d9ab,0x5be0cd19]
def rr (x n:Nat):Nat:=sO (x/2^n) (og x (32-n))
def Pj (x:Nat):Nat:=mQ (mQ (rr x 7) (rr x 18)) (x/8)
def Pk (x:Nat):Nat:=mQ (mQ (rr x 17) (rr x 19)) (x/1024)
def Gv (l:List Nat):Nat:=ad (ad (ad (l.getD (l.length-16) 0) (Pj (l.getD (l.length-15) 0))) (l.getD (l.length-7) 0)) (Pk (l.getD (l.length-2) 0))
def Gy:Nat→List Nat→List Nat
 |0,l=>l
 |n+1,l=>Gy n (l++[Gv l])
def zx (blk:Bytes) (i:Nat):Nat:=num ((blk.drop (4*i)).take 4)
def sched (blk:Bytes):List Nat:=Gy 48 ((List.range 16).map (zx blk))
def Gx (k w:Nat) (v:List Nat):Nat:=ad (ad (ad (ad (v.getD 7 0) (mQ (mQ (rr (v.getD 4 0) 6) (rr (v.getD 4 0) 11)) (rr (v.getD 4 0) 25))) (mQ (Dn (v.getD 4 0) (v.getD 5 0)) (Dn (OT (v.getD 4 0)) (v.getD 6 0)))) k) w
def Nz (v:List Nat):Nat:=ad (mQ (mQ (rr (v.getD 0 0) 2) (rr (v.getD 0 0) 13)) (rr (v.getD 0 0) 22)) (mQ (mQ (Dn (v.getD 0 0) (v.getD 1 0)) (Dn (v.getD 0 0) (v.getD 2 0))) (Dn (v.getD 1 0) (v.getD 2 0)))
def JS (k w:Nat) (v:List Nat):List Nat:=[ad (Gx k w v) (Nz v),v.getD 0 0,v.getD 1 0,v.getD 2 0,ad (v.getD 3 0) (Gx k w v),v.getD 4 0,v.getD 5 0,v.getD 6 0]
def zw (W:List Nat):Nat→List Nat→List Nat
 |0,v=>v
 |n+1,v=>zw W n (JS (qV.getD (63-n) 0) (W.getD (63-n) 0) v)
def uU (st:List Nat) (blk:Bytes):List Nat:=List.zipWith ad (zw (sched blk) 64 st) st
def qU:Nat→Bytes→List Nat→List Nat
 |0,_,st=>st
 |n+1,m,st=>qU n (m.drop 64) (uU st (m.take 64))
def pad (s:Bytes):Bytes:=s++128::(List.replicate ((119-s.length%64)%64) 0++be 8 (s.length*8))
def O4 (w:Nat):Bytes:=[UInt8.ofNat (w/2^24),UInt8.ofNat (w/2^16),UInt8.ofNat (w/2^8),UInt8.ofNat w]
def jj (s:Bytes):Bytes:=(qU ((pad s).length/64) (pad s) mI).flatMap O4
theorem xK: ∀n l,(Gy n l).length=l.length+n
 |0,l=>rfl
 |n+1,l=>by rw[Gy,xK n];simp;omega
theorem ky (b:Bytes):(sched b).length=64:=by simp[sched,xK]
theorem Gw (k w:Nat) (v:List Nat):(JS k w v).length=8:=rfl
theorem xJ (W:List Nat): ∀n v,v.length=8→(zw W n v).length=8
 |0,v,h=>h
 |n+1,v,h=>xJ W n _ (Gw _ _ _)
theorem mH {st:List Nat} (b:Bytes) (h:st.length=8):(uU st b).length=8:=by simp[uU,xJ _ _ _ h,h]
theorem xI: ∀n m st,st.length=8→(qU n m st).length=8
 |0,m,st,h=>h
 |n+1,m,st,h=>xI n _ _ (mH _ h)
theorem Je (s:Bytes):(pad s).length=s.length+9+(119-s.length%64)%64:=by simp[pad,cd];omega
theorem MZ (s:Bytes):(pad s).length=(pad s).length/64*64:=by rw[Je];omega
theorem ep (s:Bytes):(jj s).length=32:=by
 have h:=xI ((pad s).length/64) (pad s) mI rfl;unfold jj;generalize qU ((pad s).length/64) (pad s) mI=l at h;obtain⟨a,b,c,d,e,f,g,i,rfl⟩: ∃a b c d e f g i,l=[a,b,c,d,e,f,g,i]:=by
  match l,h with
  |[a,b,c,d,e,f,g,i],_=>exact⟨_,_,_,_,_,_,_,_,rfl⟩
 rfl
def eA (k:Nat) (parts:List Bytes):Bytes:=UInt8.ofNat k::(be 8 parts.length++parts.flatMap fun s=>be 8 s.length++s)
def mM (l:Bytes):Bytes:=jj (eA 78 [l])
def fh (st l d:Bytes):Bytes:=jj (eA 65 [st,l,d])
def fA (st l:Bytes) (xs:List Bytes):Bytes:=jj (eA 76 (st::l::xs))
def js (x:Bool×Bytes):Bytes:=(if x.1 then 45 else 43)::x.2
def zJ (st l:Bytes) (xs:List (Bool×Bytes)):Bytes:=jj (eA 73 (st::l::xs.map js))
def rf (st:Bytes):Bytes:=jj (eA 67 [st,be 8 0])
def fZ (st bound:Bytes):Nat:=num ((rf st).take (bound.length+8))%num bound
theorem Dc (l:Bytes):(mM l).length=32:=ep _
theorem kz (st l d:Bytes):(fh st l d).length=32:=ep _
theorem eH (st l:Bytes) (xs:List Bytes):(fA st l xs).length=32:=ep _
theorem zK (st l:Bytes) (xs:List (Bool×Bytes)):(zJ st l xs).length=32:=ep _
theorem zI (st:Bytes):(rf st).length=32:=ep _
def bA (parts:List Bytes):Bytes:=parts.flatMap fun s=>be 8 s.length++s
theorem jV (l:List Bytes) (s:Bytes):bA (l++[s])=bA l++(be 8 s.length++s):=by simp[bA]
theorem kY (l:List Bytes) {n:Nat} (h: ∀s∈l,s.length≤n):(bA l).length≤l.length*(8+n):=by
 induction l with
 |nil=>simp[bA]
 |cons x l ih=>
  have h1:=ih fun s hs=>h s (List.mem_cons_of_mem _ hs)
  have h2:=h x (by simp)
  have e:(bA (x::l)).length=8+x.length+(bA l).length:=by simp[bA,cd];omega
  rw[e,List.length_cons,Nat.succ_mul];omega
theorem vL (N k:Nat) (h:k<8):(be 8 N).take (k+1)=(be 8 N).take k++[UInt8.ofNat (N/256^(7-k))]:=by
 match k,h with
 |0,_=>rfl
 |1,_=>rfl
 |2,_=>rfl
 |3,_=>rfl
 |4,_=>rfl
 |5,_=>rfl
 |6,_=>rfl
 |7,_=>rfl
theorem DZ (k m n:Nat):be (k+m) n=be k (n/256^m)++be m n:=by
 induction k with
 |zero=>simp[be]
 |succ k ih=>
  rw[show k+1+m=(k+m)+1 by omega]
  simp only[be,ih,List.cons_append];rw[Nat.div_div_eq_div_mul,←Nat.pow_add,Nat.add_comm m k]
end Go.Dom
