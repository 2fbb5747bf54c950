/- Part of the proof. -/
import Derived.Test.YtkmahpcpmgedkaaGreatDoorFB17
import Derived.Lib.ItoaNum
set_option linter.all false
namespace Go.Dom
variable {B Q i n p q r t u y y0 y1 z:Nat}
theorem C8 (a p:Nat):a%(p*256)=a%p+p*(a/p%256):=pC
theorem BL (x p:Nat):x%(p*256)/p=x/p%256:=rh x p 256
theorem ofNat_mod {x:Nat} (h:x%256=y%256):UInt8.ofNat x=UInt8.ofNat y:=by
 apply jv.1;simpa using h
def carry (a b p:Nat):Nat:=(a%p+b%p)/p
theorem EA (a b:Nat) (hp:0<p):carry a b p<=1:=by
 unfold carry;have h1:=aL a hp;have h2:=aL b hp;have:(a%p+b%p)/p<2:=(iC hp).2 (by omega)
 omega
theorem BI (a b:Nat) (hp:0<p):carry a b p+(a/p%256+b/p%256)=(a%(p*256)+b%(p*256))/p:=by
 unfold carry;rw[C8,C8,show a%p+p*(a/p%256)+(b%p+p*(b/p%256))=(a%p+b%p)+p*(a/p%256+b/p%256) by rw[kp];omega,nQ _ _ hp]
theorem yW (a b:Nat) (hp:0<p):UInt8.ofNat (carry a b p+(a/p%256+b/p%256))=UInt8.ofNat ((a+b)/p):=by
 rw[BI a b hp];apply ofNat_mod;rw[<-BL,<-BL,<-iM]
theorem yX (a b:Nat) (hp:0<p):(carry a b p+(a/p%256+b/p%256))/256=carry a b (p*256):=by
 rw[BI a b hp,eZ];rfl
def borrow (a b p:Nat):Nat:=if a%p<b%p then 1 else 0
theorem BH (a b p:Nat):borrow a b p<=1:=by unfold borrow;split<;>omega
theorem wL (a b:Nat) (hp:0<p):borrow a b (p*256)=if((a/p%256:Nat):Int)-(b/p%256:Nat)-(borrow a b p:Nat)<0 then 1 else 0:=by
 unfold borrow;rw[C8,C8];have h1:=aL a hp;have h2:=aL b hp;generalize a/p%256=x;generalize b/p%256=y;generalize a%p=r at*;generalize b%p=q at*;have key:(r+p*x<q+p*y)↔(x<y\/(x=y/\r<q)):=by
  rcases Ea x y with h|h|h
  ·have:=je p (show x+1<=y from h)
   rw[kp]at this;simp only[h,true_or,iff_true];omega
  ·subst h;simp
  ·have:=je p (show y+1<=x from h)
   rw[kp]at this;constructor
   ·intro;omega
   ·rintro(_|⟨_,_⟩)<;>omega
 by_cases hk:r+p*x<q+p*y
 ·rw[ah hk,ah];rcases key.1 hk with h|⟨h,h'⟩
  ·split<;>omega
  ·rw[ah h'];omega
 ·rw[ae hk,ae];have:=fun h=>hk (key.2 h)
  split<;>omega
theorem wK (a b:Nat) (hp:0<p) (h:b<=a) (d:Int) (hd:d=((a/p%256:Nat):Int)-(b/p%256:Nat)-(borrow a b p:Nat)):d%256=(((a-b)/p%256:Nat):Int):=by
 have h1:=aL a hp;have h2:=aL b hp;have e1:=iy a p;have e2:=iy b p;have hle:b/p+borrow a b p<=a/p:=by
  have hdv:=Nat.div_le_div_right (c:=p) h;unfold borrow;split
  ·rename_i hlt;rcases py (b/p) (a/p)with g|g
   ·omega
   ·have:b/p=a/p:=by omega
    rw[this]at e2;omega
  ·omega
 have key:(a-b)/p=a/p-b/p-borrow a b p:=by
  have e3:a-b=(a%p+borrow a b p*p-b%p)+p*(a/p-b/p-borrow a b p):=by
   rw[Nat.mul_sub,Nat.mul_sub,bO (borrow a b p) p];have g1:p*(b/p)+p*borrow a b p<=p*(a/p):=by rw[<-kp];exact je _ hle
   have g2:b%p<=a%p+p*borrow a b p:=by unfold borrow;split<;>simp<;>omega
   omega
  have hlt:a%p+borrow a b p*p-b%p<p:=by unfold borrow;split<;>simp<;>omega
  rw[e3,nQ _ _ hp,iD hlt,dq]
 rw[key,hd];omega
structure H0 (B y y1 y0 u t q r:Nat):Prop where
 s:q*y1+r=u
 ge:(u*B+t)/y<=q
theorem H0.step (hy:y=y1*B+y0) (hy0:0<y) (h:H0 B y y1 y0 u t q r) (hu:u<y) (ht:t<B) (hc:B<=q\/B*r+t<q*y0):0<q/\H0 B y y1 y0 u t (q-1) (r+y1):=by
 have hlt:(u*B+t)/y<q:=by
  rcases hc with hc|hc
  ·refine bH ((iC hy0).2 ?_) hc;have:(u+1)*B<=y*B:=du _ hu;rw[c9]at this;rw[bO B y];omega
  ·refine(iC hy0).2 ?_;have e:q*y=q*y1*B+q*y0:=by rw[hy,kp,cF]
   have e2:u*B=q*y1*B+B*r:=by rw[<-h.s,c9,bO r B]
   omega
 have hq:0<q:=fh (aJ _) hlt;refine⟨hq,⟨?_,Nat.le_sub_one_of_lt hlt⟩⟩;have:=h.s;obtain⟨k,rfl⟩: ∃k,q=k+1:=⟨q-1,by omega⟩
 rw[c9]at this;simp only[jw];omega
theorem H0.done (hy:y=y1*B+y0) (hy0:0<y) (h:H0 B y y1 y0 u t q r) (hc:q*y0<=B*r+t):q=(u*B+t)/y:=by
 refine Ef ((uO hy0).2 ?_) h.ge;have e:q*y=q*y1*B+q*y0:=by rw[hy,kp,cF]
 have e2:u*B=q*y1*B+B*r:=by rw[<-h.s,c9,bO r B]
 omega
theorem H0.big (hy:y=y1*B+y0) (hy0:0<y) (hy0B:y0<B) (h:H0 B y y1 y0 u t q r) (hu:u<y) (hr:B<=r):q=(u*B+t)/y:=by
 have hq:q<B:=by
  rcases py q B with g|g
  ·exact g
  ·exfalso
   have:=du y1 g;have:=h.s;rw[bO B y1]at*;omega
 refine h.done hy hy0 ?_;have h1:q*y0<=B*y0:=du _ (by omega)
 have h2:B*y0<=B*r:=je _ (by omega)
 omega
theorem H0.start (hy:y=y1*B+y0) (hy1:0<y1) (hu:u<y) (ht:t<B):H0 B y y1 y0 u t (u/y1) (u%y1):=by
 refine⟨by have:=iy u y1;rw[bO];omega,?_⟩
 rcases j6 B with hB|hB
 ·subst hB;omega
 ·have:(u*B+t)/y<=(u*B+t)/(y1*B):=Nat.div_le_div_left (by omega) (pF hy1 hB)
  refine fZ this ?_;rw[bO y1 B,<-eZ,bO u B,yw hB,iD ht];exact ay _
theorem H0.lt {y1 y0:Nat} (hy0:0<y) (hu:u<y) (ht:t<B) (h:q=(u*B+t)/y):q<B:=by
 rw[h];refine(iC hy0).2 ?_;have:(u+1)*B<=y*B:=du _ hu;rw[c9]at this;rw[bO B y];omega
theorem HP {B y N u t1 t0 q1 q0 r1:Nat} (hB:0<B) (hy:0<y) (hN:N=u*(B*B)+t1*B+t0) (h1:q1=(u*B+t1)/y) (hr:r1=(u*B+t1)%y) (h0:q0=(r1*B+t0)/y):q1*B+q0=N/y/\(r1*B+t0)%y=N%y:=by
 have e:N=(r1*B+t0)+y*(q1*B):=by
  have:=iy (u*B+t1) y;rw[<-h1,<-hr]at this;have e2:(u*B+t1)*B=y*q1*B+r1*B:=by rw[<-this,c9]
  rw[hN,<-cF,<-cF y];rw[c9]at e2;omega
 rw[e,nQ _ _ hy,xV,<-h0];exact⟨by omega,rfl⟩
theorem rF (h0:0<y) (h:y<18446744073709551616):1<=Lib.bitLen y/\2^(Lib.bitLen y-1)<=y/\y<2^Lib.bitLen y:=Lib.bitLenAux_bounds 64 y h (by omega)
structure Ub (hi lo y s:Nat):Prop where
 s64:s<64
 yl:9223372036854775808<=y*2^s
 yh:y*2^s<18446744073709551616
 hil:hi*2^s+lo/2^(64-s)<y*2^s
 eq:(hi*18446744073709551616+lo)*2^s=(hi*2^s+lo/2^(64-s))*18446744073709551616+lo*2^s%18446744073709551616
 hs:hi*2^s<18446744073709551616
 ol:lo/2^(64-s)<2^s
theorem scaled {hi lo:Nat} (h:hi<y) (hlo:lo<18446744073709551616) (hy:y<18446744073709551616):Ub hi lo y (64-Lib.bitLen y):=by
 obtain⟨b1,b2,b3⟩:=rF (y:=y) (by omega) hy
 have b4:=Lib.bitLen_le y 64 (by decide) hy
 obtain⟨s,hs⟩: ∃s,s=64-Lib.bitLen y:=⟨_,rfl⟩;rw[<-hs];have e1:2^(Lib.bitLen y-1)*2^s=9223372036854775808:=by rw[<-cZ,show Lib.bitLen y-1+s=63 by omega]
 have e2:2^Lib.bitLen y*2^s=18446744073709551616:=by rw[<-cZ,show Lib.bitLen y+s=64 by omega]
 have e3:2^(64-s)*2^s=18446744073709551616:=by rw[<-cZ,show 64-s+s=64 by omega]
 have hp:=Ec s;have hp':=Ec (64-s);have c1:9223372036854775808<=y*2^s:=by rw[<-e1];exact du _ b2
 have c2:y*2^s<18446744073709551616:=by rw[<-e2];exact D5 b3 hp
 have c3:lo/2^(64-s)<2^s:=by
  refine(iC hp').2 ?_;rw[bO,e3];exact hlo
 have c4:hi*2^s+2^s<=y*2^s:=by
  have:(hi+1)*2^s<=y*2^s:=du (2^s) h;rw[c9,kW]at this;exact this
 refine⟨by omega,c1,c2,by omega,?_,by omega,c3⟩
 have d1:=iy lo (2^(64-s));have d2:lo*2^s%18446744073709551616=lo%2^(64-s)*2^s:=by
  rw[<-e3,Ei]
 have d3:lo*2^s=lo/2^(64-s)*18446744073709551616+lo%2^(64-s)*2^s:=by
  rw[<-e3];have:=congrArg (· *2^s) d1;simp only[c9]at this;rw[<-this,bO (2^(64-s)),cF]
 rw[d2,c9,d3,c9];have:hi*18446744073709551616*2^s=hi*2^s*18446744073709551616:=by rw[cF,bO 18446744073709551616,cF]
 omega
theorem jK (hq:q=(u*B+t)/y):(u*B+t)-q*y=(u*B+t)%y:=by
 have:=iy (u*B+t) y;rw[hq,bO _ y];omega
theorem qU (h1:z<=u*4294967296+t) (h2:u*4294967296+t-z<18446744073709551616):
  ((u*4294967296%18446744073709551616+t)%18446744073709551616+(18446744073709551616-z%18446744073709551616%18446744073709551616))%18446744073709551616=u*4294967296+t-z:=by omega
theorem CO (hq:q=(u*4294967296+t)/y):q*y<=u*4294967296+t:=by rw[hq];exact q9 _ _
theorem whole {N Y y s U V q1 q0 R:Nat} (hy:0<y) (hY:Y=y*2^s) (hN:N*2^s=U*18446744073709551616+V) (h1:q1=(U*4294967296+V/4294967296)/Y) (hR:R=(U*4294967296+V/4294967296)%Y) (h0:q0=(R*4294967296+V%4294967296)/Y):
  q1*4294967296+q0=N/y/\(R*4294967296+V%4294967296)%Y/2^s=N%y:=by
 have hp:=Ec s;have hYp:0<Y:=by rw[hY];exact pF hy hp
 obtain⟨a,b⟩:=HP (B:=4294967296) (y:=Y) (N:=N*2^s) (u:=U) (t1:=V/4294967296) (t0:=V%4294967296) (by decide) hYp (by rw[hN];omega) h1 hR h0
 rw[a,b,hY];exact⟨Nat.mul_div_mul_right _ _ hp,by rw[Ei,DM _ hp]⟩
def ad (a b:Nat):Nat:=(a+b)%4294967296
def B1 (a b:Nat):Nat:=(a%4294967296)|||(b%4294967296)
def pW (a b:Nat):Nat:=(a%4294967296)^^^(b%4294967296)
def Ly (a b:Nat):Nat:=(a%4294967296)&&&(b%4294967296)
def XE (a:Nat):Nat:=4294967295^^^(a%4294967296)
def wP (a k:Nat):Nat:=a*2^k%4294967296
theorem NM (a b:Nat):B1 a b=B1 b a:=Nat.or_comm _ _
theorem mJ (a:Nat):BitVec.ofInt 32 ((a%4294967296:Nat):Int)=BitVec.ofInt 32 (a:Int):=by
 rw[gH,gH];apply BitVec.eq_of_toNat_eq;simp
theorem GA:IntKind.bits .u32=32:=rfl
theorem qc (a b:Nat):IntKind.u32.wrap ((a:Int)+(b:Int))=((ad a b:Nat):Int):=by rw[Lt,ad];omega
theorem o_r (a b:Nat):GM .u32 (a:Int) (b:Int)=((B1 a b:Nat):Int):=by
 have h:=U1 .u32 rfl (a:=a%4294967296) (b:=b%4294967296) (aL _ (by decide)) (aL _ (by decide))
 rw[B1,<-h,GM,GM,GA,mJ,mJ]
theorem WG (a b:Nat):EY .u32 (a:Int) (b:Int)=((pW a b:Nat):Int):=by
 have h:=Tk .u32 rfl (a:=a%4294967296) (b:=b%4294967296) (aL _ (by decide)) (aL _ (by decide))
 rw[pW,<-h,EY,EY,GA,mJ,mJ]
theorem Zc (a b:Nat):mU .u32 (a:Int) (b:Int)=((Ly a b:Nat):Int):=by
 have h:=Nh .u32 rfl (a:=a%4294967296) (b:=b%4294967296) (aL _ (by decide)) (aL _ (by decide))
 rw[Ly,<-h,mU,mU,GA,mJ,mJ]
theorem n_r (a:Nat):IntKind.u32.wrap ((BitVec.ofInt 32 4294967295^^^BitVec.ofInt 32 (a:Int)).toNat:Int)=((XE a:Nat):Int):=by
 have h:BitVec.ofInt 32 4294967295=BitVec.ofNat 32 4294967295:=rfl;have h2:4294967295^^^a%4294967296<2^32:=Nat.xor_lt_two_pow (by decide) (aL _ (by decide))
 rw[h,gH,BitVec.toNat_xor,kU,kU,XE,Lt];simp only[Nat.reducePow,Nat.reduceMod]at*;omega
theorem XA (a k:Nat):IntKind.u32.wrap ((a:Int)*2^k)=((wP a k:Nat):Int):=by
 rw[Lt,wP];have:((2:Int)^k)=((2^k:Nat):Int):=by simp
 rw[this,<-Int.natCast_mul];omega
def pS:List Nat:=[0x428a2f98,0x71374491,0xb5c0fbcf,0xe9b5dba5,0x3956c25b,0x59f111f1,0x923f82a4,0xab1c5ed5,
 0xd807aa98,0x12835b01,0x243185be,0x550c7dc3,0x72be5d74,0x80deb1fe,0x9bdc06a7,0xc19bf174,
 0xe49b69c1,0xefbe4786,0x0fc19dc6,0x240ca1cc,0x2de92c6f,0x4a7484aa,0x5cb0a9dc,0x76f988da,
 0x983e5152,0xa831c66d,0xb00327c8,0xbf597fc7,0xc6e00bf3,0xd5a79147,0x06ca6351,0x14292967,
 0x27b70a85,0x2e1b2138,0x4d2c6dfc,0x53380d13,0x650a7354,0x766a0abb,0x81c2c92e,0x92722c85,
 0xa2bfe8a1,0xa81a664b,0xc24b8b70,0xc76c51a3,0xd192e819,0xd6990624,0xf40e3585,0x106aa070,
 0x19a4c116,0x1e376c08,0x2748774c,0x34b0bcb5,0x391c0cb3,0x4ed8aa4a,0x5b9cca4f,0x682e6ff3,
 0x748f82ee,0x78a5636f,0x84c87814,0x8cc70208,0x90befffa,0xa4506ceb,0xbef9a3f7,0xc67178f2]
def oP:List Nat:=[0x6a09e667,0xbb67ae85,0x3c6ef372,0xa54ff53a,0x510e527f,0x9b05688c,0x1f83d9ab,0x5be0cd19]
def rr (x n:Nat):Nat:=B1 (x/2^n) (wP x (32-n))
def Yc (x:Nat):Nat:=pW (pW (rr x 7) (rr x 18)) (x/8)
def Yd (x:Nat):Nat:=pW (pW (rr x 17) (rr x 19)) (x/1024)
def Dx (l:List Nat):Nat:=ad (ad (ad (l.getD (l.length-16) 0) (Yc (l.getD (l.length-15) 0))) (l.getD (l.length-7) 0)) (Yd (l.getD (l.length-2) 0))
def Lh:Nat->List Nat->List Nat
 |0,l=>l
 |n+1,l=>Lh n (l++[Dx l])
def xu (blk:Bytes) (i:Nat):Nat:=num ((blk.drop (4*i)).take 4)
def sched (blk:Bytes):List Nat:=Lh 48 ((List.range 16).map (xu blk))
def OV (k w:Nat) (v:List Nat):Nat:=ad (ad (ad (ad (v.getD 7 0) (pW (pW (rr (v.getD 4 0) 6) (rr (v.getD 4 0) 11)) (rr (v.getD 4 0) 25))) (pW (Ly (v.getD 4 0) (v.getD 5 0)) (Ly (XE (v.getD 4 0)) (v.getD 6 0)))) k) w
def Wg (v:List Nat):Nat:=ad (pW (pW (rr (v.getD 0 0) 2) (rr (v.getD 0 0) 13)) (rr (v.getD 0 0) 22)) (pW (pW (Ly (v.getD 0 0) (v.getD 1 0)) (Ly (v.getD 0 0) (v.getD 2 0))) (Ly (v.getD 1 0) (v.getD 2 0)))
def OT (k w:Nat) (v:List Nat):List Nat:=[ad (OV k w v) (Wg v),v.getD 0 0,v.getD 1 0,v.getD 2 0,ad (v.getD 3 0) (OV k w v),v.getD 4 0,v.getD 5 0,v.getD 6 0]
def wA (W:List Nat):Nat->List Nat->List Nat
 |0,v=>v
 |n+1,v=>wA W n (OT (pS.getD (63-n) 0) (W.getD (63-n) 0) v)
def rq (st:List Nat) (blk:Bytes):List Nat:=List.zipWith ad (wA (sched blk) 64 st) st
def oh:Nat->Bytes->List Nat->List Nat
 |0,_,st=>st
 |n+1,m,st=>oh n (m.drop 64) (rq st (m.take 64))
def pad (s:Bytes):Bytes:=s++128::(List.replicate ((119-s.length%64)%64) 0++be 8 (s.length*8))
def VI (w:Nat):Bytes:=[UInt8.ofNat (w/2^24),UInt8.ofNat (w/2^16),UInt8.ofNat (w/2^8),UInt8.ofNat w]
def me (s:Bytes):Bytes:=(oh ((pad s).length/64) (pad s) oP).flatMap VI
theorem FW: ∀n l,(Lh n l).length=l.length+n
 |0,l=>rfl
 |n+1,l=>by rw[Lh,FW n];simp;omega
theorem mK (b:Bytes):(sched b).length=64:=by simp[sched,FW]
theorem OU (k w:Nat) (v:List Nat):(OT k w v).length=8:=rfl
theorem FV (W:List Nat): ∀n v,v.length=8->(wA W n v).length=8
 |0,v,h=>h
 |n+1,v,h=>FV W n _ (OU _ _ _)
theorem oN {st:List Nat} (b:Bytes) (h:st.length=8):(rq st b).length=8:=by simp[rq,FV _ _ _ h,h]
theorem FU: ∀n m st,st.length=8->(oh n m st).length=8
 |0,m,st,h=>h
 |n+1,m,st,h=>FU n _ _ (oN _ h)
theorem De (s:Bytes):(pad s).length=s.length+9+(119-s.length%64)%64:=by simp[pad,cv];omega
theorem N0 (s:Bytes):(pad s).length=(pad s).length/64*64:=by rw[De];omega
theorem fH (s:Bytes):(me s).length=32:=by
 have h:=FU ((pad s).length/64) (pad s) oP rfl;unfold me;generalize oh ((pad s).length/64) (pad s) oP=l at h;obtain⟨a,b,c,d,e,f,g,i,rfl⟩: ∃a b c d e f g i,l=[a,b,c,d,e,f,g,i]:=by
  match l,h with
  |[a,b,c,d,e,f,g,i],_=>exact⟨_,_,_,_,_,_,_,_,rfl⟩
 rfl
def iP (k:Nat) (parts:List Bytes):Bytes:=UInt8.ofNat k::(be 8 parts.length++parts.flatMap fun s=>be 8 s.length++s)
def mq (l:Bytes):Bytes:=me (iP 78 [l])
def fI (st l d:Bytes):Bytes:=me (iP 65 [st,l,d])
def gJ (st l:Bytes) (xs:List Bytes):Bytes:=me (iP 76 (st::l::xs))
def ni (x:Bool×Bytes):Bytes:=(if x.1 then 45 else 43)::x.2
def DC (st l:Bytes) (xs:List (Bool×Bytes)):Bytes:=me (iP 73 (st::l::xs.map ni))
def qC (st:Bytes):Bytes:=me (iP 67 [st,be 8 0])
def iQ (st bound:Bytes):Nat:=num ((qC st).take (bound.length+8))%num bound
theorem Ct (l:Bytes):(mq l).length=32:=fH _
theorem jM (st l d:Bytes):(fI st l d).length=32:=fH _
theorem fq (st l:Bytes) (xs:List Bytes):(gJ st l xs).length=32:=fH _
theorem HM (st l:Bytes) (xs:List (Bool×Bytes)):(DC st l xs).length=32:=fH _
theorem AG (st:Bytes):(qC st).length=32:=fH _
def de (parts:List Bytes):Bytes:=parts.flatMap fun s=>be 8 s.length++s
theorem nJ (l:List Bytes) (s:Bytes):de (l++[s])=de l++(be 8 s.length++s):=by simp[de]
theorem pc (l:List Bytes) (h: ∀s∈l,s.length<=n):(de l).length<=l.length*(8+n):=by
 induction l with
 |nil=>simp[de]
 |cons x l ih=>
  have h1:=ih fun s hs=>h s (ka _ hs)
  have h2:=h x (by simp)
  have e:(de (x::l)).length=8+x.length+(de l).length:=by simp[de,cv];omega
  rw[e,List.length_cons,iN];omega
theorem Ew (N k:Nat) (h:k<8):(be 8 N).take (k+1)=(be 8 N).take k++[UInt8.ofNat (N/256^(7-k))]:=by
 match k,h with
 |0,_=>rfl
 |1,_=>rfl
 |2,_=>rfl
 |3,_=>rfl
 |4,_=>rfl
 |5,_=>rfl
 |6,_=>rfl
 |7,_=>rfl
theorem Mc (k n:Nat):be k n=be k (n%256^k):=by
 have h1:num (be k n)=num (be k (n%256^k)):=by rw[zX,zX,ep]
 have h2:=CC (be k n);have h3:=CC (be k (n%256^k));rw[cv]at h2 h3;rw[<-h2,h1,h3]
theorem yS (k m n:Nat):be (k+m) n=be k (n/256^m)++be m n:=by
 induction k with
 |zero=>simp[be]
 |succ k ih=>
  rw[show k+1+m=(k+m)+1 by omega]
  simp only[be,ih,List.cons_append];rw[eZ,<-cZ,ij m k]
theorem UH {j c:Nat} (hj:j<n) (hc:Q/256^j%256+c<256):(be n Q).set (n-1-j) (UInt8.ofNat (Q/256^j%256+c))=be n (Q+c*256^j):=by
 obtain⟨k,rfl⟩: ∃k,n=k+(j+1):=⟨n-j-1,by omega⟩
 have hp:0<256^j:=jq j;have h1:(Q+c*256^j)/256^j=Q/256^j+c:=Nat.add_mul_div_right _ _ hp;have h2:(Q+c*256^j)/256^(j+1)=Q/256^(j+1):=by
  rw[Nat.pow_succ,<-eZ,<-eZ,h1];omega
 have h3:be j (Q+c*256^j)=be j Q:=by rw[Mc,Nat.add_mul_mod_self_right,<-Mc]
 rw[yS k (j+1),yS k (j+1),h2,show k+(j+1)-1-j=k by omega]
 have hl:(be k (Q/256^(j+1))).length=k:=cv _ _;have:=Jl (be k (Q/256^(j+1))) (be j Q) (UInt8.ofNat (Q/256^j)) (UInt8.ofNat (Q/256^j%256+c));rw[hl]at this;simp only[be,h1,h3];rw[this];congr 2;exact ofNat_mod (by omega)
theorem EV (A i:Nat):A/2^i=2*(A/2^(i+1))+A/2^i%2:=by
 rw[Nat.pow_succ,<-eZ];omega
theorem MD (hB:0<B) (ht:t<2):(2*z+t)/B=2*(z/B)+(if B<=2*(z%B)+t then 1 else 0)/\(2*z+t)%B=(if B<=2*(z%B)+t then 2*(z%B)+t-B else 2*(z%B)+t):=by
 have h1:=iy z B;have h2:=aL z hB;generalize z/B=q at*;generalize z%B=r at*;have e:2*z+t=B*(2*q)+(2*r+t):=by
  have:B*(2*q)=2*(B*q):=by rw[Nat.mul_left_comm]
  omega
 split
 ·have e2:2*z+t=(2*r+t-B)+B*(2*q+1):=by rw[kp,dN];omega
  constructor
  ·rw[e2,nQ _ _ hB,iD (by omega)];omega
  ·rw[e2,xV,bY (by omega)]
 ·constructor
  ·rw[e,ij,nQ _ _ hB,iD (by omega)];omega
  ·rw[e,ij,xV,bY (by omega)]
theorem Me:Q*2^(i+1)/256^(i/8)%256+2^(i%8)<256:=by
 have h8:i%8<8:=aL _ (by decide)
 have e1:256^(i/8)=2^(8*(i/8)):=by rw[show 256=2^8 from rfl,<-ko]
 have e2:Q*2^(i+1)/256^(i/8)=Q*2^(i%8+1):=by
  rw[e1,show i+1=(i%8+1)+8*(i/8) by omega,cZ 2 (i%8+1),<-cF,DM _ (gR (by decide))]
 rw[e2];generalize i%8=e at h8;have:e=0\/e=1\/e=2\/e=3\/e=4\/e=5\/e=6\/e=7:=by omega
 rcases this with rfl|rfl|rfl|rfl|rfl|rfl|rfl|rfl<;>simp only[Nat.reduceAdd,Nat.reducePow]<;>omega
theorem Md:2^(i%8)*256^(i/8)=2^i:=by
 rw[show 256=2^8 from rfl,<-ko,<-cZ];congr 1;omega
