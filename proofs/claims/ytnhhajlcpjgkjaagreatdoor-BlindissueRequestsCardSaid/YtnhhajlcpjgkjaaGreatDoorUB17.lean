/- Part of the proof. -/
import Derived.Test.YtnhhajlcpjgkjaaGreatDoorUB16
import Derived.Lib.ItoaNum
set_option linter.all false
namespace Go.Dom
variable {B Q i n p q r t u y y0 y1 z:Nat}
theorem C9 (a p:Nat):a%(p*256)=a%p+p*(a/p%256):=pI
theorem BI (x p:Nat):x%(p*256)/p=x/p%256:=rA x p 256
theorem ofNat_mod {x:Nat} (h:x%256=y%256):UInt8.ofNat x=UInt8.ofNat y:=by
 apply jo.1;simpa using h
def carry (a b p:Nat):Nat:=(a%p+b%p)/p
theorem EU (a b:Nat) (hp:0<p):carry a b p<=1:=by
 unfold carry;have h1:=aQ a hp;have h2:=aQ b hp;have:(a%p+b%p)/p<2:=(iK hp).2 (by omega)
 omega
theorem BG (a b:Nat) (hp:0<p):carry a b p+(a/p%256+b/p%256)=(a%(p*256)+b%(p*256))/p:=by
 unfold carry;rw[C9,C9,show a%p+p*(a/p%256)+(b%p+p*(b/p%256))=(a%p+b%p)+p*(a/p%256+b/p%256) by rw[jW];omega,nX _ _ hp]
theorem yX (a b:Nat) (hp:0<p):UInt8.ofNat (carry a b p+(a/p%256+b/p%256))=UInt8.ofNat ((a+b)/p):=by
 rw[BG a b hp];apply ofNat_mod;rw[<-BI,<-BI,<-jf]
theorem yY (a b:Nat) (hp:0<p):(carry a b p+(a/p%256+b/p%256))/256=carry a b (p*256):=by
 rw[BG a b hp,eZ];rfl
def borrow (a b p:Nat):Nat:=if a%p<b%p then 1 else 0
theorem BF (a b p:Nat):borrow a b p<=1:=by unfold borrow;split<;>omega
theorem wT (a b:Nat) (hp:0<p):borrow a b (p*256)=if((a/p%256:Nat):Int)-(b/p%256:Nat)-(borrow a b p:Nat)<0 then 1 else 0:=by
 unfold borrow;rw[C9,C9];have h1:=aQ a hp;have h2:=aQ b hp;generalize a/p%256=x;generalize b/p%256=y;generalize a%p=r at*;generalize b%p=q at*;have key:(r+p*x<q+p*y)↔(x<y\/(x=y/\r<q)):=by
  rcases D5 x y with h|h|h
  ·have:=jd p (show x+1<=y from h)
   rw[jW]at this;simp only[h,true_or,iff_true];omega
  ·subst h;simp
  ·have:=jd p (show y+1<=x from h)
   rw[jW]at this;constructor
   ·intro;omega
   ·rintro(_|⟨_,_⟩)<;>omega
 by_cases hk:r+p*x<q+p*y
 ·rw[ah hk,ah];rcases key.1 hk with h|⟨h,h'⟩
  ·split<;>omega
  ·rw[ah h'];omega
 ·rw[af hk,af];have:=fun h=>hk (key.2 h)
  split<;>omega
theorem wS (a b:Nat) (hp:0<p) (h:b<=a) (d:Int) (hd:d=((a/p%256:Nat):Int)-(b/p%256:Nat)-(borrow a b p:Nat)):d%256=(((a-b)/p%256:Nat):Int):=by
 have h1:=aQ a hp;have h2:=aQ b hp;have e1:=iJ a p;have e2:=iJ b p;have hle:b/p+borrow a b p<=a/p:=by
  have hdv:=Nat.div_le_div_right (c:=p) h;unfold borrow;split
  ·rename_i hlt;rcases lT (b/p) (a/p)with g|g
   ·omega
   ·have:b/p=a/p:=by omega
    rw[this]at e2;omega
  ·omega
 have key:(a-b)/p=a/p-b/p-borrow a b p:=by
  have e3:a-b=(a%p+borrow a b p*p-b%p)+p*(a/p-b/p-borrow a b p):=by
   rw[Nat.mul_sub,Nat.mul_sub,bZ (borrow a b p) p];have g1:p*(b/p)+p*borrow a b p<=p*(a/p):=by rw[<-jW];exact jd _ hle
   have g2:b%p<=a%p+p*borrow a b p:=by unfold borrow;split<;>simp<;>omega
   omega
  have hlt:a%p+borrow a b p*p-b%p<p:=by unfold borrow;split<;>simp<;>omega
  rw[e3,nX _ _ hp,iL hlt,ew]
 rw[key,hd];omega
structure Ip (B y y1 y0 u t q r:Nat):Prop where
 s:q*y1+r=u
 ge:(u*B+t)/y<=q
theorem Ip.step (hy:y=y1*B+y0) (hy0:0<y) (h:Ip B y y1 y0 u t q r) (hu:u<y) (ht:t<B) (hc:B<=q\/B*r+t<q*y0):0<q/\Ip B y y1 y0 u t (q-1) (r+y1):=by
 have hlt:(u*B+t)/y<q:=by
  rcases hc with hc|hc
  ·refine br ((iK hy0).2 ?_) hc;have:(u+1)*B<=y*B:=dC _ hu;rw[dq]at this;rw[bZ B y];omega
  ·refine(iK hy0).2 ?_;have e:q*y=q*y1*B+q*y0:=by rw[hy,jW,cK]
   have e2:u*B=q*y1*B+B*r:=by rw[<-h.s,dq,bZ r B]
   omega
 have hq:0<q:=eR (aO _) hlt;refine⟨hq,⟨?_,Nat.le_sub_one_of_lt hlt⟩⟩;have:=h.s;obtain⟨k,rfl⟩: ∃k,q=k+1:=⟨q-1,by omega⟩
 rw[dq]at this;simp only[rJ];omega
theorem Ip.done (hy:y=y1*B+y0) (hy0:0<y) (h:Ip B y y1 y0 u t q r) (hc:q*y0<=B*r+t):q=(u*B+t)/y:=by
 refine DY ((uK hy0).2 ?_) h.ge;have e:q*y=q*y1*B+q*y0:=by rw[hy,jW,cK]
 have e2:u*B=q*y1*B+B*r:=by rw[<-h.s,dq,bZ r B]
 omega
theorem Ip.big (hy:y=y1*B+y0) (hy0:0<y) (hy0B:y0<B) (h:Ip B y y1 y0 u t q r) (hu:u<y) (hr:B<=r):q=(u*B+t)/y:=by
 have hq:q<B:=by
  rcases lT q B with g|g
  ·exact g
  ·exfalso
   have:=dC y1 g;have:=h.s;rw[bZ B y1]at*;omega
 refine h.done hy hy0 ?_;have h1:q*y0<=B*y0:=dC _ (by omega)
 have h2:B*y0<=B*r:=jd _ (by omega)
 omega
theorem Ip.start (hy:y=y1*B+y0) (hy1:0<y1) (hu:u<y) (ht:t<B):Ip B y y1 y0 u t (u/y1) (u%y1):=by
 refine⟨by have:=iJ u y1;rw[bZ];omega,?_⟩
 rcases jS B with hB|hB
 ·subst hB;omega
 ·have:(u*B+t)/y<=(u*B+t)/(y1*B):=Nat.div_le_div_left (by omega) (pO hy1 hB)
  refine gj this ?_;rw[bZ y1 B,<-eZ,bZ u B,ya hB,iL ht];exact aD _
theorem Ip.lt {y1 y0:Nat} (hy0:0<y) (hu:u<y) (ht:t<B) (h:q=(u*B+t)/y):q<B:=by
 rw[h];refine(iK hy0).2 ?_;have:(u+1)*B<=y*B:=dC _ hu;rw[dq]at this;rw[bZ B y];omega
theorem Ic {B y N u t1 t0 q1 q0 r1:Nat} (hB:0<B) (hy:0<y) (hN:N=u*(B*B)+t1*B+t0) (h1:q1=(u*B+t1)/y) (hr:r1=(u*B+t1)%y) (h0:q0=(r1*B+t0)/y):q1*B+q0=N/y/\(r1*B+t0)%y=N%y:=by
 have e:N=(r1*B+t0)+y*(q1*B):=by
  have:=iJ (u*B+t1) y;rw[<-h1,<-hr]at this;have e2:(u*B+t1)*B=y*q1*B+r1*B:=by rw[<-this,dq]
  rw[hN,<-cK,<-cK y];rw[dq]at e2;omega
 rw[e,nX _ _ hy,ym,<-h0];exact⟨by omega,rfl⟩
theorem sf (h0:0<y) (h:y<18446744073709551616):1<=Lib.bitLen y/\2^(Lib.bitLen y-1)<=y/\y<2^Lib.bitLen y:=Lib.bitLenAux_bounds 64 y h (by omega)
structure UA (hi lo y s:Nat):Prop where
 s64:s<64
 yl:9223372036854775808<=y*2^s
 yh:y*2^s<18446744073709551616
 hil:hi*2^s+lo/2^(64-s)<y*2^s
 eq:(hi*18446744073709551616+lo)*2^s=(hi*2^s+lo/2^(64-s))*18446744073709551616+lo*2^s%18446744073709551616
 hs:hi*2^s<18446744073709551616
 ol:lo/2^(64-s)<2^s
theorem scaled {hi lo:Nat} (h:hi<y) (hlo:lo<18446744073709551616) (hy:y<18446744073709551616):UA hi lo y (64-Lib.bitLen y):=by
 obtain⟨b1,b2,b3⟩:=sf (y:=y) (by omega) hy
 have b4:=Lib.bitLen_le y 64 (by decide) hy
 obtain⟨s,hs⟩: ∃s,s=64-Lib.bitLen y:=⟨_,rfl⟩;rw[<-hs];have e1:2^(Lib.bitLen y-1)*2^s=9223372036854775808:=by rw[<-dk,show Lib.bitLen y-1+s=63 by omega]
 have e2:2^Lib.bitLen y*2^s=18446744073709551616:=by rw[<-dk,show Lib.bitLen y+s=64 by omega]
 have e3:2^(64-s)*2^s=18446744073709551616:=by rw[<-dk,show 64-s+s=64 by omega]
 have hp:=Ej s;have hp':=Ej (64-s);have c1:9223372036854775808<=y*2^s:=by rw[<-e1];exact dC _ b2
 have c2:y*2^s<18446744073709551616:=by rw[<-e2];exact D8 b3 hp
 have c3:lo/2^(64-s)<2^s:=by
  refine(iK hp').2 ?_;rw[bZ,e3];exact hlo
 have c4:hi*2^s+2^s<=y*2^s:=by
  have:(hi+1)*2^s<=y*2^s:=dC (2^s) h;rw[dq,ie]at this;exact this
 refine⟨by omega,c1,c2,by omega,?_,by omega,c3⟩
 have d1:=iJ lo (2^(64-s));have d2:lo*2^s%18446744073709551616=lo%2^(64-s)*2^s:=by
  rw[<-e3,DO]
 have d3:lo*2^s=lo/2^(64-s)*18446744073709551616+lo%2^(64-s)*2^s:=by
  rw[<-e3];have:=congrArg (· *2^s) d1;simp only[dq]at this;rw[<-this,bZ (2^(64-s)),cK]
 rw[d2,dq,d3,dq];have:hi*18446744073709551616*2^s=hi*2^s*18446744073709551616:=by rw[cK,bZ 18446744073709551616,cK]
 omega
theorem jz (hq:q=(u*B+t)/y):(u*B+t)-q*y=(u*B+t)%y:=by
 have:=iJ (u*B+t) y;rw[hq,bZ _ y];omega
theorem rz (h1:z<=u*4294967296+t) (h2:u*4294967296+t-z<18446744073709551616):
  ((u*4294967296%18446744073709551616+t)%18446744073709551616+(18446744073709551616-z%18446744073709551616%18446744073709551616))%18446744073709551616=u*4294967296+t-z:=by omega
theorem CN (hq:q=(u*4294967296+t)/y):q*y<=u*4294967296+t:=by rw[hq];exact rK _ _
theorem whole {N Y y s U V q1 q0 R:Nat} (hy:0<y) (hY:Y=y*2^s) (hN:N*2^s=U*18446744073709551616+V) (h1:q1=(U*4294967296+V/4294967296)/Y) (hR:R=(U*4294967296+V/4294967296)%Y) (h0:q0=(R*4294967296+V%4294967296)/Y):
  q1*4294967296+q0=N/y/\(R*4294967296+V%4294967296)%Y/2^s=N%y:=by
 have hp:=Ej s;have hYp:0<Y:=by rw[hY];exact pO hy hp
 obtain⟨a,b⟩:=Ic (B:=4294967296) (y:=Y) (N:=N*2^s) (u:=U) (t1:=V/4294967296) (t0:=V%4294967296) (by decide) hYp (by rw[hN];omega) h1 hR h0
 rw[a,b,hY];exact⟨Nat.mul_div_mul_right _ _ hp,by rw[DO,Ed _ hp]⟩
def ad (a b:Nat):Nat:=(a+b)%4294967296
def BY (a b:Nat):Nat:=(a%4294967296)|||(b%4294967296)
def qk (a b:Nat):Nat:=(a%4294967296)^^^(b%4294967296)
def L3 (a b:Nat):Nat:=(a%4294967296)&&&(b%4294967296)
def YL (a:Nat):Nat:=4294967295^^^(a%4294967296)
def wY (a k:Nat):Nat:=a*2^k%4294967296
theorem Ok (a b:Nat):BY a b=BY b a:=Nat.or_comm _ _
theorem mA (a:Nat):BitVec.ofInt 32 ((a%4294967296:Nat):Int)=BitVec.ofInt 32 (a:Int):=by
 rw[gI,gI];apply BitVec.eq_of_toNat_eq;simp
theorem G6:IntKind.bits .u32=32:=rfl
theorem qo (a b:Nat):IntKind.u32.wrap ((a:Int)+(b:Int))=((ad a b:Nat):Int):=by rw[LY,ad];omega
theorem o_r (a b:Nat):Hj .u32 (a:Int) (b:Int)=((BY a b:Nat):Int):=by
 have h:=VA .u32 rfl (a:=a%4294967296) (b:=b%4294967296) (aQ _ (by decide)) (aQ _ (by decide))
 rw[BY,<-h,Hj,Hj,G6,mA,mA]
theorem Xx (a b:Nat):Fv .u32 (a:Int) (b:Int)=((qk a b:Nat):Int):=by
 have h:=TN .u32 rfl (a:=a%4294967296) (b:=b%4294967296) (aQ _ (by decide)) (aQ _ (by decide))
 rw[qk,<-h,Fv,Fv,G6,mA,mA]
theorem a_r (a b:Nat):mN .u32 (a:Int) (b:Int)=((L3 a b:Nat):Int):=by
 have h:=ND .u32 rfl (a:=a%4294967296) (b:=b%4294967296) (aQ _ (by decide)) (aQ _ (by decide))
 rw[L3,<-h,mN,mN,G6,mA,mA]
theorem n_r (a:Nat):IntKind.u32.wrap ((BitVec.ofInt 32 4294967295^^^BitVec.ofInt 32 (a:Int)).toNat:Int)=((YL a:Nat):Int):=by
 have h:BitVec.ofInt 32 4294967295=BitVec.ofNat 32 4294967295:=rfl;have h2:4294967295^^^a%4294967296<2^32:=Nat.xor_lt_two_pow (by decide) (aQ _ (by decide))
 rw[h,gI,BitVec.toNat_xor,kO,kO,YL,LY];simp only[Nat.reducePow,Nat.reduceMod]at*;omega
theorem YH (a k:Nat):IntKind.u32.wrap ((a:Int)*2^k)=((wY a k:Nat):Int):=by
 rw[LY,wY];have:((2:Int)^k)=((2^k:Nat):Int):=by simp
 rw[this,<-Int.natCast_mul];omega
def qf:List Nat:=[0x428a2f98,0x71374491,0xb5c0fbcf,0xe9b5dba5,0x3956c25b,0x59f111f1,0x923f82a4,0xab1c5ed5,
 0xd807aa98,0x12835b01,0x243185be,0x550c7dc3,0x72be5d74,0x80deb1fe,0x9bdc06a7,0xc19bf174,
 0xe49b69c1,0xefbe4786,0x0fc19dc6,0x240ca1cc,0x2de92c6f,0x4a7484aa,0x5cb0a9dc,0x76f988da,
 0x983e5152,0xa831c66d,0xb00327c8,0xbf597fc7,0xc6e00bf3,0xd5a79147,0x06ca6351,0x14292967,
 0x27b70a85,0x2e1b2138,0x4d2c6dfc,0x53380d13,0x650a7354,0x766a0abb,0x81c2c92e,0x92722c85,
 0xa2bfe8a1,0xa81a664b,0xc24b8b70,0xc76c51a3,0xd192e819,0xd6990624,0xf40e3585,0x106aa070,
 0x19a4c116,0x1e376c08,0x2748774c,0x34b0bcb5,0x391c0cb3,0x4ed8aa4a,0x5b9cca4f,0x682e6ff3,
 0x748f82ee,0x78a5636f,0x84c87814,0x8cc70208,0x90befffa,0xa4506ceb,0xbef9a3f7,0xc67178f2]
def oY:List Nat:=[0x6a09e667,0xbb67ae85,0x3c6ef372,0xa54ff53a,0x510e527f,0x9b05688c,0x1f83d9ab,0x5be0cd19]
def rr (x n:Nat):Nat:=BY (x/2^n) (wY x (32-n))
def Ze (x:Nat):Nat:=qk (qk (rr x 7) (rr x 18)) (x/8)
def Zf (x:Nat):Nat:=qk (qk (rr x 17) (rr x 19)) (x/1024)
def DA (l:List Nat):Nat:=ad (ad (ad (l.getD (l.length-16) 0) (Ze (l.getD (l.length-15) 0))) (l.getD (l.length-7) 0)) (Zf (l.getD (l.length-2) 0))
def LQ:Nat->List Nat->List Nat
 |0,l=>l
 |n+1,l=>LQ n (l++[DA l])
def xB (blk:Bytes) (i:Nat):Nat:=num ((blk.drop (4*i)).take 4)
def sched (blk:Bytes):List Nat:=LQ 48 ((List.range 16).map (xB blk))
def Pw (k w:Nat) (v:List Nat):Nat:=ad (ad (ad (ad (v.getD 7 0) (qk (qk (rr (v.getD 4 0) 6) (rr (v.getD 4 0) 11)) (rr (v.getD 4 0) 25))) (qk (L3 (v.getD 4 0) (v.getD 5 0)) (L3 (YL (v.getD 4 0)) (v.getD 6 0)))) k) w
def W7 (v:List Nat):Nat:=ad (qk (qk (rr (v.getD 0 0) 2) (rr (v.getD 0 0) 13)) (rr (v.getD 0 0) 22)) (qk (qk (L3 (v.getD 0 0) (v.getD 1 0)) (L3 (v.getD 0 0) (v.getD 2 0))) (L3 (v.getD 1 0) (v.getD 2 0)))
def Pu (k w:Nat) (v:List Nat):List Nat:=[ad (Pw k w v) (W7 v),v.getD 0 0,v.getD 1 0,v.getD 2 0,ad (v.getD 3 0) (Pw k w v),v.getD 4 0,v.getD 5 0,v.getD 6 0]
def wD (W:List Nat):Nat->List Nat->List Nat
 |0,v=>v
 |n+1,v=>wD W n (Pu (qf.getD (63-n) 0) (W.getD (63-n) 0) v)
def rW (st:List Nat) (blk:Bytes):List Nat:=List.zipWith ad (wD (sched blk) 64 st) st
def oj:Nat->Bytes->List Nat->List Nat
 |0,_,st=>st
 |n+1,m,st=>oj n (m.drop 64) (rW st (m.take 64))
def pad (s:Bytes):Bytes:=s++128::(List.replicate ((119-s.length%64)%64) 0++be 8 (s.length*8))
def Wk (w:Nat):Bytes:=[UInt8.ofNat (w/2^24),UInt8.ofNat (w/2^16),UInt8.ofNat (w/2^8),UInt8.ofNat w]
def lQ (s:Bytes):Bytes:=(oj ((pad s).length/64) (pad s) oY).flatMap Wk
theorem Gq: ∀n l,(LQ n l).length=l.length+n
 |0,l=>rfl
 |n+1,l=>by rw[LQ,Gq n];simp;omega
theorem mD (b:Bytes):(sched b).length=64:=by simp[sched,Gq]
theorem Pv (k w:Nat) (v:List Nat):(Pu k w v).length=8:=rfl
theorem Gp (W:List Nat): ∀n v,v.length=8->(wD W n v).length=8
 |0,v,h=>h
 |n+1,v,h=>Gp W n _ (Pv _ _ _)
theorem oX {st:List Nat} (b:Bytes) (h:st.length=8):(rW st b).length=8:=by simp[rW,Gp _ _ _ h,h]
theorem Gn: ∀n m st,st.length=8->(oj n m st).length=8
 |0,m,st,h=>h
 |n+1,m,st,h=>Gn n _ _ (oX _ h)
theorem Dd (s:Bytes):(pad s).length=s.length+9+(119-s.length%64)%64:=by simp[pad,cO];omega
theorem OA (s:Bytes):(pad s).length=(pad s).length/64*64:=by rw[Dd];omega
theorem fG (s:Bytes):(lQ s).length=32:=by
 have h:=Gn ((pad s).length/64) (pad s) oY rfl;unfold lQ;generalize oj ((pad s).length/64) (pad s) oY=l at h;obtain⟨a,b,c,d,e,f,g,i,rfl⟩: ∃a b c d e f g i,l=[a,b,c,d,e,f,g,i]:=by
  match l,h with
  |[a,b,c,d,e,f,g,i],_=>exact⟨_,_,_,_,_,_,_,_,rfl⟩
 rfl
def iT (k:Nat) (parts:List Bytes):Bytes:=UInt8.ofNat k::(be 8 parts.length++parts.flatMap fun s=>be 8 s.length++s)
def lZ (l:Bytes):Bytes:=lQ (iT 78 [l])
def fH (st l d:Bytes):Bytes:=lQ (iT 65 [st,l,d])
def gL (st l:Bytes) (xs:List Bytes):Bytes:=lQ (iT 76 (st::l::xs))
def mZ (x:Bool×Bytes):Bytes:=(if x.1 then 45 else 43)::x.2
def DG (st l:Bytes) (xs:List (Bool×Bytes)):Bytes:=lQ (iT 73 (st::l::xs.map mZ))
def qU (st:Bytes):Bytes:=lQ (iT 67 [st,be 8 0])
def gK (st bound:Bytes):Nat:=num ((qU st).take (bound.length+8))%num bound
theorem Cs (l:Bytes):(lZ l).length=32:=fG _
theorem jB (st l d:Bytes):(fH st l d).length=32:=fG _
theorem fo (st l:Bytes) (xs:List Bytes):(gL st l xs).length=32:=fG _
theorem H9 (st l:Bytes) (xs:List (Bool×Bytes)):(DG st l xs).length=32:=fG _
theorem AH (st:Bytes):(qU st).length=32:=fG _
def dx (parts:List Bytes):Bytes:=parts.flatMap fun s=>be 8 s.length++s
theorem nC (l:List Bytes) (s:Bytes):dx (l++[s])=dx l++(be 8 s.length++s):=by simp[dx]
theorem py (l:List Bytes) (h: ∀s∈l,s.length<=n):(dx l).length<=l.length*(8+n):=by
 induction l with
 |nil=>simp[dx]
 |cons x l ih=>
  have h1:=ih fun s hs=>h s (jm _ hs)
  have h2:=h x (by simp)
  have e:(dx (x::l)).length=8+x.length+(dx l).length:=by simp[dx,cO];omega
  rw[e,List.length_cons,kP];omega
theorem EO (N k:Nat) (h:k<8):(be 8 N).take (k+1)=(be 8 N).take k++[UInt8.ofNat (N/256^(7-k))]:=by
 match k,h with
 |0,_=>rfl
 |1,_=>rfl
 |2,_=>rfl
 |3,_=>rfl
 |4,_=>rfl
 |5,_=>rfl
 |6,_=>rfl
 |7,_=>rfl
theorem MB (k n:Nat):be k n=be k (n%256^k):=by
 have h1:num (be k n)=num (be k (n%256^k)):=by rw[zT,zT,eE]
 have h2:=CF (be k n);have h3:=CF (be k (n%256^k));rw[cO]at h2 h3;rw[<-h2,h1,h3]
theorem yS (k m n:Nat):be (k+m) n=be k (n/256^m)++be m n:=by
 induction k with
 |zero=>simp[be]
 |succ k ih=>
  rw[show k+1+m=(k+m)+1 by omega]
  simp only[be,ih,List.cons_append];rw[eZ,<-dk,gN m k]
theorem Vd {j c:Nat} (hj:j<n) (hc:Q/256^j%256+c<256):(be n Q).set (n-1-j) (UInt8.ofNat (Q/256^j%256+c))=be n (Q+c*256^j):=by
 obtain⟨k,rfl⟩: ∃k,n=k+(j+1):=⟨n-j-1,by omega⟩
 have hp:0<256^j:=jh j;have h1:(Q+c*256^j)/256^j=Q/256^j+c:=Nat.add_mul_div_right _ _ hp;have h2:(Q+c*256^j)/256^(j+1)=Q/256^(j+1):=by
  rw[Nat.pow_succ,<-eZ,<-eZ,h1];omega
 have h3:be j (Q+c*256^j)=be j Q:=by rw[MB,Nat.add_mul_mod_self_right,<-MB]
 rw[yS k (j+1),yS k (j+1),h2,show k+(j+1)-1-j=k by omega]
 have hl:(be k (Q/256^(j+1))).length=k:=cO _ _;have:=JM (be k (Q/256^(j+1))) (be j Q) (UInt8.ofNat (Q/256^j)) (UInt8.ofNat (Q/256^j%256+c));rw[hl]at this;simp only[be,h1,h3];rw[this];congr 2;exact ofNat_mod (by omega)
theorem Fs (A i:Nat):A/2^i=2*(A/2^(i+1))+A/2^i%2:=by
 rw[Nat.pow_succ,<-eZ];omega
theorem Nb (hB:0<B) (ht:t<2):(2*z+t)/B=2*(z/B)+(if B<=2*(z%B)+t then 1 else 0)/\(2*z+t)%B=(if B<=2*(z%B)+t then 2*(z%B)+t-B else 2*(z%B)+t):=by
 have h1:=iJ z B;have h2:=aQ z hB;generalize z/B=q at*;generalize z%B=r at*;have e:2*z+t=B*(2*q)+(2*r+t):=by
  have:B*(2*q)=2*(B*q):=by rw[Ef]
  omega
 split
 ·have e2:2*z+t=(2*r+t-B)+B*(2*q+1):=by rw[jW,dG];omega
  constructor
  ·rw[e2,nX _ _ hB,iL (by omega)];omega
  ·rw[e2,ym,bE (by omega)]
 ·constructor
  ·rw[e,gN,nX _ _ hB,iL (by omega)];omega
  ·rw[e,gN,ym,bE (by omega)]
theorem MD:Q*2^(i+1)/256^(i/8)%256+2^(i%8)<256:=by
 have h8:i%8<8:=aQ _ (by decide)
 have e1:256^(i/8)=2^(8*(i/8)):=by rw[show 256=2^8 from rfl,<-jY]
 have e2:Q*2^(i+1)/256^(i/8)=Q*2^(i%8+1):=by
  rw[e1,show i+1=(i%8+1)+8*(i/8) by omega,dk 2 (i%8+1),<-cK,Ed _ (gZ (by decide))]
 rw[e2];generalize i%8=e at h8;have:e=0\/e=1\/e=2\/e=3\/e=4\/e=5\/e=6\/e=7:=by omega
 rcases this with rfl|rfl|rfl|rfl|rfl|rfl|rfl|rfl<;>simp only[Nat.reduceAdd,Nat.reducePow]<;>omega
theorem MC:2^(i%8)*256^(i/8)=2^i:=by
 rw[show 256=2^8 from rfl,<-jY,<-dk];congr 1;omega
