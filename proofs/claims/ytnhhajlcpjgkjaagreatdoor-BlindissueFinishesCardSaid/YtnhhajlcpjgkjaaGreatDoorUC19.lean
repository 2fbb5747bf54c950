/- Part of the proof. -/
import Derived.Test.YtnhhajlcpjgkjaaGreatDoorUC17
import Derived.Lib.ItoaNum
set_option linter.all false
namespace Go.Dom
variable {B Q i n p q r t u y y0 y1 z:Nat}
theorem B4 (a p:Nat):a%(p*256)=a%p+p*(a/p%256):=oS
theorem Ap (x p:Nat):x%(p*256)/p=x/p%256:=qA x p 256
theorem ofNat_mod {x:Nat} (h:x%256=y%256):UInt8.ofNat x=UInt8.ofNat y:=by
 apply jB.1;simpa using h
def carry (a b p:Nat):Nat:=(a%p+b%p)/p
theorem DF (a b:Nat) (hp:0<p):carry a b p<=1:=by
 unfold carry;have h1:=aP a hp;have h2:=aP b hp;have:(a%p+b%p)/p<2:=(im hp).2 (by omega)
 omega
theorem An (a b:Nat) (hp:0<p):carry a b p+(a/p%256+b/p%256)=(a%(p*256)+b%(p*256))/p:=by
 unfold carry;rw[B4,B4,show a%p+p*(a/p%256)+(b%p+p*(b/p%256))=(a%p+b%p)+p*(a/p%256+b/p%256) by rw[jz];omega,nq _ _ hp]
theorem xD (a b:Nat) (hp:0<p):UInt8.ofNat (carry a b p+(a/p%256+b/p%256))=UInt8.ofNat ((a+b)/p):=by
 rw[An a b hp];apply ofNat_mod;rw[<-Ap,<-Ap,<-kU]
theorem xE (a b:Nat) (hp:0<p):(carry a b p+(a/p%256+b/p%256))/256=carry a b (p*256):=by
 rw[An a b hp,eL];rfl
def borrow (a b p:Nat):Nat:=if a%p<b%p then 1 else 0
theorem Am (a b p:Nat):borrow a b p<=1:=by unfold borrow;split<;>omega
theorem uZ (a b:Nat) (hp:0<p):borrow a b (p*256)=if((a/p%256:Nat):Int)-(b/p%256:Nat)-(borrow a b p:Nat)<0 then 1 else 0:=by
 unfold borrow;rw[B4,B4];have h1:=aP a hp;have h2:=aP b hp;generalize a/p%256=x;generalize b/p%256=y;generalize a%p=r at*;generalize b%p=q at*;have key:(r+p*x<q+p*y)↔(x<y\/(x=y/\r<q)):=by
  rcases CK x y with h|h|h
  ·have:=kS p (show x+1<=y from h)
   rw[jz]at this;simp only[h,true_or,iff_true];omega
  ·subst h;simp
  ·have:=kS p (show y+1<=x from h)
   rw[jz]at this;constructor
   ·intro;omega
   ·rintro(_|⟨_,_⟩)<;>omega
 by_cases hk:r+p*x<q+p*y
 ·rw[ah hk,ah];rcases key.1 hk with h|⟨h,h'⟩
  ·split<;>omega
  ·rw[ah h'];omega
 ·rw[af hk,af];have:=fun h=>hk (key.2 h)
  split<;>omega
theorem uY (a b:Nat) (hp:0<p) (h:b<=a) (d:Int) (hd:d=((a/p%256:Nat):Int)-(b/p%256:Nat)-(borrow a b p:Nat)):d%256=(((a-b)/p%256:Nat):Int):=by
 have h1:=aP a hp;have h2:=aP b hp;have e1:=ik a p;have e2:=ik b p;have hle:b/p+borrow a b p<=a/p:=by
  have hdv:=Nat.div_le_div_right (c:=p) h;unfold borrow;split
  ·rename_i hlt;rcases iN (b/p) (a/p)with g|g
   ·omega
   ·have:b/p=a/p:=by omega
    rw[this]at e2;omega
  ·omega
 have key:(a-b)/p=a/p-b/p-borrow a b p:=by
  have e3:a-b=(a%p+borrow a b p*p-b%p)+p*(a/p-b/p-borrow a b p):=by
   rw[Nat.mul_sub,Nat.mul_sub,bU (borrow a b p) p];have g1:p*(b/p)+p*borrow a b p<=p*(a/p):=by rw[<-jz];exact kS _ hle
   have g2:b%p<=a%p+p*borrow a b p:=by unfold borrow;split<;>simp<;>omega
   omega
  have hlt:a%p+borrow a b p*p-b%p<p:=by unfold borrow;split<;>simp<;>omega
  rw[e3,nq _ _ hp,ir hlt,eK]
 rw[key,hd];omega
structure G9 (B y y1 y0 u t q r:Nat):Prop where
 s:q*y1+r=u
 ge:(u*B+t)/y<=q
theorem G9.step (hy:y=y1*B+y0) (hy0:0<y) (h:G9 B y y1 y0 u t q r) (hu:u<y) (ht:t<B) (hc:B<=q\/B*r+t<q*y0):0<q/\G9 B y y1 y0 u t (q-1) (r+y1):=by
 have hlt:(u*B+t)/y<q:=by
  rcases hc with hc|hc
  ·refine b9 ((im hy0).2 ?_) hc;have:(u+1)*B<=y*B:=dq _ hu;rw[dc]at this;rw[bU B y];omega
  ·refine(im hy0).2 ?_;have e:q*y=q*y1*B+q*y0:=by rw[hy,jz,cA]
   have e2:u*B=q*y1*B+B*r:=by rw[<-h.s,dc,bU r B]
   omega
 have hq:0<q:=eu (aR _) hlt;refine⟨hq,⟨?_,Nat.le_sub_one_of_lt hlt⟩⟩;have:=h.s;obtain⟨k,rfl⟩: ∃k,q=k+1:=⟨q-1,by omega⟩
 rw[dc]at this;simp only[qu];omega
theorem G9.done (hy:y=y1*B+y0) (hy0:0<y) (h:G9 B y y1 y0 u t q r) (hc:q*y0<=B*r+t):q=(u*B+t)/y:=by
 refine CI ((tE hy0).2 ?_) h.ge;have e:q*y=q*y1*B+q*y0:=by rw[hy,jz,cA]
 have e2:u*B=q*y1*B+B*r:=by rw[<-h.s,dc,bU r B]
 omega
theorem G9.big (hy:y=y1*B+y0) (hy0:0<y) (hy0B:y0<B) (h:G9 B y y1 y0 u t q r) (hu:u<y) (hr:B<=r):q=(u*B+t)/y:=by
 have hq:q<B:=by
  rcases iN q B with g|g
  ·exact g
  ·exfalso
   have:=dq y1 g;have:=h.s;rw[bU B y1]at*;omega
 refine h.done hy hy0 ?_;have h1:q*y0<=B*y0:=dq _ (by omega)
 have h2:B*y0<=B*r:=kS _ (by omega)
 omega
theorem G9.start (hy:y=y1*B+y0) (hy1:0<y1) (hu:u<y) (ht:t<B):G9 B y y1 y0 u t (u/y1) (u%y1):=by
 refine⟨by have:=ik u y1;rw[bU];omega,?_⟩
 rcases jv B with hB|hB
 ·subst hB;omega
 ·have:(u*B+t)/y<=(u*B+t)/(y1*B):=Nat.div_le_div_left (by omega) (oQ hy1 hB)
  refine fQ this ?_;rw[bU y1 B,<-eL,bU u B,wC hB,ir ht];exact aD _
theorem G9.lt {y1 y0:Nat} (hy0:0<y) (hu:u<y) (ht:t<B) (h:q=(u*B+t)/y):q<B:=by
 rw[h];refine(im hy0).2 ?_;have:(u+1)*B<=y*B:=dq _ hu;rw[dc]at this;rw[bU B y];omega
theorem GX {B y N u t1 t0 q1 q0 r1:Nat} (hB:0<B) (hy:0<y) (hN:N=u*(B*B)+t1*B+t0) (h1:q1=(u*B+t1)/y) (hr:r1=(u*B+t1)%y) (h0:q0=(r1*B+t0)/y):q1*B+q0=N/y/\(r1*B+t0)%y=N%y:=by
 have e:N=(r1*B+t0)+y*(q1*B):=by
  have:=ik (u*B+t1) y;rw[<-h1,<-hr]at this;have e2:(u*B+t1)*B=y*q1*B+r1*B:=by rw[<-this,dc]
  rw[hN,<-cA,<-cA y];rw[dc]at e2;omega
 rw[e,nq _ _ hy,wO,<-h0];exact⟨by omega,rfl⟩
theorem qT (h0:0<y) (h:y<18446744073709551616):1<=Lib.bitLen y/\2^(Lib.bitLen y-1)<=y/\y<2^Lib.bitLen y:=Lib.bitLenAux_bounds 64 y h (by omega)
structure SM (hi lo y s:Nat):Prop where
 s64:s<64
 yl:9223372036854775808<=y*2^s
 yh:y*2^s<18446744073709551616
 hil:hi*2^s+lo/2^(64-s)<y*2^s
 eq:(hi*18446744073709551616+lo)*2^s=(hi*2^s+lo/2^(64-s))*18446744073709551616+lo*2^s%18446744073709551616
 hs:hi*2^s<18446744073709551616
 ol:lo/2^(64-s)<2^s
theorem scaled {hi lo:Nat} (h:hi<y) (hlo:lo<18446744073709551616) (hy:y<18446744073709551616):SM hi lo y (64-Lib.bitLen y):=by
 obtain⟨b1,b2,b3⟩:=qT (y:=y) (by omega) hy
 have b4:=Lib.bitLen_le y 64 (by decide) hy
 obtain⟨s,hs⟩: ∃s,s=64-Lib.bitLen y:=⟨_,rfl⟩;rw[<-hs];have e1:2^(Lib.bitLen y-1)*2^s=9223372036854775808:=by rw[<-cY,show Lib.bitLen y-1+s=63 by omega]
 have e2:2^Lib.bitLen y*2^s=18446744073709551616:=by rw[<-cY,show Lib.bitLen y+s=64 by omega]
 have e3:2^(64-s)*2^s=18446744073709551616:=by rw[<-cY,show 64-s+s=64 by omega]
 have hp:=C9 s;have hp':=C9 (64-s);have c1:9223372036854775808<=y*2^s:=by rw[<-e1];exact dq _ b2
 have c2:y*2^s<18446744073709551616:=by rw[<-e2];exact CL b3 hp
 have c3:lo/2^(64-s)<2^s:=by
  refine(im hp').2 ?_;rw[bU,e3];exact hlo
 have c4:hi*2^s+2^s<=y*2^s:=by
  have:(hi+1)*2^s<=y*2^s:=dq (2^s) h;rw[dc,iv]at this;exact this
 refine⟨by omega,c1,c2,by omega,?_,by omega,c3⟩
 have d1:=ik lo (2^(64-s));have d2:lo*2^s%18446744073709551616=lo%2^(64-s)*2^s:=by
  rw[<-e3,Dd]
 have d3:lo*2^s=lo/2^(64-s)*18446744073709551616+lo%2^(64-s)*2^s:=by
  rw[<-e3];have:=congrArg (· *2^s) d1;simp only[dc]at this;rw[<-this,bU (2^(64-s)),cA]
 rw[d2,dc,d3,dc];have:hi*18446744073709551616*2^s=hi*2^s*18446744073709551616:=by rw[cA,bU 18446744073709551616,cA]
 omega
theorem iY (hq:q=(u*B+t)/y):(u*B+t)-q*y=(u*B+t)%y:=by
 have:=ik (u*B+t) y;rw[hq,bU _ y];omega
theorem qt (h1:z<=u*4294967296+t) (h2:u*4294967296+t-z<18446744073709551616):
  ((u*4294967296%18446744073709551616+t)%18446744073709551616+(18446744073709551616-z%18446744073709551616%18446744073709551616))%18446744073709551616=u*4294967296+t-z:=by omega
theorem BB (hq:q=(u*4294967296+t)/y):q*y<=u*4294967296+t:=by rw[hq];exact qv _ _
theorem whole {N Y y s U V q1 q0 R:Nat} (hy:0<y) (hY:Y=y*2^s) (hN:N*2^s=U*18446744073709551616+V) (h1:q1=(U*4294967296+V/4294967296)/Y) (hR:R=(U*4294967296+V/4294967296)%Y) (h0:q0=(R*4294967296+V%4294967296)/Y):
  q1*4294967296+q0=N/y/\(R*4294967296+V%4294967296)%Y/2^s=N%y:=by
 have hp:=C9 s;have hYp:0<Y:=by rw[hY];exact oQ hy hp
 obtain⟨a,b⟩:=GX (B:=4294967296) (y:=Y) (N:=N*2^s) (u:=U) (t1:=V/4294967296) (t0:=V%4294967296) (by decide) hYp (by rw[hN];omega) h1 hR h0
 rw[a,b,hY];exact⟨Nat.mul_div_mul_right _ _ hp,by rw[Dd,Dc _ hp]⟩
def ad (a b:Nat):Nat:=(a+b)%4294967296
def AF (a b:Nat):Nat:=(a%4294967296)|||(b%4294967296)
def px (a b:Nat):Nat:=(a%4294967296)^^^(b%4294967296)
def Kw (a b:Nat):Nat:=(a%4294967296)&&&(b%4294967296)
def Xi (a:Nat):Nat:=4294967295^^^(a%4294967296)
def vg (a k:Nat):Nat:=a*2^k%4294967296
theorem My (a b:Nat):AF a b=AF b a:=Nat.or_comm _ _
theorem lJ (a:Nat):BitVec.ofInt 32 ((a%4294967296:Nat):Int)=BitVec.ofInt 32 (a:Int):=by
 rw[fY,fY];apply BitVec.eq_of_toNat_eq;simp
theorem FH:IntKind.bits .u32=32:=rfl
theorem pC (a b:Nat):IntKind.u32.wrap ((a:Int)+(b:Int))=((ad a b:Nat):Int):=by rw[Kr,ad];omega
theorem ZK (a b:Nat):FW .u32 (a:Int) (b:Int)=((AF a b:Nat):Int):=by
 have h:=TQ .u32 rfl (a:=a%4294967296) (b:=b%4294967296) (aP _ (by decide)) (aP _ (by decide))
 rw[AF,<-h,FW,FW,FH,lJ,lJ]
theorem Wa (a b:Nat):Ec .u32 (a:Int) (b:Int)=((px a b:Nat):Int):=by
 have h:=RO .u32 rfl (a:=a%4294967296) (b:=b%4294967296) (aP _ (by decide)) (aP _ (by decide))
 rw[px,<-h,Ec,Ec,FH,lJ,lJ]
theorem YR (a b:Nat):me .u32 (a:Int) (b:Int)=((Kw a b:Nat):Int):=by
 have h:=Md .u32 rfl (a:=a%4294967296) (b:=b%4294967296) (aP _ (by decide)) (aP _ (by decide))
 rw[Kw,<-h,me,me,FH,lJ,lJ]
theorem n_r (a:Nat):IntKind.u32.wrap ((BitVec.ofInt 32 4294967295^^^BitVec.ofInt 32 (a:Int)).toNat:Int)=((Xi a:Nat):Int):=by
 have h:BitVec.ofInt 32 4294967295=BitVec.ofNat 32 4294967295:=rfl;have h2:4294967295^^^a%4294967296<2^32:=Nat.xor_lt_two_pow (by decide) (aP _ (by decide))
 rw[h,fY,BitVec.toNat_xor,kj,kj,Xi,Kr];simp only[Nat.reducePow,Nat.reduceMod]at*;omega
theorem Xe (a k:Nat):IntKind.u32.wrap ((a:Int)*2^k)=((vg a k:Nat):Int):=by
 rw[Kr,vg];have:((2:Int)^k)=((2^k:Nat):Int):=by simp
 rw[this,<-Int.natCast_mul];omega
def po:List Nat:=[0x428a2f98,0x71374491,0xb5c0fbcf,0xe9b5dba5,0x3956c25b,0x59f111f1,0x923f82a4,0xab1c5ed5,
 0xd807aa98,0x12835b01,0x243185be,0x550c7dc3,0x72be5d74,0x80deb1fe,0x9bdc06a7,0xc19bf174,
 0xe49b69c1,0xefbe4786,0x0fc19dc6,0x240ca1cc,0x2de92c6f,0x4a7484aa,0x5cb0a9dc,0x76f988da,
 0x983e5152,0xa831c66d,0xb00327c8,0xbf597fc7,0xc6e00bf3,0xd5a79147,0x06ca6351,0x14292967,
 0x27b70a85,0x2e1b2138,0x4d2c6dfc,0x53380d13,0x650a7354,0x766a0abb,0x81c2c92e,0x92722c85,
 0xa2bfe8a1,0xa81a664b,0xc24b8b70,0xc76c51a3,0xd192e819,0xd6990624,0xf40e3585,0x106aa070,
 0x19a4c116,0x1e376c08,0x2748774c,0x34b0bcb5,0x391c0cb3,0x4ed8aa4a,0x5b9cca4f,0x682e6ff3,
 0x748f82ee,0x78a5636f,0x84c87814,0x8cc70208,0x90befffa,0xa4506ceb,0xbef9a3f7,0xc67178f2]
def nV:List Nat:=[0x6a09e667,0xbb67ae85,0x3c6ef372,0xa54ff53a,0x510e527f,0x9b05688c,0x1f83d9ab,0x5be0cd19]
def rr (x n:Nat):Nat:=AF (x/2^n) (vg x (32-n))
def XN (x:Nat):Nat:=px (px (rr x 7) (rr x 18)) (x/8)
def XO (x:Nat):Nat:=px (px (rr x 17) (rr x 19)) (x/1024)
def Co (l:List Nat):Nat:=ad (ad (ad (l.getD (l.length-16) 0) (XN (l.getD (l.length-15) 0))) (l.getD (l.length-7) 0)) (XO (l.getD (l.length-2) 0))
def Kk:Nat->List Nat->List Nat
 |0,l=>l
 |n+1,l=>Kk n (l++[Co l])
def vK (blk:Bytes) (i:Nat):Nat:=num ((blk.drop (4*i)).take 4)
def sched (blk:Bytes):List Nat:=Kk 48 ((List.range 16).map (vK blk))
def NL (k w:Nat) (v:List Nat):Nat:=ad (ad (ad (ad (v.getD 7 0) (px (px (rr (v.getD 4 0) 6) (rr (v.getD 4 0) 11)) (rr (v.getD 4 0) 25))) (px (Kw (v.getD 4 0) (v.getD 5 0)) (Kw (Xi (v.getD 4 0)) (v.getD 6 0)))) k) w
def VI (v:List Nat):Nat:=ad (px (px (rr (v.getD 0 0) 2) (rr (v.getD 0 0) 13)) (rr (v.getD 0 0) 22)) (px (px (Kw (v.getD 0 0) (v.getD 1 0)) (Kw (v.getD 0 0) (v.getD 2 0))) (Kw (v.getD 1 0) (v.getD 2 0)))
def NJ (k w:Nat) (v:List Nat):List Nat:=[ad (NL k w v) (VI v),v.getD 0 0,v.getD 1 0,v.getD 2 0,ad (v.getD 3 0) (NL k w v),v.getD 4 0,v.getD 5 0,v.getD 6 0]
def uK (W:List Nat):Nat->List Nat->List Nat
 |0,v=>v
 |n+1,v=>uK W n (NJ (po.getD (63-n) 0) (W.getD (63-n) 0) v)
def qO (st:List Nat) (blk:Bytes):List Nat:=List.zipWith ad (uK (sched blk) 64 st) st
def nA:Nat->Bytes->List Nat->List Nat
 |0,_,st=>st
 |n+1,m,st=>nA n (m.drop 64) (qO st (m.take 64))
def pad (s:Bytes):Bytes:=s++128::(List.replicate ((119-s.length%64)%64) 0++be 8 (s.length*8))
def UZ (w:Nat):Bytes:=[UInt8.ofNat (w/2^24),UInt8.ofNat (w/2^16),UInt8.ofNat (w/2^8),UInt8.ofNat w]
def lg (s:Bytes):Bytes:=(nA ((pad s).length/64) (pad s) nV).flatMap UZ
theorem EY: ∀n l,(Kk n l).length=l.length+n
 |0,l=>rfl
 |n+1,l=>by rw[Kk,EY n];simp;omega
theorem lO (b:Bytes):(sched b).length=64:=by simp[sched,EY]
theorem NK (k w:Nat) (v:List Nat):(NJ k w v).length=8:=rfl
theorem EX (W:List Nat): ∀n v,v.length=8->(uK W n v).length=8
 |0,v,h=>h
 |n+1,v,h=>EX W n _ (NK _ _ _)
theorem nU {st:List Nat} (b:Bytes) (h:st.length=8):(qO st b).length=8:=by simp[qO,EX _ _ _ h,h]
theorem EW: ∀n m st,st.length=8->(nA n m st).length=8
 |0,m,st,h=>h
 |n+1,m,st,h=>EW n _ _ (nU _ h)
theorem B7 (s:Bytes):(pad s).length=s.length+9+(119-s.length%64)%64:=by simp[pad,cH];omega
theorem MK (s:Bytes):(pad s).length=(pad s).length/64*64:=by rw[B7];omega
theorem iK (s:Bytes):(lg s).length=32:=by
 have h:=EW ((pad s).length/64) (pad s) nV rfl;unfold lg;generalize nA ((pad s).length/64) (pad s) nV=l at h;obtain⟨a,b,c,d,e,f,g,i,rfl⟩: ∃a b c d e f g i,l=[a,b,c,d,e,f,g,i]:=by
  match l,h with
  |[a,b,c,d,e,f,g,i],_=>exact⟨_,_,_,_,_,_,_,_,rfl⟩
 rfl
def iD (k:Nat) (parts:List Bytes):Bytes:=UInt8.ofNat k::(be 8 parts.length++parts.flatMap fun s=>be 8 s.length++s)
def kX (l:Bytes):Bytes:=lg (iD 78 [l])
def fw (st l d:Bytes):Bytes:=lg (iD 65 [st,l,d])
def gb (st l:Bytes) (xs:List Bytes):Bytes:=lg (iD 76 (st::l::xs))
def mF (x:Bool×Bytes):Bytes:=(if x.1 then 45 else 43)::x.2
def Cu (st l:Bytes) (xs:List (Bool×Bytes)):Bytes:=lg (iD 73 (st::l::xs.map mF))
def pY (st:Bytes):Bytes:=lg (iD 67 [st,be 8 0])
def gK (st bound:Bytes):Nat:=num ((pY st).take (bound.length+8))%num bound
theorem Bh (l:Bytes):(kX l).length=32:=iK _
theorem ja (st l d:Bytes):(fw st l d).length=32:=iK _
theorem eX (st l:Bytes) (xs:List Bytes):(gb st l xs).length=32:=iK _
theorem GU (st l:Bytes) (xs:List (Bool×Bytes)):(Cu st l xs).length=32:=iK _
theorem zf (st:Bytes):(pY st).length=32:=iK _
def de (parts:List Bytes):Bytes:=parts.flatMap fun s=>be 8 s.length++s
theorem mS (l:List Bytes) (s:Bytes):de (l++[s])=de l++(be 8 s.length++s):=by simp[de]
theorem oz (l:List Bytes) (h: ∀s∈l,s.length<=n):(de l).length<=l.length*(8+n):=by
 induction l with
 |nil=>simp[de]
 |cons x l ih=>
  have h1:=ih fun s hs=>h s (iQ _ hs)
  have h2:=h x (by simp)
  have e:(de (x::l)).length=8+x.length+(de l).length:=by simp[de,cH];omega
  rw[e,List.length_cons,kf];omega
theorem DA (N k:Nat) (h:k<8):(be 8 N).take (k+1)=(be 8 N).take k++[UInt8.ofNat (N/256^(7-k))]:=by
 match k,h with
 |0,_=>rfl
 |1,_=>rfl
 |2,_=>rfl
 |3,_=>rfl
 |4,_=>rfl
 |5,_=>rfl
 |6,_=>rfl
 |7,_=>rfl
theorem Li (k n:Nat):be k n=be k (n%256^k):=by
 have h1:num (be k n)=num (be k (n%256^k)):=by rw[yr,yr,ew]
 have h2:=Bt (be k n);have h3:=Bt (be k (n%256^k));rw[cH]at h2 h3;rw[<-h2,h1,h3]
theorem xy (k m n:Nat):be (k+m) n=be k (n/256^m)++be m n:=by
 induction k with
 |zero=>simp[be]
 |succ k ih=>
  rw[show k+1+m=(k+m)+1 by omega]
  simp only[be,ih,List.cons_append];rw[eL,<-cY,gn m k]
theorem Ts {j c:Nat} (hj:j<n) (hc:Q/256^j%256+c<256):(be n Q).set (n-1-j) (UInt8.ofNat (Q/256^j%256+c))=be n (Q+c*256^j):=by
 obtain⟨k,rfl⟩: ∃k,n=k+(j+1):=⟨n-j-1,by omega⟩
 have hp:0<256^j:=iO j;have h1:(Q+c*256^j)/256^j=Q/256^j+c:=Nat.add_mul_div_right _ _ hp;have h2:(Q+c*256^j)/256^(j+1)=Q/256^(j+1):=by
  rw[Nat.pow_succ,<-eL,<-eL,h1];omega
 have h3:be j (Q+c*256^j)=be j Q:=by rw[Li,Nat.add_mul_mod_self_right,<-Li]
 rw[xy k (j+1),xy k (j+1),h2,show k+(j+1)-1-j=k by omega]
 have hl:(be k (Q/256^(j+1))).length=k:=cH _ _;have:=Ix (be k (Q/256^(j+1))) (be j Q) (UInt8.ofNat (Q/256^j)) (UInt8.ofNat (Q/256^j%256+c));rw[hl]at this;simp only[be,h1,h3];rw[this];congr 2;exact ofNat_mod (by omega)
theorem D9 (A i:Nat):A/2^i=2*(A/2^(i+1))+A/2^i%2:=by
 rw[Nat.pow_succ,<-eL];omega
theorem LL (hB:0<B) (ht:t<2):(2*z+t)/B=2*(z/B)+(if B<=2*(z%B)+t then 1 else 0)/\(2*z+t)%B=(if B<=2*(z%B)+t then 2*(z%B)+t-B else 2*(z%B)+t):=by
 have h1:=ik z B;have h2:=aP z hB;generalize z/B=q at*;generalize z%B=r at*;have e:2*z+t=B*(2*q)+(2*r+t):=by
  have:B*(2*q)=2*(B*q):=by rw[CD]
  omega
 split
 ·have e2:2*z+t=(2*r+t-B)+B*(2*q+1):=by rw[jz,dK];omega
  constructor
  ·rw[e2,nq _ _ hB,ir (by omega)];omega
  ·rw[e2,wO,bw (by omega)]
 ·constructor
  ·rw[e,gn,nq _ _ hB,ir (by omega)];omega
  ·rw[e,gn,wO,bw (by omega)]
theorem Lk:Q*2^(i+1)/256^(i/8)%256+2^(i%8)<256:=by
 have h8:i%8<8:=aP _ (by decide)
 have e1:256^(i/8)=2^(8*(i/8)):=by rw[show 256=2^8 from rfl,<-jA]
 have e2:Q*2^(i+1)/256^(i/8)=Q*2^(i%8+1):=by
  rw[e1,show i+1=(i%8+1)+8*(i/8) by omega,cY 2 (i%8+1),<-cA,Dc _ (gT (by decide))]
 rw[e2];generalize i%8=e at h8;have:e=0\/e=1\/e=2\/e=3\/e=4\/e=5\/e=6\/e=7:=by omega
 rcases this with rfl|rfl|rfl|rfl|rfl|rfl|rfl|rfl<;>simp only[Nat.reduceAdd,Nat.reducePow]<;>omega
theorem Lj:2^(i%8)*256^(i/8)=2^i:=by
 rw[show 256=2^8 from rfl,<-jA,<-cY];congr 1;omega
