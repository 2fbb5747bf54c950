/- Part of the proof. -/
import Derived.Test.YtipbhapfacgabaaGreatDoorUH18
import Derived.Lib.TrailingZeros
set_option linter.all false
set_option maxHeartbeats 4000000
set_option maxRecDepth 100000
namespace Go.Dom
variable {p:Nat}
theorem Cu (a p:Nat):a%(p*256)=a%p+p*(a/p%256):=px
theorem AJ (x p:Nat):x%(p*256)/p=x/p%256:=qD x p 256
theorem ofNat_mod {x y:Nat} (h:x%256=y%256):UInt8.ofNat x=UInt8.ofNat y:=by
 apply jN.1;simpa using h
def carry (a b p:Nat):Nat:=(a%p+b%p)/p
theorem Ed (a b:Nat) (hp:0<p):carry a b p<=1:=by
 unfold carry;have h1:=aL a hp;have h2:=aL b hp;have:(a%p+b%p)/p<2:=(iL hp).2 (by omega)
 omega
theorem AF (a b:Nat) (hp:0<p):carry a b p+(a/p%256+b/p%256)=(a%(p*256)+b%(p*256))/p:=by
 unfold carry;rw[Cu,Cu,show a%p+p*(a/p%256)+(b%p+p*(b/p%256))=(a%p+b%p)+p*(a/p%256+b/p%256) by rw[lA];omega,ny _ _ hp]
theorem xT (a b:Nat) (hp:0<p):UInt8.ofNat (carry a b p+(a/p%256+b/p%256))=UInt8.ofNat ((a+b)/p):=by
 rw[AF a b hp];apply ofNat_mod;rw[<-AJ,<-AJ,<-lg]
theorem xU (a b:Nat) (hp:0<p):(carry a b p+(a/p%256+b/p%256))/256=carry a b (p*256):=by
 rw[AF a b hp,fj];rfl
def borrow (a b p:Nat):Nat:=if a%p<b%p then 1 else 0
theorem AE (a b p:Nat):borrow a b p<=1:=by unfold borrow;split<;>omega
theorem vf (a b:Nat) (hp:0<p):borrow a b (p*256)=if((a/p%256:Nat):Int)-(b/p%256:Nat)-(borrow a b p:Nat)<0 then 1 else 0:=by
 unfold borrow;rw[Cu,Cu];have h1:=aL a hp;have h2:=aL b hp;generalize a/p%256=x;generalize b/p%256=y;generalize a%p=r at*;generalize b%p=q at*;have key:(r+p*x<q+p*y)↔(x<y\/(x=y/\r<q)):=by
  rcases DH x y with h|h|h
  ·have:=lu p (show x+1<=y from h)
   rw[lA]at this;simp only[h,true_or,iff_true];omega
  ·subst h;simp
  ·have:=lu p (show y+1<=x from h)
   rw[lA]at this;constructor
   ·intro;omega
   ·rintro(_|⟨_,_⟩)<;>omega
 by_cases hk:r+p*x<q+p*y
 ·rw[ah hk,ah];rcases key.1 hk with h|⟨h,h'⟩
  ·split<;>omega
  ·rw[ah h'];omega
 ·rw[af hk,af];have:=fun h=>hk (key.2 h)
  split<;>omega
theorem u9 (a b:Nat) (hp:0<p) (h:b<=a) (d:Int) (hd:d=((a/p%256:Nat):Int)-(b/p%256:Nat)-(borrow a b p:Nat)):d%256=(((a-b)/p%256:Nat):Int):=by
 have h1:=aL a hp;have h2:=aL b hp;have e1:=iY a p;have e2:=iY b p;have hle:b/p+borrow a b p<=a/p:=by
  have hdv:=Nat.div_le_div_right (c:=p) h;unfold borrow;split
  ·rename_i hlt;rcases ij (b/p) (a/p)with g|g
   ·omega
   ·have:b/p=a/p:=by omega
    rw[this]at e2;omega
  ·omega
 have key:(a-b)/p=a/p-b/p-borrow a b p:=by
  have e3:a-b=(a%p+borrow a b p*p-b%p)+p*(a/p-b/p-borrow a b p):=by
   rw[Nat.mul_sub,Nat.mul_sub,bw (borrow a b p) p];have g1:p*(b/p)+p*borrow a b p<=p*(a/p):=by rw[<-lA];exact lu _ hle
   have g2:b%p<=a%p+p*borrow a b p:=by unfold borrow;split<;>simp<;>omega
   omega
  have hlt:a%p+borrow a b p*p-b%p<p:=by unfold borrow;split<;>simp<;>omega
  rw[e3,ny _ _ hp,iO hlt,fG]
 rw[key,hd];omega
end Go.Dom
namespace Go.Proofs.Tryz
open Go Go.Dom
theorem pK (n:Nat) (hn:n<18446744073709551616):aF 85 [.i .u64 n] (.s (aZ n)):=by
 refine eW call85 func85 ?_;simp only[go_sem,seval];refine aq (α:=Nat) (fun i=>8-i) (fun i=>⟨[(0, .v (.i .u64 n)),(3, .p 1001 0 0),(5, .v (.i .i64 i))],[(1001,⟨0,aH (List.replicate (8-i) 0++be i n),false,some 212⟩)],1003⟩) (fun i=>i<=8) 0 (fun _=>aB _) (aT _) ?_ ?_
 ·(refine AS.Le.of (by first|decide|omega) ?_ ?_<;>simp[dG,dF,aO,hget,AV.bd,AV.bd.bdL,u8,ar,au,az]);rfl
 ·intro i hi R hR;have hl:(List.replicate (8-i) (0:UInt8)++be i n).length=8:=by simp[cA];omega
  by_cases hlt:i<8
  ·refine eJ @hl ?_;refine hR (i+1) oO oO _ ?_;have e1:(8*(i:Int)).toNat=8*i:=oO;have e2:((7:Int)-i).toNat=8-1-i:=oO;have e3:IntKind.u8.wrap ((n/2^(8*i):Nat):Int)=((UInt8.ofNat (n/256^i)).toNat:Int):=by
    rw[kK,gX]
   rw[e1,e2,ah oO,sj oO e3,iE hlt]
   (refine AS.Le.of (by first|decide|omega) ?_ ?_<;>simp[dG,dF,aO,hget,AV.bd,AV.bd.bdL,u8,ar,au,az]);rfl
  ·obtain rfl:i=8:=oO;have:=kq (be 8 n);have hl:(be 8 n).length=8:=cA 8 n;repeat' first|simp only[go_sem,seval,hl]|(refine iD this rfl rfl hl.symm ?_)|refine oE ?_|apply xX<;>intro hc
   rw[jK oO]
def dP:Nat:=256^128
theorem ql {n:Nat}:(aZ n).length<=128↔n<dP:=mN
def l8 (a b:Bytes):Bytes×Int:=if aa a&&aa b then(if num a+num b<dP then(aZ (num a+num b),0)else([],5))else([],3)
theorem nA (n:Nat):(List.replicate n [AV.v (PV.i IntKind.u8 0)]).flatten=aH (List.replicate n 0):=by
 induction n with
 |zero=>rfl
 |succ n ih=>simp[List.replicate_succ,aH,u8]at ih⊢
theorem oF (n i x:Nat) (h:i<=n):(List.replicate (n-i) (0:UInt8)++be i x).length=n:=by simp[cA];omega
theorem FX (a b:Bytes):aF 73 [.s a, .s b] (.tup [.s (l8 a b).1,E (l8 a b).2]):=by
 have hmax:(if(b.length:Int)>(a.length:Int)then(b.length:Int)else(a.length:Int))=((max a.length b.length:Nat):Int):=by
  split<;>omega
 by_cases hv:aa a=true/\aa b=true
 case neg=>
  refine eW call73 func73 ?_;repeat' first|simp only[go_sem,seval]|refine cP (aD _) ?_|refine oE ?_|apply xX<;>intro hc
  all_goals simp_all[l8]
 obtain⟨hva,hvb⟩:=hv;have la:=eu hva;have lb:=eu hvb;obtain⟨n,hn⟩: ∃n,n=max a.length b.length+1:=⟨_,rfl⟩;have hn2:((max a.length b.length:Nat):Int)+1=(n:Int):=oO;refine eW call73 func73 ?_;repeat' first|simp only[go_sem,seval,hmax,hn2,nA]|refine cP (aD _) ?_|refine oE ?_|apply xX<;>intro hc
 refine aq (α:=Nat) (fun i=>n-i) (fun i=>⟨[(0, .v (.s a)),(1, .v (.s b)),(6, .v (.i .i64 n)),(7, .rs 1018 0 0 n 1),(8, .v (.i .i64 (carry (num a) (num b) (256^i)))),(26, .v (.i .i64 n)),(27, .v (.i .i64 i))],[(1018,⟨0,aH (List.replicate (n-i) 0++be i (num a+num b)),false,none⟩)],1023⟩) (fun i=>i<=n) 0 (fun _=>aB _) (aT _) ?_ ?_
 ·(refine AS.Le.of (by first|decide|omega) ?_ ?_<;>simp[dG,dF,aO,hget,AV.bd,AV.bd.bdL,u8,ar,au,az])
  ·simp[carry,lK]
  ·simp[be]
 ·intro i hi R hR;have hl:=oF n i (num a+num b) hi;have hp:=jn i;have hc1:=Ed (num a) (num b) hp
  by_cases hlt:i<n
  ·repeat' first|simp only[go_sem,seval,hl]|refine cP (kW a i oO) ?_|refine cP (kW b i oO) ?_|refine oE ?_|apply xX<;>intro hc
   refine hR (i+1) oO oO _ ?_;have e2:((n:Int)-1-i).toNat=n-1-i:=oO;have e0:((carry (num a) (num b) (256^i):Nat):Int)+(((num a/256^i%256:Nat):Int)+((num b/256^i%256:Nat):Int))=((carry (num a) (num b) (256^i)+(num a/256^i%256+num b/256^i%256):Nat):Int):=oO;rw[e0,e2,sj oO ((kK _).trans (by rw[xT _ _ hp])),iE hlt,show(256:Int)=((256:Nat):Int)from rfl,B6,xU _ _ hp,<-Nat.pow_succ]
   (refine AS.Le.of (by first|decide|omega) ?_ ?_<;>simp[dG,dF,aO,hget,AV.bd,AV.bd.bdL,u8,ar,au,az]);rfl
  ·obtain rfl:i=n:=oO;have:=kq (be i (num a+num b));have hl:(be i (num a+num b)).length=i:=cA _ _;repeat' first|simp only[go_sem,seval,hl,iX,List.replicate_zero]|(refine iD this rfl rfl hl.symm ?_)|refine cP (ru _) ?_|refine oE ?_|apply xX<;>intro hc
   have h1:num a+num b<256^i:=by
    have g1:=cu a;have g2:=cu b;have p1:256^a.length<=256^(i-1):=cW oC oO;have p2:256^b.length<=256^(i-1):=cW oC oO;have p3:256^i=256^(i-1)*256:=by rw[<-Nat.pow_succ];congr 1;omega
    omega
   rw[jK h1];simp only[ql,l8,hva,hvb,dW,aA]
   split<;>simp
theorem QV (a b:Bytes) (ha:a.length<=128) (hb:b.length<=128) (h:num b<=num a):aF 226 [.s a, .s b] (.s (aZ (num a-num b))):=by
 obtain⟨n,hn⟩: ∃n,n=a.length:=⟨_,rfl⟩;refine eW call226 func226 ?_;simp only[go_sem,seval,<-hn];repeat' first|simp only[go_sem,seval,<-hn,nA]|refine oE ?_|apply xX<;>intro hc
 refine aq (α:=Nat) (fun i=>n-i) (fun i=>⟨[(0, .v (.s a)),(1, .v (.s b)),(5, .v (.i .i64 n)),(6, .rs 1005 0 0 n 1),(7, .v (.i .i64 (borrow (num a) (num b) (256^i)))),(14, .v (.i .i64 n)),(15, .v (.i .i64 i))],[(1005,⟨0,aH (List.replicate (n-i) 0++be i (num a-num b)),false,none⟩)],1010⟩) (fun i=>i<=n) 0 (fun _=>aB _) (aT _) ?_ ?_
 ·(refine AS.Le.of (by first|decide|omega) ?_ ?_<;>simp[dG,dF,aO,hget,AV.bd,AV.bd.bdL,u8,ar,au,az])
  ·simp[borrow,lK]
  ·simp[be]
 ·intro i hi R hR;have hl:=oF n i (num a-num b) hi;have hp:=jn i;have hc1:=AE (num a) (num b) (256^i);have hb1:=vf (num a) (num b) hp;have hb2:=u9 (num a) (num b) hp h;have e2:((n:Int)-1-i).toNat=n-1-i:=oO
  by_cases hlt:i<n
  ·repeat' first|simp only[go_sem,seval,hl]|refine cP (kW a i oO) ?_|refine cP (kW b i oO) ?_|refine oE ?_|apply xX<;>intro hc
   ·refine hR (i+1) oO oO _ ?_;rw[e2,sj (c:=UInt8.ofNat ((num a-num b)/256^i)) oO (by rw[Wi,iK,<-hb2 _ rfl];omega),iE hlt]
    (refine AS.Le.of (by first|decide|omega) ?_ ?_<;>simp[dG,dF,aO,hget,AV.bd,AV.bd.bdL,u8,ar,au,az])
    ·rw[Nat.pow_succ,hb1,ah hc];rfl
    ·rfl
   ·refine hR (i+1) oO oO _ ?_;rw[e2,sj (c:=UInt8.ofNat ((num a-num b)/256^i)) oO (by rw[Wi,iK,<-hb2 _ rfl]),iE hlt]
    (refine AS.Le.of (by first|decide|omega) ?_ ?_<;>simp[dG,dF,aO,hget,AV.bd,AV.bd.bdL,u8,ar,au,az])
    ·rw[Nat.pow_succ,hb1,af hc];rfl
    ·rfl
  ·obtain rfl:i=n:=oO;have:=kq (be i (num a-num b));have hl:(be i (num a-num b)).length=i:=cA _ _;repeat' first|simp only[go_sem,seval,hl,iX,List.replicate_zero]|(refine iD this rfl rfl hl.symm ?_)|refine oE ?_|apply xX<;>intro hc
   have h1:num a-num b<256^i:=by have:=cu a;rw[hn];omega
   rw[jK h1]
def CO (a b:Bytes):Bytes×Int:=if aa a&&aa b then(if num b<=num a then(aZ (num a-num b),0)else([],2))else([],3)
theorem ji {a b:Nat}:bK a b<0↔a<b:=by unfold bK;split<;>(try split)<;>omega
theorem BJ (a b:Bytes):aF 143 [.s a, .s b] (.tup [.s (CO a b).1,E (CO a b).2]):=by
 by_cases hv:aa a=true/\aa b=true
 case neg=>
  refine eW call143 func143 ?_;repeat' first|simp only[go_sem,seval]|refine cP (aD _) ?_|refine oE ?_|apply xX<;>intro hc
  all_goals simp_all[CO]
 obtain⟨hva,hvb⟩:=hv;refine eW call143 func143 ?_;repeat' first|simp only[go_sem,seval]|refine cP (aD _) ?_|refine cP (oB (bY hva) (bY hvb)) ?_|(refine iw (QV _ _ (eu hva) (eu hvb) (by rw[ji]at hc;omega)) rfl ?_)|refine oE ?_|apply xX<;>intro hc
 ·rw[ji]at hc;simp[CO,hva,hvb,show¬num b<=num a by omega]
 ·rw[ji]at hc;simp[CO,hva,hvb,show num b<=num a by omega]
end Go.Proofs.Tryz
namespace Go.Dom
variable {B q r t u y y0 y1:Nat}
structure HA (B y y1 y0 u t q r:Nat):Prop where
 s:q*y1+r=u
 ge:(u*B+t)/y<=q
theorem HA.step (hy:y=y1*B+y0) (hy0:0<y) (h:HA B y y1 y0 u t q r) (hu:u<y) (ht:t<B) (hc:B<=q\/B*r+t<q*y0):0<q/\HA B y y1 y0 u t (q-1) (r+y1):=by
 have hlt:(u*B+t)/y<q:=by
  rcases hc with hc|hc
  ·refine ba ((iL hy0).2 ?_) hc;have:(u+1)*B<=y*B:=cK _ hu;rw[cO]at this;rw[bw B y];omega
  ·refine(iL hy0).2 ?_;have e:q*y=q*y1*B+q*y0:=by rw[hy,lA,cr]
   have e2:u*B=q*y1*B+B*r:=by rw[<-h.s,cO,bw r B]
   omega
 have hq:0<q:=dD (aT _) hlt;refine⟨hq,⟨?_,Nat.le_sub_one_of_lt hlt⟩⟩;have:=h.s;obtain⟨k,rfl⟩: ∃k,q=k+1:=⟨q-1,by omega⟩
 rw[cO]at this;simp only[o6];omega
theorem HA.done (hy:y=y1*B+y0) (hy0:0<y) (h:HA B y y1 y0 u t q r) (hc:q*y0<=B*r+t):q=(u*B+t)/y:=by
 refine Dl ((tC hy0).2 ?_) h.ge;have e:q*y=q*y1*B+q*y0:=by rw[hy,lA,cr]
 have e2:u*B=q*y1*B+B*r:=by rw[<-h.s,cO,bw r B]
 omega
theorem HA.big (hy:y=y1*B+y0) (hy0:0<y) (hy0B:y0<B) (h:HA B y y1 y0 u t q r) (hu:u<y) (hr:B<=r):q=(u*B+t)/y:=by
 have hq:q<B:=by
  rcases ij q B with g|g
  ·exact g
  ·exfalso
   have:=cK y1 g;have:=h.s;rw[bw B y1]at*;omega
 refine h.done hy hy0 ?_;have h1:q*y0<=B*y0:=cK _ (by omega)
 have h2:B*y0<=B*r:=lu _ (by omega)
 omega
theorem HA.start (hy:y=y1*B+y0) (hy1:0<y1) (hu:u<y) (ht:t<B):HA B y y1 y0 u t (u/y1) (u%y1):=by
 refine⟨by have:=iY u y1;rw[bw];omega,?_⟩
 rcases kQ B with hB|hB
 ·subst hB;omega
 ·have:(u*B+t)/y<=(u*B+t)/(y1*B):=Nat.div_le_div_left (by omega) (o7 hy1 hB)
  refine fV this ?_;rw[bw y1 B,<-fj,bw u B,wX hB,iO ht];exact aB _
theorem HA.lt {y1 y0:Nat} (hy0:0<y) (hu:u<y) (ht:t<B) (h:q=(u*B+t)/y):q<B:=by
 rw[h];refine(iL hy0).2 ?_;have:(u+1)*B<=y*B:=cK _ hu;rw[cO]at this;rw[bw B y];omega
theorem Hp {B y N u t1 t0 q1 q0 r1:Nat} (hB:0<B) (hy:0<y) (hN:N=u*(B*B)+t1*B+t0) (h1:q1=(u*B+t1)/y) (hr:r1=(u*B+t1)%y) (h0:q0=(r1*B+t0)/y):q1*B+q0=N/y/\(r1*B+t0)%y=N%y:=by
 have e:N=(r1*B+t0)+y*(q1*B):=by
  have:=iY (u*B+t1) y;rw[<-h1,<-hr]at this;have e2:(u*B+t1)*B=y*q1*B+r1*B:=by rw[<-this,cO]
  rw[hN,<-cr,<-cr y];rw[cO]at e2;omega
 rw[e,ny _ _ hy,tK,<-h0];exact⟨by omega,rfl⟩
theorem qT (h0:0<y) (h:y<18446744073709551616):1<=Lib.bitLen y/\2^(Lib.bitLen y-1)<=y/\y<2^Lib.bitLen y:=Lib.bitLenAux_bounds 64 y h (by omega)
structure TG (hi lo y s:Nat):Prop where
 s64:s<64
 yl:9223372036854775808<=y*2^s
 yh:y*2^s<18446744073709551616
 hil:hi*2^s+lo/2^(64-s)<y*2^s
 eq:(hi*18446744073709551616+lo)*2^s=(hi*2^s+lo/2^(64-s))*18446744073709551616+lo*2^s%18446744073709551616
 hs:hi*2^s<18446744073709551616
 ol:lo/2^(64-s)<2^s
theorem scaled {hi lo:Nat} (h:hi<y) (hlo:lo<18446744073709551616) (hy:y<18446744073709551616):TG hi lo y (64-Lib.bitLen y):=by
 obtain⟨b1,b2,b3⟩:=qT (y:=y) (by omega) hy
 have b4:=Lib.bitLen_le y 64 (by decide) hy
 obtain⟨s,hs⟩: ∃s,s=64-Lib.bitLen y:=⟨_,rfl⟩;rw[<-hs];have e1:2^(Lib.bitLen y-1)*2^s=9223372036854775808:=by rw[<-cF,show Lib.bitLen y-1+s=63 by omega]
 have e2:2^Lib.bitLen y*2^s=18446744073709551616:=by rw[<-cF,show Lib.bitLen y+s=64 by omega]
 have e3:2^(64-s)*2^s=18446744073709551616:=by rw[<-cF,show 64-s+s=64 by omega]
 have hp:=C8 s;have hp':=C8 (64-s);have c1:9223372036854775808<=y*2^s:=by rw[<-e1];exact cK _ b2
 have c2:y*2^s<18446744073709551616:=by rw[<-e2];exact C5 b3 hp
 have c3:lo/2^(64-s)<2^s:=by
  refine(iL hp').2 ?_;rw[bw,e3];exact hlo
 have c4:hi*2^s+2^s<=y*2^s:=by
  have:(hi+1)*2^s<=y*2^s:=cK (2^s) h;rw[cO,jP]at this;exact this
 refine⟨by omega,c1,c2,by omega,?_,by omega,c3⟩
 have d1:=iY lo (2^(64-s));have d2:lo*2^s%18446744073709551616=lo%2^(64-s)*2^s:=by
  rw[<-e3,Dm]
 have d3:lo*2^s=lo/2^(64-s)*18446744073709551616+lo%2^(64-s)*2^s:=by
  rw[<-e3];have:=congrArg (· *2^s) d1;simp only[cO]at this;rw[<-this,bw (2^(64-s)),cr]
 rw[d2,cO,d3,cO];have:hi*18446744073709551616*2^s=hi*2^s*18446744073709551616:=by rw[cr,bw 18446744073709551616,cr]
 omega
theorem jw (hq:q=(u*B+t)/y):(u*B+t)-q*y=(u*B+t)%y:=by
 have:=iY (u*B+t) y;rw[hq,bw _ y];omega
theorem qp {z:Nat} (h1:z<=u*4294967296+t) (h2:u*4294967296+t-z<18446744073709551616):
  ((u*4294967296%18446744073709551616+t)%18446744073709551616+(18446744073709551616-z%18446744073709551616%18446744073709551616))%18446744073709551616=u*4294967296+t-z:=by omega
theorem BW (hq:q=(u*4294967296+t)/y):q*y<=u*4294967296+t:=by rw[hq];exact tV _ _
theorem whole {N Y y s U V q1 q0 R:Nat} (hy:0<y) (hY:Y=y*2^s) (hN:N*2^s=U*18446744073709551616+V) (h1:q1=(U*4294967296+V/4294967296)/Y) (hR:R=(U*4294967296+V/4294967296)%Y) (h0:q0=(R*4294967296+V%4294967296)/Y):
  q1*4294967296+q0=N/y/\(R*4294967296+V%4294967296)%Y/2^s=N%y:=by
 have hp:=C8 s;have hYp:0<Y:=by rw[hY];exact o7 hy hp
 obtain⟨a,b⟩:=Hp (B:=4294967296) (y:=Y) (N:=N*2^s) (u:=U) (t1:=V/4294967296) (t0:=V%4294967296) (by decide) hYp (by rw[hN];omega) h1 hR h0
 rw[a,b,hY];exact⟨Nat.mul_div_mul_right _ _ hp,by rw[Dm,Dp _ hp]⟩
end Go.Dom
namespace Go.Proofs.Tryz
open Go Go.Dom
variable {q r t z:Nat}
abbrev U (n:Nat):AV:= .v (.i .u64 n)
structure O7 (hi lo y s Y V u:Nat):Prop where
 hy:0<y
 s64:s<64
 yl:9223372036854775808<=Y
 yh:Y<(2^64)
 hY:Y=y*2^s
 hV:V=lo*2^s%(2^64)
 hVl:V<(2^64)
 hil:u<Y
 eqn:(hi*(2^64)+lo)*2^s=u*(2^64)+V
 hyy:Y=Y/4294967296*4294967296+Y%4294967296
theorem O7.sub {hi lo y s Y V u:Nat} (D:O7 hi lo y s Y V u) (hz:z<(2^64)):(z+((2^64)-z/(Y/4294967296)*(Y/4294967296)%(2^64)))%(2^64)=z%(Y/4294967296):=by
 have g1:=iY z (Y/4294967296);have g2:=tV z (Y/4294967296);rw[bw]at g1;generalize z/(Y/4294967296)*(Y/4294967296)=k at g1 g2⊢;generalize z%(Y/4294967296)=l at g1⊢;omega
theorem O7.quo {hi lo y s Y V u:Nat} (D:O7 hi lo y s Y V u) (hz:z<(2^64)):z/(Y/4294967296)%(2^64)=z/(Y/4294967296):=bM (dD (fF _ _) hz)
structure xB (Y u t:Nat) (x:Nat×Nat):Prop where
 d:HA 4294967296 Y (Y/4294967296) (Y%4294967296) u t x.1 x.2
 r:x.2<4294967296
 q:x.1<(2^64)
theorem xB.start {hi lo y s Y V u:Nat} (D:O7 hi lo y s Y V u) (hz:z<Y) (ht:t<4294967296):xB Y z t (z/(Y/4294967296),z%(Y/4294967296)):=by
 have:=D.yl;have:=D.yh;refine⟨HA.start D.hyy oO hz ht,?_,?_⟩
 ·have:=aL z (y:=Y/4294967296) oO;show z%(Y/4294967296)< _;omega
 ·show z/(Y/4294967296)< _;exact dD (fF _ _) oO
theorem xB.fin {hi lo y s Y V u:Nat} (D:O7 hi lo y s Y V u) (hz:z<Y) (ht:t<4294967296) (h:xB Y z t (q,r)) (hq:q*(Y%4294967296)<=4294967296*r+t):q=(z*4294967296+t)/Y:=h.d.done D.hyy (by have:=D.yl;omega) hq
theorem xB.go {hi lo y s Y V u:Nat} (D:O7 hi lo y s Y V u) (hz:z<Y) (ht:t<4294967296) (h:xB Y z t (q,r)) (hq:4294967296<=q\/4294967296*r+t<q*(Y%4294967296)):
  (q+18446744073709551615)%(2^64)=q-1/\(r+Y/4294967296)%(2^64)=r+Y/4294967296/\q-1<q/\(4294967296<=r+Y/4294967296->q-1=(z*4294967296+t)/Y)/\(r+Y/4294967296<4294967296->xB Y z t (q-1,r+Y/4294967296)):=by
 have h1:=D.yl;have h2:=D.yh;have h3:=h.r;have h4:=h.q;simp only at h3 h4;obtain⟨p1,p2⟩:=h.d.step D.hyy oO hz ht hq;simp only at p1 p2;exact⟨oO,oO,oO,fun g=>p2.big D.hyy oO oO hz g,fun g=>⟨p2,g,by show q-1< _;omega⟩⟩
theorem O7.out {hi lo y s Y V u q1 z q0:Nat} (D:O7 hi lo y s Y V u) (hlo:lo<(2^64)) (h:hi<y) (h1:q1=(u*4294967296+V/4294967296)/Y) (hz:z=(u*4294967296+V/4294967296)%Y) (h0:q0=(z*4294967296+V%4294967296)/Y):
  (q1*4294967296%(2^64)+q0)%(2^64)=(hi*(2^64)+lo)/y/\((z*4294967296%(2^64)+V%4294967296)%(2^64)+((2^64)-q0*Y%(2^64)))%(2^64)/2^s=(hi*(2^64)+lo)%y:=by
 have hy:=D.hy;have yl:=D.yl;have yh:=D.yh;obtain⟨a,b⟩:=whole (N:=hi*(2^64)+lo) hy D.hY D.eqn h1 hz h0;have hzl:z<Y:=by rw[hz];exact aL _ oO
 have hq0:q0<4294967296:=HA.lt (B:=4294967296) (y1:=Y/4294967296) (y0:=Y%4294967296) oO hzl (aL _ oC) h0;have hq1:q1<4294967296:=HA.lt (B:=4294967296) (y1:=Y/4294967296) (y0:=Y%4294967296) oO D.hil (by have:=D.hVl;omega) h1
 have hw:=qp (BW h0) (by rw[jw h0];exact ba (aL _ oO) oO)
 rw[jw h0,dN]at hw;rw[hw,b,<-a];exact⟨oO,rfl⟩
theorem DU (hi lo y:Nat) (h:hi<y) (hlo:lo<(2^64)) (hy:y<(2^64)):aF 314 [.i .u64 hi, .i .u64 lo, .i .u64 y] (.tup [.i .u64 ((hi*(2^64)+lo)/y:Nat), .i .u64 ((hi*(2^64)+lo)%y:Nat)]):=by
 by_cases h0:hi=0
 ·subst h0;have hq:=bM (dD (fF lo y) hlo);refine eW call314 func314 ?_;repeat' first|simp only[go_sem,seval,uw,hq,tO]|refine oE ?_|apply xX<;>intro hc
 have sc:=scaled h hlo hy;obtain⟨s,hs⟩: ∃s,s=64-Lib.bitLen y:=⟨_,rfl⟩;rw[<-hs]at sc;have hlz:=rY y hy;rw[<-hs]at hlz;obtain⟨s64,yl,yh,hil,eqn,hs1,ol⟩:=sc;obtain⟨Y,hY⟩: ∃Y,Y=y*2^s:=⟨_,rfl⟩;obtain⟨V,hV⟩: ∃V,V=lo*2^s%(2^64):=⟨_,rfl⟩;obtain⟨u,hu⟩: ∃u,u=hi*2^s+lo/2^(64-s):=⟨_,rfl⟩;rw[<-hY]at yl yh hil;rw[<-hu]at hil eqn;rw[<-hV]at eqn;have hVl:V<(2^64):=by rw[hV];exact aL _ oC
 have D:O7 hi lo y s Y V u:=⟨oO,s64,yl,yh,hY,hV,hVl,hil,eqn,oO⟩;have e1: ∀ _:True,s%(2^64)=s:=fun _=>oO
 have e2: ∀ _:True,Y%(2^64)=Y:=fun _=>oO
 have e3: ∀ _:True,hi*2^s%(2^64)=hi*2^s:=fun _=>bM hs1
 have e4: ∀ _:True,(64+((2^64)-s))%(2^64)=64-s:=fun _=>oO
 have e5: ∀ _:True,Gu .u64 ((hi*2^s:Nat):Int) ((lo/2^(64-s):Nat):Int)=(u:Int):=fun _=>by
  rw[UI .u64 rfl hs1 (dD (fF _ _) hlo),EV ol,hu]
 have hm1: ∀ _:True,(if s<=64 then s else 64)=s:=fun _=>by split<;>omega
 have hm2: ∀ _:True,(if 64-s<=64 then 64-s else 64)=64-s:=fun _=>by split<;>omega
 have hY': ∀ _:True,y*2^s=Y:=fun _=>hY.symm
 have hV': ∀ _:True,lo*2^s%(2^64)=V:=fun _=>hV.symm
 have hr0: ∀ _:True,(u+((2^64)-u/(Y/4294967296)*(Y/4294967296)%(2^64)))%(2^64)=u%(Y/4294967296):=fun _=>D.sub oO
 have hq0: ∀ _:True,u/(Y/4294967296)%(2^64)=u/(Y/4294967296):=fun _=>D.quo oO
 have hy1:Y/4294967296≠0:=oO;have h':=h;clear hs hY hV hu eqn hs1 ol hil yl yh hVl s64;refine eW call314 func314 ?_;simp only[go_sem,seval,uw,yN,qW,vE,Fx,BL,u6,Am,vO,vM,pN];repeat' first|simp only[go_sem,seval,uw,yN,qW,vE,Fx,BL,u6,Am,vO,vM,pN,e1 oT,hm1 oT,hm2 oT,hY' oT,e2 oT,e3 oT,e4 oT,e5 oT,hV' oT,hq0 oT,dN,hr0 oT]|refine cP hlz ?_|refine oE ?_|apply xX<;>intro hc
 clear e1 e2 e3 e4 e5 hm2 hr0 hq0 hlz hY' hV' h0;refine aq (α:=Nat×Nat) (fun x=>x.1) (fun x=>⟨[(2,U Y),(8,U s),(9,U (Y/4294967296)),(10,U (Y%4294967296)),(11,U u),(13,U (V/4294967296)),(14,U (V%4294967296)),(15,U x.1),(16,U x.2)],[],_⟩) (xB Y u (V/4294967296)) (u/(Y/4294967296),u%(Y/4294967296)) (fun _=>aB _) (.start D D.hil (by have:=D.hVl;omega)) ?_ ?_
 ·exact lE
 ·rintro⟨q,r⟩ hd R hR;have f0:=hd.r;simp only at f0;have f1: ∀ _:True,4294967296*r%(2^64)=4294967296*r:=fun _=>oO
  have f2: ∀ _:True,(4294967296*r+V/4294967296)%(2^64)=4294967296*r+V/4294967296:=fun _=>by have:=D.hVl;omega
  have f3:q*(Y%4294967296)<4294967296*4294967296\/4294967296<=q:=by
   by_cases g:4294967296<=q
   ·exact .inr g
   ·exact .inl (gK oO (aL _ oC))
  repeat' first|simp only[go_sem,seval,uw,yN,qW,vE,Fx,BL,u6,Am,vO,vM,pN,f1 oT,f2 oT]|refine oE ?_|apply xX<;>intro hc
  ·obtain⟨g1,g2,g3,g4,g5⟩:=hd.go D D.hil (by have:=D.hVl;omega) oO
   have hq1:(q-1)=(u*4294967296+V/4294967296)/Y:=g4 oO;obtain⟨q1,e1⟩: ∃q1,q1=(q-1):=⟨_,rfl⟩;rw[<-e1]at hq1;obtain⟨z,hz⟩: ∃z,z=(u*4294967296+V/4294967296)%Y:=⟨_,rfl⟩;have hyl:=D.yl;have hyh:=D.yh;have hzl:z<Y:=by rw[hz];exact aL _ oO
   have hw1:=qp (BW hq1) (by rw[jw hq1,<-hz];omega)
   rw[jw hq1,<-hz,dN]at hw1;have hq0:=D.quo (z:=z) oO;have hr0:=D.sub (z:=z) oO;simp only[g1,<-e1,dN,hw1,hq0,hr0];clear hw1 hq0 hr0 hyl hyh e1 f0 f3;refine aq (α:=Nat×Nat) (fun x=>x.1) (fun x=>⟨[(2,U Y),(8,U s),(9,U (Y/4294967296)),(10,U (Y%4294967296)),(14,U (V%4294967296)),(15,U q1),(17,U z),(18,U x.1),(16,U x.2)],[],_⟩) (xB Y z (V%4294967296)) (z/(Y/4294967296),z%(Y/4294967296)) (fun _=>aB _) (.start D hzl (aL _ oC)) ?_ ?_
   ·exact lE
   ·rintro⟨q,r⟩ hd R hR;have f0:=hd.r;simp only at f0;have f1: ∀ _:True,4294967296*r%(2^64)=4294967296*r:=fun _=>oO
    have f2: ∀ _:True,(4294967296*r+V%4294967296)%(2^64)=4294967296*r+V%4294967296:=fun _=>by have:=D.hVl;omega
    have f3:q*(Y%4294967296)<4294967296*4294967296\/4294967296<=q:=by
     by_cases g:4294967296<=q
     ·exact .inr g
     ·exact .inl (gK oO (aL _ oC))
    repeat' first|simp only[go_sem,seval,uw,yN,qW,vE,Fx,BL,u6,Am,vO,vM,pN,f1 oT,f2 oT]|refine oE ?_|apply xX<;>intro hc
    ·obtain⟨g1,g2,g3,g4,g5⟩:=hd.go D hzl (aL _ oC) oO;have:=D.out hlo h' hq1 hz (g4 oO);simp only[g1,hm1 oT,dN,this.1,this.2]
    ·obtain⟨g1,g2,g3,g4,g5⟩:=hd.go D hzl (aL _ oC) oO;refine hR (q-1,r+Y/4294967296) (g5 oO) g3 _ ?_;rw[g1,g2];exact lE
    ·obtain⟨g1,g2,g3,g4,g5⟩:=hd.go D hzl (aL _ oC) oO;have:=D.out hlo h' hq1 hz (g4 oO);simp only[g1,hm1 oT,dN,this.1,this.2]
    ·obtain⟨g1,g2,g3,g4,g5⟩:=hd.go D hzl (aL _ oC) oO;refine hR (q-1,r+Y/4294967296) (g5 oO) g3 _ ?_;rw[g1,g2];exact lE
    ·have:=D.out hlo h' hq1 hz (hd.fin D hzl (aL _ oC) oO);simp only[hm1 oT,dN,this.1,this.2]
  ·obtain⟨g1,g2,g3,g4,g5⟩:=hd.go D D.hil (by have:=D.hVl;omega) oO
   refine hR (q-1,r+Y/4294967296) (g5 oO) g3 _ ?_;rw[g1,g2];exact lE
  ·obtain⟨g1,g2,g3,g4,g5⟩:=hd.go D D.hil (by have:=D.hVl;omega) oO
   have hq1:(q-1)=(u*4294967296+V/4294967296)/Y:=g4 oO;obtain⟨q1,e1⟩: ∃q1,q1=(q-1):=⟨_,rfl⟩;rw[<-e1]at hq1;obtain⟨z,hz⟩: ∃z,z=(u*4294967296+V/4294967296)%Y:=⟨_,rfl⟩;have hyl:=D.yl;have hyh:=D.yh;have hzl:z<Y:=by rw[hz];exact aL _ oO
   have hw1:=qp (BW hq1) (by rw[jw hq1,<-hz];omega)
   rw[jw hq1,<-hz,dN]at hw1;have hq0:=D.quo (z:=z) oO;have hr0:=D.sub (z:=z) oO;simp only[g1,<-e1,dN,hw1,hq0,hr0];clear hw1 hq0 hr0 hyl hyh e1 f0 f3;refine aq (α:=Nat×Nat) (fun x=>x.1) (fun x=>⟨[(2,U Y),(8,U s),(9,U (Y/4294967296)),(10,U (Y%4294967296)),(14,U (V%4294967296)),(15,U q1),(17,U z),(18,U x.1),(16,U x.2)],[],_⟩) (xB Y z (V%4294967296)) (z/(Y/4294967296),z%(Y/4294967296)) (fun _=>aB _) (.start D hzl (aL _ oC)) ?_ ?_
   ·exact lE
   ·rintro⟨q,r⟩ hd R hR;have f0:=hd.r;simp only at f0;have f1: ∀ _:True,4294967296*r%(2^64)=4294967296*r:=fun _=>oO
    have f2: ∀ _:True,(4294967296*r+V%4294967296)%(2^64)=4294967296*r+V%4294967296:=fun _=>by have:=D.hVl;omega
    have f3:q*(Y%4294967296)<4294967296*4294967296\/4294967296<=q:=by
     by_cases g:4294967296<=q
     ·exact .inr g
     ·exact .inl (gK oO (aL _ oC))
    repeat' first|simp only[go_sem,seval,uw,yN,qW,vE,Fx,BL,u6,Am,vO,vM,pN,f1 oT,f2 oT]|refine oE ?_|apply xX<;>intro hc
    ·obtain⟨g1,g2,g3,g4,g5⟩:=hd.go D hzl (aL _ oC) oO;have:=D.out hlo h' hq1 hz (g4 oO);simp only[g1,hm1 oT,dN,this.1,this.2]
    ·obtain⟨g1,g2,g3,g4,g5⟩:=hd.go D hzl (aL _ oC) oO;refine hR (q-1,r+Y/4294967296) (g5 oO) g3 _ ?_;rw[g1,g2];exact lE
    ·obtain⟨g1,g2,g3,g4,g5⟩:=hd.go D hzl (aL _ oC) oO;have:=D.out hlo h' hq1 hz (g4 oO);simp only[g1,hm1 oT,dN,this.1,this.2]
    ·obtain⟨g1,g2,g3,g4,g5⟩:=hd.go D hzl (aL _ oC) oO;refine hR (q-1,r+Y/4294967296) (g5 oO) g3 _ ?_;rw[g1,g2];exact lE
    ·have:=D.out hlo h' hq1 hz (hd.fin D hzl (aL _ oC) oO);simp only[hm1 oT,dN,this.1,this.2]
  ·obtain⟨g1,g2,g3,g4,g5⟩:=hd.go D D.hil (by have:=D.hVl;omega) oO
   refine hR (q-1,r+Y/4294967296) (g5 oO) g3 _ ?_;rw[g1,g2];exact lE
  ·have hq1:q=(u*4294967296+V/4294967296)/Y:=hd.fin D D.hil (by have:=D.hVl;omega) oO
   obtain⟨q1,e1⟩: ∃q1,q1=q:=⟨_,rfl⟩;rw[<-e1]at hq1;obtain⟨z,hz⟩: ∃z,z=(u*4294967296+V/4294967296)%Y:=⟨_,rfl⟩;have hyl:=D.yl;have hyh:=D.yh;have hzl:z<Y:=by rw[hz];exact aL _ oO
   have hw1:=qp (BW hq1) (by rw[jw hq1,<-hz];omega)
   rw[jw hq1,<-hz,dN]at hw1;have hq0:=D.quo (z:=z) oO;have hr0:=D.sub (z:=z) oO;simp only[true_and,<-e1,dN,hw1,hq0,hr0];clear hw1 hq0 hr0 hyl hyh e1 f0 f3;refine aq (α:=Nat×Nat) (fun x=>x.1) (fun x=>⟨[(2,U Y),(8,U s),(9,U (Y/4294967296)),(10,U (Y%4294967296)),(14,U (V%4294967296)),(15,U q1),(17,U z),(18,U x.1),(16,U x.2)],[],_⟩) (xB Y z (V%4294967296)) (z/(Y/4294967296),z%(Y/4294967296)) (fun _=>aB _) (.start D hzl (aL _ oC)) ?_ ?_
   ·exact lE
   ·rintro⟨q,r⟩ hd R hR;have f0:=hd.r;simp only at f0;have f1: ∀ _:True,4294967296*r%(2^64)=4294967296*r:=fun _=>oO
    have f2: ∀ _:True,(4294967296*r+V%4294967296)%(2^64)=4294967296*r+V%4294967296:=fun _=>by have:=D.hVl;omega
    have f3:q*(Y%4294967296)<4294967296*4294967296\/4294967296<=q:=by
     by_cases g:4294967296<=q
     ·exact .inr g
     ·exact .inl (gK oO (aL _ oC))
    repeat' first|simp only[go_sem,seval,uw,yN,qW,vE,Fx,BL,u6,Am,vO,vM,pN,f1 oT,f2 oT]|refine oE ?_|apply xX<;>intro hc
    ·obtain⟨g1,g2,g3,g4,g5⟩:=hd.go D hzl (aL _ oC) oO;have:=D.out hlo h' hq1 hz (g4 oO);simp only[g1,hm1 oT,dN,this.1,this.2]
    ·obtain⟨g1,g2,g3,g4,g5⟩:=hd.go D hzl (aL _ oC) oO;refine hR (q-1,r+Y/4294967296) (g5 oO) g3 _ ?_;rw[g1,g2];exact lE
    ·obtain⟨g1,g2,g3,g4,g5⟩:=hd.go D hzl (aL _ oC) oO;have:=D.out hlo h' hq1 hz (g4 oO);simp only[g1,hm1 oT,dN,this.1,this.2]
    ·obtain⟨g1,g2,g3,g4,g5⟩:=hd.go D hzl (aL _ oC) oO;refine hR (q-1,r+Y/4294967296) (g5 oO) g3 _ ?_;rw[g1,g2];exact lE
    ·have:=D.out hlo h' hq1 hz (hd.fin D hzl (aL _ oC) oO);simp only[hm1 oT,dN,this.1,this.2]
theorem LI (hi lo y:Nat) (h0:0<y) (hhi:hi<(2^64)) (hlo:lo<(2^64)) (hy:y<(2^64)):aF 243 [.i .u64 hi, .i .u64 lo, .i .u64 y] (.i .u64 ((hi*(2^64)+lo)%y:Nat)):=by
 have h1:hi%y<y:=aL _ h0;have h2:(hi%y*(2^64)+lo)%y=(hi*(2^64)+lo)%y:=by
  rw[lg,cd,dN,<-cd,<-lg]
 refine eW call243 func243 ?_;repeat' first|simp only[go_sem,seval,h2]|refine cP (DU _ _ _ h1 hlo hy) ?_|refine oE ?_|apply xX<;>intro hc
theorem Wc {l:List Nat} {i:Nat} (h:i<l.length):(l.map fun n:Nat=>PV.i .u8 n).getD i .fn0= .i .u8 (l.getD i 0:Nat):=by
 simp[bR,h]
theorem rf (x:Nat) (h0:x≠0) (h:x<(2^64)):aF 302 [.i .u64 x] (E (Lib.ctz 64 x:Nat)):=by
 obtain⟨g1,g2⟩:=Lib.lowest_bit 64 x h0 h;obtain⟨g3,g4⟩:=Lib.deBruijn64_at _ g2;obtain⟨k,hk⟩: ∃k,k=Lib.ctz 64 x:=⟨_,rfl⟩;rw[<-hk]at g1 g2 g3 g4⊢;obtain⟨p,hp⟩: ∃p,p=2^k:=⟨_,rfl⟩;rw[<-hp]at g1 g3 g4;obtain⟨i,hi⟩: ∃i,i=p*285870213051353865%(2^64)/288230376151711744:=⟨_,rfl⟩;rw[<-hi]at g3 g4;have e1: ∀ _:True,IntKind.u64.wrap (0-(x:Int))=(((2^64)-x:Nat):Int):=fun _=>by rw[FO];omega
 have e2: ∀ _:True,my .u64 (x:Int) (((2^64)-x:Nat):Int)=((p:Nat):Int):=fun _=>by
  rw[Ni .u64 rfl h (by show(2^64)-x<(2^64);omega)];exact congrArg _ g1
 have e3: ∀ _:True,p*285870213051353865%(2^64)/288230376151711744=i:=fun _=>hi.symm
 have e4:=Wc (l:=Lib.deBruijn64tab) (i:=i) (by exact g3)
 rw[g4]at e4;have e5: ∀ _:True,([(.i .u8 0),(.i .u8 1),(.i .u8 56),(.i .u8 2),(.i .u8 57),(.i .u8 49),(.i .u8 28),(.i .u8 3),(.i .u8 61),(.i .u8 58),(.i .u8 42),(.i .u8 50),(.i .u8 38),(.i .u8 29),(.i .u8 17),(.i .u8 4),(.i .u8 62),(.i .u8 47),(.i .u8 59),(.i .u8 36),(.i .u8 45),(.i .u8 43),(.i .u8 51),(.i .u8 22),(.i .u8 53),(.i .u8 39),(.i .u8 33),(.i .u8 30),(.i .u8 24),(.i .u8 18),(.i .u8 12),(.i .u8 5),(.i .u8 63),(.i .u8 55),(.i .u8 48),(.i .u8 27),(.i .u8 60),(.i .u8 41),(.i .u8 37),(.i .u8 16),(.i .u8 46),(.i .u8 35),(.i .u8 44),(.i .u8 21),(.i .u8 52),(.i .u8 32),(.i .u8 23),(.i .u8 11),(.i .u8 54),(.i .u8 26),(.i .u8 40),(.i .u8 15),(.i .u8 34),(.i .u8 20),(.i .u8 31),(.i .u8 10),(.i .u8 25),(.i .u8 14),(.i .u8 19),(.i .u8 9),(.i .u8 13),(.i .u8 8),(.i .u8 7),(.i .u8 6)]:List PV).getD i .fn0= .i .u8 (k:Nat):=fun _=>e4
 clear g1 g4 hi hp e4;refine eW call302 func302 ?_;simp only[go_sem,seval,e1 oT,e2 oT,qW,e3 oT,e5 oT];repeat' first|simp only[go_sem,seval,e1 oT,e2 oT,qW,e3 oT,e5 oT]|refine oE ?_|apply xX<;>intro hc
 all_goals skip
end Go.Proofs.Tryz
namespace Go.Dom
def ad (a b:Nat):Nat:=(a+b)%4294967296
def Bh (a b:Nat):Nat:=(a%4294967296)|||(b%4294967296)
def x32 (a b:Nat):Nat:=(a%4294967296)^^^(b%4294967296)
def Lt (a b:Nat):Nat:=(a%4294967296)&&&(b%4294967296)
def XE (a:Nat):Nat:=4294967295^^^(a%4294967296)
def vz (a k:Nat):Nat:=a*2^k%4294967296
theorem NG (a b:Nat):Bh a b=Bh b a:=Nat.or_comm _ _
theorem lV (a:Nat):BitVec.ofInt 32 ((a%4294967296:Nat):Int)=BitVec.ofInt 32 (a:Int):=by
 rw[gG,gG];apply BitVec.eq_of_toNat_eq;simp
theorem Ge:IntKind.bits .u32=32:=rfl
theorem uk (a b:Nat):IntKind.u32.wrap ((a:Int)+(b:Int))=((ad a b:Nat):Int):=by rw[Sk,ad];omega
theorem o_r (a b:Nat):Gu .u32 (a:Int) (b:Int)=((Bh a b:Nat):Int):=by
 have h:=UI .u32 rfl (a:=a%4294967296) (b:=b%4294967296) (aL _ (by decide)) (aL _ (by decide))
 rw[Bh,<-h,Gu,Gu,Ge,lV,lV]
theorem x_r (a b:Nat):EJ .u32 (a:Int) (b:Int)=((x32 a b:Nat):Int):=by
 have h:=SP .u32 rfl (a:=a%4294967296) (b:=b%4294967296) (aL _ (by decide)) (aL _ (by decide))
 rw[x32,<-h,EJ,EJ,Ge,lV,lV]
theorem a_r (a b:Nat):my .u32 (a:Int) (b:Int)=((Lt a b:Nat):Int):=by
 have h:=Ni .u32 rfl (a:=a%4294967296) (b:=b%4294967296) (aL _ (by decide)) (aL _ (by decide))
 rw[Lt,<-h,my,my,Ge,lV,lV]
theorem n_r (a:Nat):IntKind.u32.wrap ((BitVec.ofInt 32 4294967295^^^BitVec.ofInt 32 (a:Int)).toNat:Int)=((XE a:Nat):Int):=by
 have h:BitVec.ofInt 32 4294967295=BitVec.ofNat 32 4294967295:=rfl;have h2:4294967295^^^a%4294967296<2^32:=Nat.xor_lt_two_pow (by decide) (aL _ (by decide))
 rw[h,gG,BitVec.toNat_xor,kC,kC,XE,Sk];simp only[Nat.reducePow,Nat.reduceMod]at*;omega
theorem Y7 (a k:Nat):IntKind.u32.wrap ((a:Int)*2^k)=((vz a k:Nat):Int):=by
 rw[Sk,vz];have:((2:Int)^k)=((2^k:Nat):Int):=by simp
 rw[this,<-Int.natCast_mul];omega
def zG:List Nat:=[0x428a2f98,0x71374491,0xb5c0fbcf,0xe9b5dba5,0x3956c25b,0x59f111f1,0x923f82a4,0xab1c5ed5,
 0xd807aa98,0x12835b01,0x243185be,0x550c7dc3,0x72be5d74,0x80deb1fe,0x9bdc06a7,0xc19bf174,
 0xe49b69c1,0xefbe4786,0x0fc19dc6,0x240ca1cc,0x2de92c6f,0x4a7484aa,0x5cb0a9dc,0x76f988da,
 0x983e5152,0xa831c66d,0xb00327c8,0xbf597fc7,0xc6e00bf3,0xd5a79147,0x06ca6351,0x14292967,
 0x27b70a85,0x2e1b2138,0x4d2c6dfc,0x53380d13,0x650a7354,0x766a0abb,0x81c2c92e,0x92722c85,
 0xa2bfe8a1,0xa81a664b,0xc24b8b70,0xc76c51a3,0xd192e819,0xd6990624,0xf40e3585,0x106aa070,
 0x19a4c116,0x1e376c08,0x2748774c,0x34b0bcb5,0x391c0cb3,0x4ed8aa4a,0x5b9cca4f,0x682e6ff3,
 0x748f82ee,0x78a5636f,0x84c87814,0x8cc70208,0x90befffa,0xa4506ceb,0xbef9a3f7,0xc67178f2]
def sX:List Nat:=[0x6a09e667,0xbb67ae85,0x3c6ef372,0xa54ff53a,0x510e527f,0x9b05688c,0x1f83d9ab,0x5be0cd19]
def rr (x n:Nat):Nat:=Bh (x/2^n) (vz x (32-n))
def Yb (x:Nat):Nat:=x32 (x32 (rr x 7) (rr x 18)) (x/8)
def Yc (x:Nat):Nat:=x32 (x32 (rr x 17) (rr x 19)) (x/1024)
def OB (l:List Nat):Nat:=ad (ad (ad (l.getD (l.length-16) 0) (Yb (l.getD (l.length-15) 0))) (l.getD (l.length-7) 0)) (Yc (l.getD (l.length-2) 0))
def OE:Nat->List Nat->List Nat
 |0,l=>l
 |n+1,l=>OE n (l++[OB l])
def He (blk:Bytes) (i:Nat):Nat:=num ((blk.drop (4*i)).take 4)
def sched (blk:Bytes):List Nat:=OE 48 ((List.range 16).map (He blk))
def OD (k w:Nat) (v:List Nat):Nat:=ad (ad (ad (ad (v.getD 7 0) (x32 (x32 (rr (v.getD 4 0) 6) (rr (v.getD 4 0) 11)) (rr (v.getD 4 0) 25))) (x32 (Lt (v.getD 4 0) (v.getD 5 0)) (Lt (XE (v.getD 4 0)) (v.getD 6 0)))) k) w
def V8 (v:List Nat):Nat:=ad (x32 (x32 (rr (v.getD 0 0) 2) (rr (v.getD 0 0) 13)) (rr (v.getD 0 0) 22)) (x32 (x32 (Lt (v.getD 0 0) (v.getD 1 0)) (Lt (v.getD 0 0) (v.getD 2 0))) (Lt (v.getD 1 0) (v.getD 2 0)))
def RX (k w:Nat) (v:List Nat):List Nat:=[ad (OD k w v) (V8 v),v.getD 0 0,v.getD 1 0,v.getD 2 0,ad (v.getD 3 0) (OD k w v),v.getD 4 0,v.getD 5 0,v.getD 6 0]
def Hd (W:List Nat):Nat->List Nat->List Nat
 |0,v=>v
 |n+1,v=>Hd W n (RX (zG.getD (63-n) 0) (W.getD (63-n) 0) v)
def CM (st:List Nat) (blk:Bytes):List Nat:=List.zipWith ad (Hd (sched blk) 64 st) st
def zF:Nat->Bytes->List Nat->List Nat
 |0,_,st=>st
 |n+1,m,st=>zF n (m.drop 64) (CM st (m.take 64))
def pad (s:Bytes):Bytes:=s++128::(List.replicate ((119-s.length%64)%64) 0++be 8 (s.length*8))
def XN (w:Nat):Bytes:=[UInt8.ofNat (w/2^24),UInt8.ofNat (w/2^16),UInt8.ofNat (w/2^8),UInt8.ofNat w]
def nG (s:Bytes):Bytes:=(zF ((pad s).length/64) (pad s) sX).flatMap XN
theorem Fw: ∀n l,(OE n l).length=l.length+n
 |0,l=>rfl
 |n+1,l=>by rw[OE,Fw n];simp;omega
theorem qn (b:Bytes):(sched b).length=64:=by simp[sched,Fw]
theorem OC (k w:Nat) (v:List Nat):(RX k w v).length=8:=rfl
theorem Fv (W:List Nat): ∀n v,v.length=8->(Hd W n v).length=8
 |0,v,h=>h
 |n+1,v,h=>Fv W n _ (OC _ _ _)
theorem sW {st:List Nat} (b:Bytes) (h:st.length=8):(CM st b).length=8:=by simp[CM,Fv _ _ _ h,h]
theorem Fu: ∀n m st,st.length=8->(zF n m st).length=8
 |0,m,st,h=>h
 |n+1,m,st,h=>Fu n _ _ (sW _ h)
theorem Rh (s:Bytes):(pad s).length=s.length+9+(119-s.length%64)%64:=by simp[pad,cA];omega
theorem VA (s:Bytes):(pad s).length=(pad s).length/64*64:=by rw[Rh];omega
theorem jf (s:Bytes):(nG s).length=32:=by
 have h:=Fu ((pad s).length/64) (pad s) sX rfl;unfold nG;generalize zF ((pad s).length/64) (pad s) sX=l at h;obtain⟨a,b,c,d,e,f,g,i,rfl⟩: ∃a b c d e f g i,l=[a,b,c,d,e,f,g,i]:=by
  match l,h with
  |[a,b,c,d,e,f,g,i],_=>exact⟨_,_,_,_,_,_,_,_,rfl⟩
 rfl
def ig (k:Nat) (parts:List Bytes):Bytes:=UInt8.ofNat k::(be 8 parts.length++parts.flatMap fun s=>be 8 s.length++s)
def qY (l:Bytes):Bytes:=nG (ig 78 [l])
def e9 (st l d:Bytes):Bytes:=nG (ig 65 [st,l,d])
def eF (st l:Bytes) (xs:List Bytes):Bytes:=nG (ig 76 (st::l::xs))
def oG (x:Bool×Bytes):Bytes:=(if x.1 then 45 else 43)::x.2
def Hl (st l:Bytes) (xs:List (Bool×Bytes)):Bytes:=nG (ig 73 (st::l::xs.map oG))
def zJ (st:Bytes):Bytes:=nG (ig 67 [st,be 8 0])
def iV (st bound:Bytes):Nat:=num ((zJ st).take (bound.length+8))%num bound
theorem Lh (l:Bytes):(qY l).length=32:=jf _
theorem ic (st l d:Bytes):(e9 st l d).length=32:=jf _
theorem dL (st l:Bytes) (xs:List Bytes):(eF st l xs).length=32:=jf _
theorem Hm (st l:Bytes) (xs:List (Bool×Bytes)):(Hl st l xs).length=32:=jf _
theorem Hk (st:Bytes):(zJ st).length=32:=jf _
def cE (parts:List Bytes):Bytes:=parts.flatMap fun s=>be 8 s.length++s
theorem mY (l:List Bytes) (s:Bytes):cE (l++[s])=cE l++(be 8 s.length++s):=by simp[cE]
theorem oJ (l:List Bytes) {n:Nat} (h: ∀s∈l,s.length<=n):(cE l).length<=l.length*(8+n):=by
 induction l with
 |nil=>simp[cE]
 |cons x l ih=>
  have h1:=ih fun s hs=>h s (jR _ hs)
  have h2:=h x (by simp)
  have e:(cE (x::l)).length=8+x.length+(cE l).length:=by simp[cE,cA];omega
  rw[e,List.length_cons,kz];omega
theorem D7 (N k:Nat) (h:k<8):(be 8 N).take (k+1)=(be 8 N).take k++[UInt8.ofNat (N/256^(7-k))]:=by
 match k,h with
 |0,_=>rfl
 |1,_=>rfl
 |2,_=>rfl
 |3,_=>rfl
 |4,_=>rfl
 |5,_=>rfl
 |6,_=>rfl
 |7,_=>rfl
theorem Md (k n:Nat):be k n=be k (n%256^k):=by
 have h1:num (be k n)=num (be k (n%256^k)):=by rw[yS,yS,dN]
 have h2:=BO (be k n);have h3:=BO (be k (n%256^k));rw[cA]at h2 h3;rw[<-h2,h1,h3]
theorem xN (k m n:Nat):be (k+m) n=be k (n/256^m)++be m n:=by
 induction k with
 |zero=>simp[be]
 |succ k ih=>
  rw[show k+1+m=(k+m)+1 by omega]
  simp only[be,ih,List.cons_append];rw[fj,<-cF,gJ m k]
theorem Ui {n j Q c:Nat} (hj:j<n) (hc:Q/256^j%256+c<256):(be n Q).set (n-1-j) (UInt8.ofNat (Q/256^j%256+c))=be n (Q+c*256^j):=by
 obtain⟨k,rfl⟩: ∃k,n=k+(j+1):=⟨n-j-1,by omega⟩
 have hp:0<256^j:=jn j;have h1:(Q+c*256^j)/256^j=Q/256^j+c:=Nat.add_mul_div_right _ _ hp;have h2:(Q+c*256^j)/256^(j+1)=Q/256^(j+1):=by
  rw[Nat.pow_succ,<-fj,<-fj,h1];omega
 have h3:be j (Q+c*256^j)=be j Q:=by rw[Md,Nat.add_mul_mod_self_right,<-Md]
 rw[xN k (j+1),xN k (j+1),h2,show k+(j+1)-1-j=k by omega]
 have hl:(be k (Q/256^(j+1))).length=k:=cA _ _;have:=I7 (be k (Q/256^(j+1))) (be j Q) (UInt8.ofNat (Q/256^j)) (UInt8.ofNat (Q/256^j%256+c));rw[hl]at this;simp only[be,h1,h3];rw[this];congr 2;exact ofNat_mod (by omega)
theorem EG (A i:Nat):A/2^i=2*(A/2^(i+1))+A/2^i%2:=by
 rw[Nat.pow_succ,<-fj];omega
theorem MC {z t B:Nat} (hB:0<B) (ht:t<2):(2*z+t)/B=2*(z/B)+(if B<=2*(z%B)+t then 1 else 0)/\(2*z+t)%B=(if B<=2*(z%B)+t then 2*(z%B)+t-B else 2*(z%B)+t):=by
 have h1:=iY z B;have h2:=aL z hB;generalize z/B=q at*;generalize z%B=r at*;have e:2*z+t=B*(2*q)+(2*r+t):=by
  have:B*(2*q)=2*(B*q):=by rw[DA]
  omega
 split
 ·have e2:2*z+t=(2*r+t-B)+B*(2*q+1):=by rw[lA,eH];omega
  constructor
  ·rw[e2,ny _ _ hB,iO (by omega)];omega
  ·rw[e2,tK,bM (by omega)]
 ·constructor
  ·rw[e,gJ,ny _ _ hB,iO (by omega)];omega
  ·rw[e,gJ,tK,bM (by omega)]
theorem Mf {Q i:Nat}:Q*2^(i+1)/256^(i/8)%256+2^(i%8)<256:=by
 have h8:i%8<8:=aL _ (by decide)
 have e1:256^(i/8)=2^(8*(i/8)):=by rw[show 256=2^8 from rfl,<-gX]
 have e2:Q*2^(i+1)/256^(i/8)=Q*2^(i%8+1):=by
  rw[e1,show i+1=(i%8+1)+8*(i/8) by omega,cF 2 (i%8+1),<-cr,Dp _ (il (by decide))]
 rw[e2];generalize i%8=e at h8;have:e=0\/e=1\/e=2\/e=3\/e=4\/e=5\/e=6\/e=7:=by omega
 rcases this with rfl|rfl|rfl|rfl|rfl|rfl|rfl|rfl<;>simp only[Nat.reduceAdd,Nat.reducePow]<;>omega
theorem Me {i:Nat}:2^(i%8)*256^(i/8)=2^i:=by
 rw[show 256=2^8 from rfl,<-gX,<-cF];congr 1;omega
