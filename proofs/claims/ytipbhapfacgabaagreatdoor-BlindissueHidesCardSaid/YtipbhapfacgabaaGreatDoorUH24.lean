/- Part of the proof. -/
import Derived.Test.YtipbhapfacgabaaGreatDoorUH23
set_option linter.all false
set_option maxHeartbeats 8000000
set_option maxRecDepth 100000
namespace Go.Num
variable {a p x y:Nat}
def Pr (n:Nat):Prop:=2<=n/\ ∀d,d∣n->d=1\/d=n
theorem Pr.SF (h:Pr p) (ha: ¬p∣a):Nat.Coprime a p:=by
 rcases h.2 _ (DG a p)with e|e
 ·exact e
 ·exact aJ (e▸Dc a p) ha
theorem yK (hxy:y<=x) (h:p∣x-y):x%p=y%p:=by
 obtain⟨c,hc⟩:=h;have:x=y+p*c:=by omega
 rw[this,tK]
theorem Cv (hc:Nat.Coprime a p) (h:a*x%p=a*y%p):x%p=y%p:=by
 have key: ∀{x y:Nat},y<=x->a*x%p=a*y%p->x%p=y%p:=by
  intro x y hxy h;have hd:p∣a*x-a*y:=Dv (Nat.sub_mod_eq_zero_of_mod_eq h);rw[<-Nat.mul_sub]at hd;exact yK hxy (hc.symm.dvd_of_dvd_mul_left hd)
 rcases xq x y with g|g
 ·exact(key g h.symm).symm
 ·exact key g h
theorem E6 {a p m:Nat} (k:Nat) (hp:2<=p) (h:a^m%p=1):a^(m*k)%p=1:=by
 rw[gX,gL,h,lO,bM (by omega)]
theorem E5 {a p m n:Nat} (hp:2<=p) (h:a^m%p=1):a^(m+n)%p=a^n%p:=by
 rw[cF,cd,h,jP,dN]
theorem IE (hp:2<=p): ∀m n,a^m%p=1->a^n%p=1->a^Nat.gcd m n%p=1
 |0,n,_,hn=>by rw[Nat.gcd_zero_left];exact hn
 |m+1,n,hm,hn=>by
  rw[Nat.gcd_succ];have:n%(m+1)<m+1:=aL _ (by omega)
  refine IE hp (n%(m+1)) (m+1) ?_ hm;have e:=iY n (m+1);rw[<-e]at hn
  rwa[E5 hp (E6 _ hp hm)]at hn
 termination_by m=>m
def cg:List Nat:=[2,3,5,7,11,13,17,19,23,29,31,37]
def FI:Nat->Nat->Nat
 |0,_=>0
 |f+1,n=>if n%2=1 then 0 else FI f (n/2)+1
def S8:Nat->Nat->Nat->Bool
 |0,_,_=>false
 |k+1,x,n=>x*x%n==n-1||S8 k (x*x%n) n
def nF (n s d a:Nat):Bool:=(a%n)^d%n==1||(a%n)^d%n==n-1||S8 (s-1) ((a%n)^d%n) n
def eZ (n:Nat):Bool:=
 if n<2 then false else
 match cg.find? fun p=>n%p==0 with
 |some p=>n==p
 |none=>cg.all fun a=>nF n (FI 64 (n-1)) ((n-1)/2^FI 64 (n-1)) a
def vu (n:Nat) (s:Int):Int:=if n%8=3\/n%8=5 then-s else s
def vl (a n:Nat) (s:Int):Int:=if a%4=3/\n%4=3 then-s else s
def qK:Nat->Nat->Nat->Int->Int
 |0,_,_,_=>0
 |f+1,a,n,s=>if a=0 then(if n=1 then s else 0)else if a%2=0 then qK f (a/2) n (vu n s)else qK f (n%a) a (vl a n s)
def UR (a n:Nat):Int:=qK (a%n+1) (a%n) n 1
theorem AY {f g a n:Nat} {s:Int} (hf:a<f) (hg:a<g):qK f a n s=qK g a n s:=by
 induction f generalizing g a n s with
 |zero=>omega
 |succ f ih=>
  obtain⟨g,rfl⟩: ∃k,g=k+1:=⟨g-1,by omega⟩
  simp only[qK]
  by_cases h0:a=0
  ·simp[h0]
  ·rw[af h0,af h0];split
   ·exact ih (by omega) (by omega)
   ·have:n%a<a:=aL _ (by omega)
    exact ih (by omega) (by omega)
def fD (n:Nat):Bool:=eZ n&&eZ ((n-1)/2)
end Go.Num
namespace Go.Proofs.Tryz
open Go Go.Dom Go.Num
def Sx:List PV:=cg.map fun p:Nat=> .i .u64 (p:Int)
theorem GU:aF 301 [] (.agg Sx):=by
 refine eW call301 func301 ?_;repeat' first|simp only[go_sem,seval]|refine oE ?_|apply xX<;>intro hc
 rfl
theorem y8 {a b m:Nat} (ha:a<m) (hb:b<m) (hm:m<(2^64)):aF 304 [.i .u64 a, .i .u64 b, .i .u64 m] (.i .u64 (a*b%m:Nat)):=by
 have h1:=r8 a b oO oO;have hp:a*b<m*(2^64):=ba (Nat.mul_lt_mul_of_lt_of_le ha (kB hb) oO) (lu m oO);have h2:a*b/(2^64)<m:=(iL oC).2 hp;have h3:=DU (a*b/(2^64)) (a*b%(2^64)) m h2 (aL _ oC) hm;have e:a*b/(2^64)*(2^64)+a*b%(2^64)=a*b:=oO;rw[e]at h3;refine eW call304 func304 ?_;exact z2 @h1 @h3
theorem ID (b k m:Nat):(b*b%m)^(k/2)%m=b^(2*(k/2))%m:=by rw[<-gL,<-Nat.pow_two,<-gX]
theorem NX {x b k m:Nat} (h:k%2=1):x*b%m*(b*b%m)^(k/2)%m=x*b^k%m:=by
 rw[cd,ID,dN,<-cd,cr,<-xj];congr 3;omega
theorem IC {x b k m:Nat} (h:k%2=0):x*(b*b%m)^(k/2)%m=x*b^k%m:=by
 rw[cd,ID,<-cd];congr 3;omega
theorem N2 {a e m:Nat} (ha:a<m) (he:e<(2^64)) (hm:m<(2^64)):aF 303 [.i .u64 a, .i .u64 e, .i .u64 m] (.i .u64 (a^e%m:Nat)):=by
 refine eW call303 func303 ?_;refine Hw ?_;refine aq (α:=Nat×Nat×Nat) (fun x=>x.2.1) (fun x=>⟨[(0,U x.1),(1,U x.2.1),(2,U m),(7,U x.2.2)],[],_⟩) (fun x=>x.1<m/\x.2.1<(2^64)/\x.2.2<m/\x.2.2*x.1^x.2.1%m=a^e%m) (a,e,1%m) (fun _=>aB _) ⟨ha,he,aL _ oO,by show 1%m*a^e%m= _;rw[cd,dN,<-cd,jP]⟩ ?_ ?_
 ·(refine AS.Le.of (by first|decide|omega) ?_ ?_<;>simp[dG,dF,aO,hget,AV.bd,AV.bd.bdL,u8,ar,au,az])
  rfl
 ·rintro⟨b,k,x⟩ ⟨h1,h2,h3,h4⟩ R hR;simp only at h1 h2 h3 h4;have hs:=y8 h1 h1 hm;have hx:=y8 h3 h1 hm;have hk:k/2<(2^64):=oO;repeat' first|simp only[go_sem,seval,uw,bM hk]|refine cP hs ?_|refine cP hx ?_|refine oE ?_|apply xX<;>intro hc
  ·refine hR (b*b%m,k/2,x*b%m) ⟨aL _ oO,hk,aL _ oO,?_⟩ (by show k/2<k;omega) _ ?_
   ·show x*b%m*(b*b%m)^(k/2)%m= _;rw[NX oO,h4]
   ·exact lE
  ·refine hR (b*b%m,k/2,x) ⟨aL _ oO,hk,h3,?_⟩ (by show k/2<k;omega) _ ?_
   ·show x*(b*b%m)^(k/2)%m= _;rw[IC oO,h4]
   ·exact lE
  ·obtain rfl:k=0:=oO;rw[<-h4,Nat.pow_zero,eH,bM h3]
theorem Td: ∀f x,Lib.ctzFrom f x=FI f x
 |0,x=>rfl
 |f+1,x=>by simp only[Lib.ctzFrom,FI,Td f (x/2)];split<;>omega
theorem Xd {i:Nat} (h:i<12):(List.map AV.v Sx).getD i .u=U (cg.getD i 0):=by
 have: ∀i:Fin 12,(List.map AV.v Sx).getD i.val .u=U (cg.getD i.val 0):=by
  intro i;rcases i with⟨i,hi⟩
  have h2:i<cg.length:=hi;simp[Sx,bR,h2]
 exact this ⟨i,h⟩
theorem P9 {i:Nat} (h:i<12):0<cg.getD i 0/\cg.getD i 0<38:=by
 have: ∀i:Fin 12,0<cg.getD i.val 0/\cg.getD i.val 0<38:=by decide
 exact this ⟨i,h⟩
theorem HK {i:Nat} (h:i<12):cg.drop i=cg.getD i 0::cg.drop (i+1):=by
 have h2:i<cg.length:=h;rw[jL h2,bR,bG h2];rfl
theorem CE {n:Nat} (hn:n<(2^64)):aF 221 [.i .u64 n] (.b (eZ n)):=by
 by_cases h2:n<2
 ·have e:eZ n=false:=by simp[eZ,h2]
  rw[e];refine eW call221 func221 ?_;exact z0
 have hb:=GU;have hL:(List.map AV.v Sx).length=12:=rfl;refine eW call221 func221 ?_;refine zl1 @hb ?_;refine aq (α:=Nat) (fun i=>12-i) (fun i=>⟨[(0,U n),(13, .v (.agg Sx)),(14,E' i)],[],_⟩) (fun i=>i<=12/\cg.find? (fun p=>n%p==0)=(cg.drop i).find? (fun p=>n%p==0)) 0 (fun _=>aB _) ⟨oO,rfl⟩ ?_ ?_
 ·exact lE
 ·rintro i ⟨hi,hf⟩ R hR
  by_cases hlt:i<12
  ·have g1:=Xd hlt;obtain⟨q0,q1⟩:=P9 hlt;rw[HK hlt]at hf;generalize cg.getD i 0=q at*;repeat' first|simp only[go_sem,seval,g1,hL]|refine oE ?_|apply xX<;>intro hc
   ·have hz:(n%q==0)=true:=by rw[dZ];omega
    rw[List.find?_cons,hz]at hf;unfold eZ;rw[af h2,hf];congr 1;rw[cI];simp only[dZ];omega
   ·have hz:(n%q==0)=false:=by rw[dY];omega
    rw[List.find?_cons,hz]at hf;refine hR (i+1) ⟨oO,hf⟩ oO _ ?_;exact lE
  ·obtain rfl:i=12:=oO;have hf:cg.find? (fun p=>n%p==0)=none:=hf
   obtain⟨s,hs⟩: ∃s,s=FI 64 (n-1):=⟨_,rfl⟩;obtain⟨d,hd⟩: ∃d,d=(n-1)/2^s:=⟨_,rfl⟩;have hz:=rf (n-1) oO oO;have hs64:=(Lib.lowest_bit 64 (n-1) oO (by show n-1<(2^64);omega)).2
   have hzs:Lib.ctz 64 (n-1)=s:=by rw[Lib.ctz,af oO,Td,hs]
   rw[hzs]at hz hs64;have hdl:d<(2^64):=by rw[hd];exact dD (fF _ _) oO
   have e1: ∀ _:True,((n:Int)-1)=((n-1:Nat):Int):=fun _=>oO
   have e2: ∀ _:True,(if s<=64 then s else 64)=s:=fun _=>by split<;>omega
   have e3: ∀ _:True,(n-1)/2^s=d:=fun _=>hd.symm
   have key:eZ n=cg.all (nF n s d):=by
    unfold eZ;rw[af h2,hf,<-hs,<-hd]
   rw[key];clear key hf hzs hs hd;refine Sm (aN (e1 oT) (aN (e2 oT) (e3 oT))) @hz @hb ?_;refine aq (α:=Nat) (fun i=>12-i) (fun i=>⟨[(0,U n),(5,E' s),(6,U d),(32, .v (.agg Sx)),(33,E' i)],[],_⟩) (fun i=>i<=12/\cg.all (nF n s d)=(cg.drop i).all (nF n s d)) 0 (fun _=>aB _) ⟨oO,rfl⟩ ?_ ?_
   ·exact lE
   ·rintro i ⟨hi,hf⟩ R hR
    by_cases hlt:i<12
    ·have g1:=Xd hlt;obtain⟨q0,q1⟩:=P9 hlt;rw[HK hlt,List.all_cons]at hf;have hR1:=hR (i+1);generalize cg.getD i 0=q at*;have hq:q%n<n:=aL _ oO;have hp:=N2 hq hdl hn;obtain⟨x,hx⟩: ∃x,x=(q%n)^d%n:=⟨_,rfl⟩;have hxl:x<n:=by rw[hx];exact aL _ oO
     have hst:nF n s d q=(x==1||x==n-1||S8 (s-1) x n):=by rw[hx];rfl
     rw[<-hx]at hp;clear hx;repeat' first|simp only[go_sem,seval,g1,hL,e1 oT]|refine cP hp ?_|refine oE ?_|apply xX<;>intro hc
     ·have hx1:x=1:=oO;refine hR1 ⟨oO,by rw[hf,hst,hx1];simp⟩ oO _ ?_
      exact lE
     ·have hx1:x=n-1:=oO;refine hR1 ⟨oO,by rw[hf,hst,hx1];simp⟩ oO _ ?_
      exact lE
     ·have hx1:(x==1)=false:=by rw[dY];omega
      have hx2:(x==n-1)=false:=by rw[dY];omega
      rw[hx1,hx2,kE,kE]at hst;refine aq (α:=Nat×Nat) (fun z=>s-z.1) (fun z=>⟨[(0,U n),(5,E' s),(6,U d),(32, .v (.agg Sx)),(33,E' i),(9,U z.2),(10,E' z.1)],[],_⟩) (fun z=>1<=z.1/\z.2<n/\S8 (s-z.1) z.2 n=S8 (s-1) x n) (1,x) (fun _=>aB _) ⟨aB 1,hxl,rfl⟩ ?_ ?_
      ·exact lE
      ·rintro⟨j,y⟩ ⟨hj,hy,hz⟩ R' hR';simp only at hj hy hz;have hm:=y8 hy hy hn;obtain⟨w,hw⟩: ∃w,w=y*y%n:=⟨_,rfl⟩;have hwl:w<n:=by rw[hw];exact aL _ oO
       have hz':j<s->(w==n-1||S8 (s-(j+1)) w n)=S8 (s-1) x n:=by
        intro g;rw[<-hz,show s-j=s-(j+1)+1 by omega,hw];rfl
       rw[<-hw]at hm;clear hw;repeat' first|simp only[go_sem,seval,e1 oT]|refine cP hm ?_|refine oE ?_|apply xX<;>intro hc
       ·have hw1:w=n-1:=oO;have:=hz' oO;rw[hw1,kR,qG]at this;refine hR1 ⟨oO,by rw[hf,hst,<-this,cB]⟩ oO _ ?_
        exact lE
       ·have hw1:(w==n-1)=false:=by rw[dY];omega
        have:=hz' oO;rw[hw1,kE]at this;refine hR' (j+1,w) ⟨by show 1<=j+1;omega,hwl,this⟩ (by show s-(j+1)<s-j;omega) _ ?_
        exact lE
       ·rw[hf,hst,<-hz,show s-j=0 by omega];rfl
    ·obtain rfl:i=12:=oO;refine xy ?_;rw[hf];rfl
theorem y9 (a:Bytes):aF 220 [.s a] (.tup [.i .u64 (if aa a&&decide (a.length<=8)then num a else 0),E (if aa a then(if a.length<=8 then 0 else 5)else 3)]):=by
 have hs:=nL a;have hv:=aD a;refine eW call220 func220 ?_;repeat' first|simp only[go_sem,seval]|refine cP hv ?_|refine cP hs ?_|refine oE ?_|apply xX<;>intro hc
 all_goals (simp_all<;>omega)
def dK (a:Bytes):Int:=if aa a then(if a.length<=8 then 0 else 5)else 3
theorem qm (a:Bytes):aF 131 [.s a] (.tup [.b (aa a&&decide (a.length<=8)&&eZ (num a)),E (dK a)]):=by
 have hs:=y9 a
 by_cases h:aa a=true/\a.length<=8
 ·obtain⟨h1,h2⟩:=h;have e:dK a=0:=by simp[dK,h1,h2]
  rw[h1,aS h2]at hs;have hi:=CE (cU h2);rw[h1,aS h2,e];refine eW call131 func131 ?_;repeat' first|simp only[go_sem,seval,aA,ah h2]|refine cP hs ?_|refine cP hi ?_|refine oE ?_|apply xX<;>intro hc
  all_goals skip
 ·have h0:(aa a&&decide (a.length<=8))=false:=by
   rw[dA];intro g;simp at g;exact h g
  have e:dK a≠0:=by
   unfold dK;split
   ·rename_i g;rw[af (fun g2=>h ⟨g,g2⟩)];decide
   ·decide
  rw[h0]at hs⊢;have e2:(if aa a then(if a.length<=8 then(0:Int)else 5)else 3)=dK a:=rfl
  rw[e2]at hs;refine eW call131 func131 ?_;repeat' first|simp only[go_sem,seval]|refine cP hs ?_|refine oE ?_|apply xX<;>intro hc
  all_goals skip
theorem Bl (a:Bytes):aF 295 [.s a] (.tup [.b (aa a&&decide (a.length<=8)&&fD (num a)),E (dK a)]):=by
 have hs:=y9 a
 by_cases h:aa a=true/\a.length<=8
 ·obtain⟨h1,h2⟩:=h;have e:dK a=0:=by simp[dK,h1,h2]
  rw[h1,aS h2]at hs;have hn:=cU h2;have hi:=CE hn;have hj:=CE (n:=(num a-1)/2) oO;rw[h1,aS h2,e]
  by_cases h0:eZ (num a)=true
  ·have hp:2<=num a:=by
    rcases ij (num a) 2 with g|g
    ·simp[eZ,g]at h0
    ·exact g
   have e1: ∀ _:True,((num a:Int)-1)=((num a-1:Nat):Int):=fun _=>oO
   have e3:(num a-1)/2%(2^64)=(num a-1)/2:=bM oO;have e4:(num a-1)%(2^64)=num a-1:=bM oO;rw[h0]at hi;refine eW call295 func295 ?_;repeat' first|simp only[go_sem,seval,aA,ah h2,e1 oT,uw,e4,e3]|refine cP hs ?_|refine cP hi ?_|refine cP hj ?_|refine oE ?_|apply xX<;>intro hc
   all_goals simp[fD,h0]
  ·have h0:eZ (num a)=false:=by simpa using h0
   rw[h0]at hi;refine eW call295 func295 ?_;repeat' first|simp only[go_sem,seval,aA,ah h2]|refine cP hs ?_|refine cP hi ?_|refine oE ?_|apply xX<;>intro hc
   all_goals simp[fD,h0]
 ·have h0:(aa a&&decide (a.length<=8))=false:=by
   rw[dA];intro g;simp at g;exact h g
  have e:dK a≠0:=by
   unfold dK;split
   ·rename_i g;rw[af (fun g2=>h ⟨g,g2⟩)];decide
   ·decide
  rw[h0]at hs⊢;have e2:(if aa a then(if a.length<=8 then(0:Int)else 5)else 3)=dK a:=rfl
  rw[e2]at hs;refine eW call295 func295 ?_;repeat' first|simp only[go_sem,seval]|refine cP hs ?_|refine oE ?_|apply xX<;>intro hc
  all_goals skip
theorem yw {a n:Nat} {s:Int} (h0:a≠0) (h2:a%2=0):qK (a+1) a n s=qK (a/2+1) (a/2) n (vu n s):=by
 rw[qK,af h0,ah h2];exact AY oO oO
theorem Cm {a n:Nat} {s:Int} (h0:a≠0) (h2:a%2≠0):qK (a+1) a n s=qK (n%a+1) (n%a) a (vl a n s):=by
 have:n%a<a:=aL _ oO;rw[qK,af h0,af h2];exact AY oO oO
theorem HC {a n:Nat} (ha:a<(2^64)) (hn:n<(2^64)) (h1:n%2=1):aF 223 [N a,N n] (.tup [E (UR a n),E 0]):=by
 have hc:=fun nm=>Gg nm (aZ a) (aZ n)
 rw[SD ha hn oO]at hc;have l0:=U2 hn;have h8:n%8%2=1:=oO;refine eW call223 func223 ?_;simp only[go_sem,seval,du,CT];repeat' first|simp only[go_sem,seval,du,CT]|(refine aW (hc _) (by simp) ?_)|refine cP l0 ?_|refine cP (kZ ha hn oO) ?_|refine oE ?_|apply xX<;>intro hc
 refine aq (α:=Nat×Nat×Int) (fun x=>x.1) (fun x=>⟨[(0, .v (N x.1)),(1, .v (N x.2.1)),(7, .v (E x.2.2))],[],_⟩) (fun x=>x.1<(2^64)/\x.2.1<(2^64)/\0<x.2.1/\(x.2.2=1\/x.2.2= -1)/\qK (x.1+1) x.1 x.2.1 x.2.2=UR a n) (a%n,n,1) (fun _=>aB _) ⟨dD (tI _ _) ha,hn,by show 0<n;omega, .inl rfl,rfl⟩ ?_ ?_
 ·exact lE
 ·rintro⟨x,y,s⟩ ⟨hx,hy,hy0,hs,hj⟩ R hR;simp only at hx hy hy0 hs hj
  by_cases hx0:x=0
  ·subst hx0;have e:=NS y;repeat' first|simp only[go_sem,seval,Cy,du,e]|refine oE ?_|apply xX<;>intro hc
   ·simp[wz]at hc;rw[<-hj];simp only[qK,aA];rw[ah hc]
   ·simp[wz]at hc;rw[<-hj];simp only[qK,aA];rw[af hc]
  ·have e:=yQ hx0;have ly:=U2 hy;refine fq @e ?_;refine aq (α:=Nat×Int) (fun z=>z.1) (fun z=>⟨[(0, .v (N z.1)),(1, .v (N y)),(7, .v (E z.2))],[],_⟩) (fun z=>z.1<=x/\z.1≠0/\(z.2=1\/z.2= -1)/\qK (z.1+1) z.1 y z.2=UR a n) (x,s) (fun _=>aB _) ⟨aB _,hx0,hs,hj⟩ ?_ ?_
   ·exact lE
   ·rintro⟨z,t⟩ ⟨hz,hz0,ht,hk⟩ R' hR';simp only at hz hz0 ht hk;have lz:=U2 (n:=z) oO;have hd:=jC (a:=z) (b:=2) oO oC oC;have hw: ∀ _:True,IntKind.i64.wrap (0-t)= -t:=fun _=>by rw[IntWalk.i64_in _ oO];omega
    have hr:=kZ (a:=y) (m:=z) hy oO oO;have hlt:y%z<z:=aL _ oO;repeat' first|simp only[go_sem,seval,CT,hw oT]|refine cP lz ?_|refine cP ly ?_|refine cP hd ?_|refine cP hr ?_|refine oE ?_|apply xX<;>intro hc
    ·have hf:vu y t= -t:=by unfold vu;rw[ah oO]
     refine hR' (z/2,-t) ⟨by show z/2<=x;omega,by show z/2≠0;omega,by show-t=1\/ -t= -1;omega,by rw[<-hk,yw hz0 oO,hf]⟩ (by show z/2<z;omega) _ ?_
     exact lE
    ·have hf:vu y t= -t:=by unfold vu;rw[ah oO]
     refine hR' (z/2,-t) ⟨by show z/2<=x;omega,by show z/2≠0;omega,by show-t=1\/ -t= -1;omega,by rw[<-hk,yw hz0 oO,hf]⟩ (by show z/2<z;omega) _ ?_
     exact lE
    ·have hf:vu y t=t:=by unfold vu;rw[af oO]
     refine hR' (z/2,t) ⟨by show z/2<=x;omega,by show z/2≠0;omega,ht,by rw[<-hk,yw hz0 oO,hf]⟩ (by show z/2<z;omega) _ ?_
     exact lE
    ·have hf:vl z y t= -t:=by unfold vl;rw[ah oO]
     refine hR (y%z,z,-t) ⟨by show y%z< _;omega,by show z< _;omega,by show 0<z;omega,by show-t=1\/ -t= -1;omega,by rw[<-hk,Cm hz0 oO,hf]⟩ (by show y%z<x;omega) _ ?_
     exact lE
    ·have hf:vl z y t=t:=by unfold vl;rw[af oO]
     refine hR (y%z,z,t) ⟨by show y%z< _;omega,by show z< _;omega,by show 0<z;omega,ht,by rw[<-hk,Cm hz0 oO,hf]⟩ (by show y%z<x;omega) _ ?_
     exact lE
    ·have hf:vl z y t=t:=by unfold vl;rw[af oO]
     refine hR (y%z,z,t) ⟨by show y%z< _;omega,by show z< _;omega,by show 0<z;omega,ht,by rw[<-hk,Cm hz0 oO,hf]⟩ (by show y%z<x;omega) _ ?_
     exact lE
abbrev G (m o:Bytes):PV:= .agg [.s m, .s o]
theorem eT {a:Bytes} (h:aa a=true):N (num a)= .s a:=congrArg PV.s (eU h)
def dH (m o:Bytes):Bool:=aa m&&o==[]&&(num m).testBit 0&&decide (8<num m)
theorem Zk:aF 85 [.i .u64 8] (.s [8]):=pK 8 oC
theorem xI:aF 85 [.i .u64 1] (.s [1]):=pK 1 oC
theorem Wt:aF 85 [.i .u64 2] (.s [2]):=pK 2 oC
theorem H9 (m o:Bytes):aF 213 [G m o] (.b (dH m o)):=by
 have hv:=aD m
 by_cases h:aa m=true
 ·have hb:=xz h 0 oC;have hcm:=lY m [8];rw[h]at hv;rw[h,show aa [8]=true from rfl,show num [8]=8 from rfl]at hcm
  have he:bK (num m) 8>0↔8<num m:=by unfold bK;split<;>(try split)<;>omega
  refine eW call213 func213 ?_;repeat' first|simp only[go_sem,seval]|refine cP hv ?_|refine cP hb ?_|refine cP Zk ?_|refine cP hcm ?_|refine oE ?_|apply xX<;>intro hc
  all_goals simp_all[dH]
 ·have h:aa m=false:=by simpa using h
  rw[h]at hv;have e:dH m o=false:=by simp[dH,h]
  rw[e];refine eW call213 func213 ?_;exact z1 @hv
theorem wL:aF 136 [] (N 1):=by
 refine eW call136 func136 ?_;exact z1 @xI
theorem uO (p q:Bytes):aF 215 [G p q] (G p q):=by
 refine eW call215 func215 ?_;exact z0
def cL (m o x:Bytes):Bool:=dH m o&&aa x&& !(x==[])&&decide (num x<num m)&&decide (Nat.gcd (num x) (num m)=1)
theorem xY (a b:Nat):(bK a b>=0)=(b<=a):=by
 unfold bK;rw[eq_iff_iff];split<;>(try split)<;>omega
theorem CH {m:Bytes} (lm:m.length<=8) (o x:Bytes):aF 151 [G m o, .s x] (.b (cL m o x)):=by
 have hg:=H9 m o;have hv:=aD x
 by_cases h:dH m o=true/\aa x=true/\x≠[]/\num x<num m
 ·obtain⟨h1,h2,h3,h4⟩:=h;have hm:aa m=true:=by simp[dH]at h1;exact h1.1.1.1
  have hcm:=lY x m;rw[h2,hm]at hcm;have hnm:=cU lm;have hgc:=WN (a:=num x) (b:=num m) oO hnm;rw[eT h2,eT hm]at hgc;rw[h1]at hg;rw[h2]at hv;have hx:(x==([]:Bytes))=false:=by simpa using h3
  have hlt: ¬bK (num x) (num m)>=0:=by rw[xY];omega
  have e:cL m o x=decide (Nat.gcd (num x) (num m)=1):=by simp[cL,h1,h2,h4];intro;exact h3
  rw[e];refine eW call151 func151 ?_;repeat' first|simp only[go_sem,seval,hx,xR]|refine cP hg ?_|refine cP hv ?_|refine cP hcm ?_|refine cP hgc ?_|refine cP wL ?_|refine oE ?_|apply xX<;>intro hc
  all_goals skip
 ·have e:cL m o x=false:=by
   rw[dA];intro g;simp[cL]at g;exact h ⟨g.1.1.1.1,g.1.1.1.2,g.1.1.2,g.1.2⟩
  have hcm:=lY x m;rw[e]
  by_cases h1:dH m o=true
  ·have hm:aa m=true:=by simp[dH]at h1;exact h1.1.1.1
   rw[h1]at hg
   by_cases h2:aa x=true
   ·rw[h2]at hv;rw[h2,hm]at hcm
    by_cases h3:x=[]
    ·subst h3;refine eW call151 func151 ?_;exact wq @nn @hg @hv
    ·have hx:(x==([]:Bytes))=false:=by simpa using h3
     have hge:bK (num x) (num m)>=0:=by rw[xY];exact DF fun g=>h ⟨h1,h2,h3,g⟩
     refine eW call151 func151 ?_;repeat' first|simp only[go_sem,seval,hx]|refine cP hg ?_|refine cP hv ?_|refine cP hcm ?_|refine oE ?_|apply xX<;>intro hc
     all_goals skip
   ·have h2:aa x=false:=by simpa using h2
    rw[h2]at hv;refine eW call151 func151 ?_;exact z2 @hg @hv
  ·have h1:dH m o=false:=by simpa using h1
   rw[h1]at hg;refine eW call151 func151 ?_;exact z1 @hg
def zD (a:Bytes):Bool:=aa a&&decide (a.length<=8)&&fD (num a)
def Bx (p q:Bytes):Int:=if dK p≠0 then dK p else if dK q≠0 then dK q else if zD p&&zD q&& !(p==q)then 0 else 12
theorem I5 (p q:Bytes):aF 214 [G p q] (E (Bx p q)):=by
 have h1:aF 295 [.s p] (.tup [.b (zD p),E (dK p)]):=Bl p;have h2:aF 295 [.s q] (.tup [.b (zD q),E (dK q)]):=Bl q;generalize hp:zD p=sp at*;generalize hq:zD q=sq at*;unfold Bx;rw[hp,hq];generalize dK p=ep at*;generalize dK q=eq at*;refine eW call214 func214 ?_;exact Y1 (uO p q) @h1 @h2
def jI (m o p q:Bytes):Int:=if !(aa m&&aa o&&aa p&&aa q)then 3 else if !dH m o then 13 else if(nC p q).2≠0\/(nC p q).1≠m then 1 else Bx p q
theorem Bs (m o p q:Bytes):aF 118 [G m o,G p q] (E (jI m o p q)):=by
 have v1:=aD m;have v2:=aD o;have v3:=aD p;have v4:=aD q;have hg:=H9 m o;have hm:=BH p q;have hs:=I5 p q;unfold jI;generalize aa m=b1 at*;generalize aa o=b2 at*;generalize aa p=b3 at*;generalize aa q=b4 at*;generalize dH m o=b5 at*;generalize Bx p q=se at*;generalize nC p q=mb at*;obtain⟨mb1,mb2⟩:=mb;simp only at hm;refine eW call118 func118 ?_;exact zs7 @v1 @v2 @v3 @v4 @hg @hm @hs
def DQ (m o p q x:Bytes):Int:=if !aa x then 3 else if jI m o p q≠0 then jI m o p q else if !cL m o x then 13 else 0
theorem rp {m:Bytes} (lm:m.length<=8) (o p q x:Bytes):aF 133 [G m o,G p q, .s x] (E (DQ m o p q x)):=by
 have v1:=aD x;have v2:=Bs m o p q;have v3:=CH lm o x;unfold DQ;generalize aa x=b1 at*;generalize jI m o p q=b2 at*;generalize cL m o x=b3 at*;refine eW call133 func133 ?_;exact YZ @v1 @v2 @v3 oT
structure LJ (m o p q:Bytes):Prop where
 vm:aa m=true
 vp:aa p=true
 vq:aa q=true
 lp:p.length<=8
 lq:q.length<=8
 o:o=[]
 mul:num m=num p*num q
 odd:num m%2=1
 sp:fD (num p)=true
 sq:fD (num q)=true
 ne:num p≠num q
theorem RE {m o p q:Bytes} (h:jI m o p q=0):LJ m o p q:=by
 unfold jI at h
 split at h
 ·cases h
 ·rename_i h1;simp only[dC,xk,aV]at h1;obtain⟨⟨⟨v1,v2⟩,v3⟩,v4⟩:=h1
  split at h
  ·cases h
  ·rename_i h2;simp only[dC,xk]at h2
   split at h
   ·cases h
   ·rename_i h3;have h3a:(nC p q).2=0:=Classical.not_not.1 fun g=>h3 (.inl g)
    have h3b:(nC p q).1=m:=Classical.not_not.1 fun g=>h3 (.inr g)
    unfold Bx at h
    split at h
    ·contradiction
    ·split at h
     ·contradiction
     ·split at h
      ·rename_i h4;simp only[zD,aV,bc,dC,dY]at h4;obtain⟨⟨⟨⟨-,lp⟩,sp⟩,⟨-,lq⟩,sq⟩,ne⟩:=h4;simp only[dH,aV,bc,dZ]at h2;obtain⟨⟨⟨-,ho⟩,hb⟩,-⟩:=h2;unfold nC at h3a h3b;rw[v3,v4]at h3a h3b;simp only[dW,aA]at h3a h3b
       split at h3a
       ·rename_i h5;rw[ah h5]at h3b;refine⟨v1,v3,v4,lp,lq,ho,?_,?_,sp,sq,fun e=>ne ?_⟩
        ·rw[<-h3b,aP]
        ·rw[Nat.testBit_zero]at hb;simpa using hb
        ·rw[<-eU v3,e,eU v4]
       ·cases h3a
      ·cases h
theorem LJ.XI {m o p q:Bytes} (t:LJ m o p q):num p%2=1/\num q%2=1:=by
 have h:=t.odd;rw[t.mul,cd]at h;have h1:num p%2=0\/num p%2=1:=oO;have h2:num q%2=0\/num q%2=1:=oO;rcases h1 with e1|e1<;>rcases h2 with e2|e2<;>simp_all
def RZ (p q x:Bytes):Bool:=decide (UR (num x) (num p)=1)&&decide (UR (num x) (num q)=1)
theorem uW {m o p q x:Bytes} (t:LJ m o p q) (vx:aa x=true) (lx:x.length<=8):aF 134 [G p q, .s x] (.b (RZ p q x)):=by
 obtain⟨o1,o2⟩:=t.XI;have j1:=HC (cU lx) (cU t.lp) o1;have j2:=HC (cU lx) (cU t.lq) o2;rw[eT vx,eT t.vp]at j1;rw[eT vx,eT t.vq]at j2;unfold RZ;generalize UR (num x) (num p)=a at*;generalize UR (num x) (num q)=b at*;refine eW call134 func134 ?_;exact Y1 (uO p q) @j1 @j2
theorem Zw {m o p q x:Bytes} (h:DQ m o p q x=0):aa x=true/\LJ m o p q/\cL m o x=true:=by
 unfold DQ at h
 split at h
 ·cases h
 ·rename_i h1
  split at h
  ·contradiction
  ·rename_i h2
   split at h
   ·cases h
   ·rename_i h3;exact⟨by simpa using h1,RE (by simpa using h2),by simpa using h3⟩
theorem Ib {m o x:Bytes} (lm:m.length<=8) (h:cL m o x=true):x.length<=8:=by
 simp only[cL,aV,bc]at h;obtain⟨⟨⟨⟨h1,h2⟩,h3⟩,h4⟩,h5⟩:=h;have:=cU lm;rw[<-eU h2];exact lN oO
theorem DW {m:Bytes} (lm:m.length<=8) (o p q x:Bytes):aF 120 [G m o,G p q, .s x] (.tup [.b (decide (DQ m o p q x=0)&&RZ p q x),E (DQ m o p q x)]):=by
 have he:=rp lm o p q x
 by_cases h0:DQ m o p q x=0
 ·obtain⟨vx,t,hh⟩:=Zw h0;have hs:=uW t vx (Ib lm hh);rw[h0]at he⊢;refine eW call120 func120 ?_;exact O5 @he @hs
 ·generalize DQ m o p q x=e at*;refine eW call120 func120 ?_;exact Sp @he
def Na (p q x:Bytes):Bool:=RZ p q x&&decide (num x%num p≠1)&&decide (num x%num q≠1)
theorem xF {m:Bytes} (lm:m.length<=8) (o p q x:Bytes):aF 119 [G m o,G p q, .s x] (.tup [.b (decide (DQ m o p q x=0)&&Na p q x),E (DQ m o p q x)]):=by
 have he:=rp lm o p q x
 by_cases h0:DQ m o p q x=0
 ·obtain⟨vx,t,hh⟩:=Zw h0;have lx:=Ib lm hh;have hs:=uW t vx lx;obtain⟨o1,o2⟩:=t.XI;have d1:=jC (cU lx) (cU t.lp) oO;have d2:=jC (cU lx) (cU t.lq) oO;rw[eT vx,eT t.vp]at d1;rw[eT vx,eT t.vq]at d2;rw[h0]at he⊢;unfold Na;generalize RZ p q x=sb at*;refine eW call119 func119 ?_;repeat' first|simp only[go_sem,seval,xR]|refine cP he ?_|refine cP hs ?_|refine cP (uO p q) ?_|refine cP wL ?_|refine cP d1 ?_|refine cP d2 ?_|(refine aj ?_)|refine oE ?_|apply xX<;>intro hc
  all_goals simp_all
 ·generalize DQ m o p q x=e at*;refine eW call119 func119 ?_;exact Sp @he
theorem wF (n:Bool) (a:Bytes):aF 91 [.b n, .s a] (.agg [.b (n&& !(a==[])), .s a]):=by
 refine eW call91 func91 ?_;exact zs0
theorem ib (n:Bool) (a:Bytes):aF 128 [.agg [.b n, .s a]] (.b (aa a&& !(n&&a==[]))):=by
 have hv:=aD a;refine eW call128 func128 ?_;exact Sp @hv
theorem mJ {a:Bytes} (h:aa a=true):aF 41 [.s a] (.agg [.b false, .s a]):=by
 have hv:=aD a;rw[h]at hv;refine eW call41 func41 ?_;repeat' first|simp only[go_sem,seval]|refine cP hv ?_|refine cP (wF _ _) ?_|refine oE ?_|apply xX<;>intro hc
 all_goals simp_all
theorem AU (m o:Bytes):aF 229 [G m o] (.b (aa m&&aa o)):=by
 have v1:=aD m;have v2:=aD o;refine eW call229 func229 ?_;exact O5 @v1 @v2
theorem TH {a b:Nat} (ha:a<(2^64)) (hb:b<(2^64)):aF 143 [N a,N b] (.tup [if b<=a then N (a-b)else .s [],E (if b<=a then 0 else 2)]):=by
 have:=BJ (aZ a) (aZ b);simp only[CO,vN ha,vN hb,dW,aA,aP]at this
 by_cases h:b<=a
 ·simp only[h,aA]at this⊢;exact this
 ·simp only[h,ak]at this⊢;exact this
theorem Eg {m o:Nat} (hm:m<(2^64)) (ho:o<(2^64)):aF 230 [G (aZ m) (aZ o)] (.tup [if m=0\/o=0 then .s []else N ((m-1)/o), .b (decide (m≠0)&&decide (o≠0)&&decide ((m-1)%o=0))]):=by
 have hs:=TH hm (show 1<(2^64) by decide)
 by_cases m0:m=0
 ·subst m0;simp only[show¬1<=0 by omega,ak]at hs
  refine eW call230 func230 ?_;simp only[go_sem,seval,du];exact Wl @du @hs
 ·rw[ah oO,ah oO]at hs
  by_cases o0:o=0
  ·subst o0;refine eW call230 func230 ?_;simp only[go_sem,seval,du];exact Wl (aN @du @Cy) @hs
  ·have hd:=jC (a:=m-1) (b:=o) oO ho oO;have e:=yQ o0;have hz:(aZ ((m-1)%o)==([]:Bytes))=decide ((m-1)%o=0):=by
    rw[cI];simp[gR]
   refine eW call230 func230 ?_;simp only[go_sem,seval,du];exact Sn (aN @du (aN @e @hz)) @hs @hd
def ud (m o:Bytes):Int:=if !(aa m&&aa o)then 3 else if 8<m.length then 5 else if !eZ (num m)then 12 else if 8<o.length then 13 else if !eZ (num o)then 12 else if(num m-1)%num o=0 then 0 else 13
theorem GS (m o:Bytes):aF 152 [G m o] (E (ud m o)):=by
 have hf:=AU m o;have hm:=qm m;have ho:=qm o
 by_cases hv:aa m=true/\aa o=true
 case neg=>
  have e:(aa m&&aa o)=false:=by rw[dA];intro g;simp at g;exact hv g
  rw[e]at hf;have e2:ud m o=3:=by simp[ud,e]
  rw[e2];refine eW call152 func152 ?_;exact z1 @hf
 obtain⟨v1,v2⟩:=hv;rw[v1,v2]at hf;rw[v1]at hm;rw[v2]at ho
 by_cases l1:m.length<=8
 case neg=>
  have e2:ud m o=5:=by simp[ud,v1,v2];intro g;omega
  rw[e2];refine eW call152 func152 ?_;exact z1 @hf
 have em:dK m=0:=by simp[dK,v1,l1]
 rw[aS l1,em]at hm
 by_cases l2:o.length<=8
 case neg=>
  by_cases p1:eZ (num m)=true
  ·have e2:ud m o=13:=by simp[ud,v1,v2,p1,show¬8<m.length by omega,show 8<o.length by omega]
   rw[p1]at hm;rw[e2];refine eW call152 func152 ?_;exact z2 @hf @hm
  ·have p1:eZ (num m)=false:=by simpa using p1
   have e2:ud m o=12:=by simp[ud,v1,v2,p1,l1]
   rw[p1]at hm;rw[e2];refine eW call152 func152 ?_;exact z2 @hf @hm
 have eo:dK o=0:=by simp[dK,v2,l2]
 rw[aS l2,eo]at ho;have hc:=Eg (cU l1) (cU l2);rw[eU v1,eU v2]at hc;have hcm:=hc;clear hc;unfold ud;rw[v1,v2]
 by_cases p1:eZ (num m)=true
 ·by_cases p2:eZ (num o)=true
  ·have h2:2<=num m:=by rcases ij (num m) 2 with g|g;simp[eZ,g]at p1;exact g
   have h3:2<=num o:=by rcases ij (num o) 2 with g|g;simp[eZ,g]at p2;exact g
   rw[p1]at hm;rw[p2]at ho;rw[af oO,aS (show num m≠0 by omega),aS (show num o≠0 by omega)]at hcm
   rw[p1,p2];generalize (num m-1)%num o=z at*;refine eW call152 func152 ?_;repeat' first|simp only[go_sem,seval]|refine cP hf ?_|refine cP hm ?_|refine cP ho ?_|refine cP hcm ?_|refine oE ?_|apply xX<;>intro hc
   all_goals simp_all
   all_goals omega
  ·have p2:eZ (num o)=false:=by simpa using p2
   rw[p1]at hm;rw[p2]at ho;rw[p1,p2];refine eW call152 func152 ?_;repeat' first|simp only[go_sem,seval]|refine cP hf ?_|refine cP hm ?_|refine cP ho ?_|refine oE ?_|apply xX<;>intro hc
   all_goals simp_all
   all_goals omega
 ·have p1:eZ (num m)=false:=by simpa using p1
  rw[p1]at hm;rw[p1];refine eW call152 func152 ?_;repeat' first|simp only[go_sem,seval]|refine cP hf ?_|refine cP hm ?_|refine oE ?_|apply xX<;>intro hc
  all_goals simp_all
  all_goals omega
def iz (m o x:Bytes):Bool:=aa m&&aa o&&aa x&& !(o==[])&& !(x==[])&&decide (num x<num m)&&decide (num x^num o%num m=1%num m)
theorem EX {m:Bytes} (lm:m.length<=8) (o x:Bytes):aF 231 [G m o, .s x] (.b (iz m o x)):=by
 have hf:=AU m o;have vx:=aD x;have hcm:=lY x m
 by_cases h:aa m=true/\aa o=true/\aa x=true/\o≠[]/\x≠[]/\num x<num m
 ·obtain⟨v1,v2,v3,h4,h5,h6⟩:=h;have e4:(o==([]:Bytes))=false:=by simpa using h4
  have e5:(x==([]:Bytes))=false:=by simpa using h5
  have hn:=cU lm;have hE:=Tr (a:=num x) (m:=num m) (e:=o) oO v2 hn oO;have hE0:=Tr (a:=num x) (m:=num m) (e:=[]) oO rfl hn oO;rw[eT v3,eT v1]at hE hE0;rw[show num ([]:Bytes)=0 from rfl,Nat.pow_zero]at hE0
  rw[v1,v2]at hf;rw[v3]at vx;rw[v3,v1]at hcm;have hlt: ¬bK (num x) (num m)>=0:=by rw[xY];omega
  have e:iz m o x=decide (num x^num o%num m=1%num m):=by simp[iz,v1,v2,v3,e4,e5,h6]
  rw[e];generalize num x^num o%num m=z1 at*;generalize 1%num m=z2 at*;refine eW call231 func231 ?_;exact O4 (aN @e4 (aN @e5 @xR)) @hf @vx @hcm @hE @hE0 oT oT
 ·have e:iz m o x=false:=by
   rw[dA];intro g;simp[iz]at g;exact h ⟨g.1.1.1.1.1.1,g.1.1.1.1.1.2,g.1.1.1.1.2,g.1.1.1.2,g.1.1.2,g.1.2⟩
  rw[e]
  by_cases v1:aa m=true<;>by_cases v2:aa o=true<;>by_cases v3:aa x=true
  ·rw[v1,v2]at hf;rw[v3]at vx;rw[v3,v1]at hcm
   by_cases h4:o=[]
   ·subst h4;refine eW call231 func231 ?_;exact wq @nn @hf @vx
   ·have e4:(o==([]:Bytes))=false:=by simpa using h4
    by_cases h5:x=[]
    ·subst h5;refine eW call231 func231 ?_;exact wq (aN @nn @e4) @hf @vx
    ·have e5:(x==([]:Bytes))=false:=by simpa using h5
     have hge:bK (num x) (num m)>=0:=by rw[xY];exact DF fun g=>h ⟨v1,v2,v3,h4,h5,g⟩
     refine eW call231 func231 ?_;exact zW (aN @e4 @e5) @hf @vx @hcm oT
  all_goals simp only[Dx]at v1 v2 v3
  all_goals simp only[v1,v2,js,qF,dW,cB,fp]at hf
  all_goals simp only[v3]at vx
  ·refine eW call231 func231 ?_;exact z2 @hf @vx
  ·refine eW call231 func231 ?_;exact z2 @hf @vx
  ·refine eW call231 func231 ?_;exact z2 @hf @vx
  ·refine eW call231 func231 ?_;exact z2 @hf @vx
  ·refine eW call231 func231 ?_;exact z2 @hf @vx
  ·refine eW call231 func231 ?_;exact z2 @hf @vx
  ·refine eW call231 func231 ?_;exact z2 @hf @vx
theorem EW {m:Bytes} (lm:m.length<=8) (o x:Bytes):aF 153 [G m o, .s x] (.b (iz m o x&& !(x==[1]))):=by
 have h:=EX lm o x;generalize iz m o x=z at*;refine eW call153 func153 ?_;exact Sp @h
def Bm (m:Bytes):Int:=if !aa m then 3 else if dH m []then 0 else 13
theorem rG (m:Bytes):aF 83 [G m []] (E (Bm m)):=by
 have hv:=aD m;have hv0:=aD [];rw[show aa []=true from rfl]at hv0
 by_cases h:aa m=true
 ·have hb:=xz h 0 oC;have hcm:=lY m [8];rw[h]at hv;rw[h,show aa [8]=true from rfl,show num [8]=8 from rfl]at hcm
  have he:bK (num m) 8<=0↔ ¬8<num m:=by unfold bK;split<;>(try split)<;>omega
  have e:Bm m=if(num m).testBit 0&&decide (8<num m)then 0 else 13:=by simp[Bm,dH,h]
  rw[e];clear e;generalize (num m).testBit 0=tb at*;refine eW call83 func83 ?_;exact O4 @nn @hv @hv0 @hb @Zk @hcm oT oT
 ·have h:aa m=false:=by simpa using h
  rw[h]at hv;have e:Bm m=3:=by simp[Bm,h]
  rw[e];refine eW call83 func83 ?_;exact z1 @hv
theorem E7 {m:Bytes} (lm:m.length<=8) (x:Bytes):aF 156 [G m [], .s x] (.b (cL m [] x)):=by
 have h:=CH lm [] x;refine eW call156 func156 ?_;exact ot @nn @h
theorem KM {m o x:Bytes} (h:cL m o x=true):dH m o=true:=by
 simp only[cL,aV]at h;exact h.1.1.1.1
theorem VS {m:Bytes}:Bm m=0↔dH m []=true:=by
 unfold Bm;constructor
 ·intro h;split at h
  ·cases h
  ·split at h
   ·assumption
   ·cases h
 ·intro h;have:aa m=true:=by simp[dH]at h;exact h.1.1
  simp[this,h]
theorem zf {m:Bytes} (lm:m.length<=8) (x:Bytes):aF 84 [G m [], .s x] (.b (cL m [] x)):=by
 have h1:=rG m;have h2:=E7 lm x
 by_cases h0:Bm m=0
 ·rw[h0]at h1;refine eW call84 func84 ?_;exact O5 @h1 @h2
 ·have e:cL m [] x=false:=by
   rw[dA];intro g;exact h0 (VS.2 (KM g))
  rw[e];generalize Bm m=z at*;refine eW call84 func84 ?_;exact Sp @h1
end Go.Proofs.Tryz
namespace Go.Proofs.Tryz
open Go Go.Dom Go.Num
structure cz where
 (c sl mm mo mg mh wm wo wg wh se at' ha el es bl ma:Bytes)
def cz.pv (p:cz):PV:= .agg [.s p.c, .s p.sl, .s p.mm, .s p.mo, .s p.mg, .s p.mh, .s p.wm, .s p.wo, .s p.wg, .s p.wh, .s p.se, .s p.at', .s p.ha, .s p.el, .s p.es, .s p.bl, .s p.ma]
def cz.eA (p:cz):List Bytes:=[p.c,p.sl,p.se,p.at',p.ha,p.el,p.es,p.bl,p.ma,p.mm,p.mo,p.mg,p.mh,p.wm,p.wo,p.wg,p.wh]
theorem yU (p:cz):aF 149 [p.pv] (.sl (p.eA.map .s)):=by
 obtain⟨c,sl,mm,mo,mg,mh,wm,wo,wg,wh,se,at',ha,el,es,bl,ma⟩:=p;unfold cz.pv cz.eA;simp only;refine eW call149 func149 ?_;repeat' first|simp only[go_sem,seval,iq,iW]|(refine aj ?_)|refine oE ?_|apply xX<;>intro hc
 rfl
theorem Jb {p:cz} (lw:p.wm.length<=8) (x:Bytes):aF 150 [.s x, .pt p.pv 0, .pt (.agg [.s [1]]) 0] (.b (cL p.wm p.wo x&& !(x==[1]))):=by
 have h:=CH lw p.wo x;unfold cz.pv;generalize cL p.wm p.wo x=z at*;refine eW call150 func150 ?_;exact Sp @h
def cz.short (p:cz):Prop:= ∀x∈p.eA,x.length<=8
def cz.rO (p:cz):List Bytes:=[p.c,p.sl,p.se,p.at',p.ha,p.el,p.es,p.bl,p.ma]
def fB (p:cz):Int:=if p.eA.all aa then
  (if ud p.mm p.mo≠0\/ !(iz p.mm p.mo p.mg&& !(p.mg==[1]))\/ !(iz p.mm p.mo p.mh&& !(p.mh==[1]))\/ !(cL p.wm p.wo p.wg&& !(p.wg==[1]))\/ !(cL p.wm p.wo p.wh&& !(p.wh==[1]))then 13
   else if p.rO.any (fun x=>decide (num x<2))then 2
   else if num p.at'*8>num p.mo\/num p.c>num p.mo\/num p.se>num p.mo then 2 else 0)else 3
theorem mi {x:Bytes} (h:aa x=true):aF 39 [.s x, .s [2]] (E (bK (num x) 2)):=by
 have:=lY x [2]
 rwa[h,show aa [2]=true from rfl,show num [2]=2 from rfl]at this
theorem jZ {x y:Bytes} (h:aa x=true) (g:aa y=true):aF 39 [.s x, .s y] (E (bK (num x) (num y))):=by
 have:=lY x y
 rwa[h,g]at this
theorem Ut (a b:Nat):(bK a b<0)=(a<b):=by rw[eq_iff_iff];exact ji
theorem Us (a b:Nat):(bK a b>0)=(b<a):=by
 unfold bK;rw[eq_iff_iff];split<;>(try split)<;>omega
theorem VB (p:cz) (h:p.eA.all aa=false):aF 80 [p.pv] (E 3):=by
 have hn:=yU p;obtain⟨c,sl,mm,mo,mg,mh,wm,wo,wg,wh,se,at',ha,el,es,bl,ma⟩:=p;unfold cz.pv cz.eA at*;simp only[br,bH]at*;refine eW call80 func80 ?_;repeat' first|simp only[go_sem,seval,iq,iW]|refine cP hn ?_|refine cP (aD _) ?_|(refine aj ?_)|refine oE ?_|apply xX<;>intro hc
 exfalso
 simp_all
theorem Ri (p:cz) (h:p.eA.all aa=true) (hs:p.short):aF 80 [p.pv] (E (fB p)):=by
 have hn:=yU p;have lw:p.wm.length<=8:=hs _ (by simp[cz.eA])
 have lm:p.mm.length<=8:=hs _ (by simp[cz.eA])
 have la:p.at'.length<=8:=hs _ (by simp[cz.eA])
 have u1:=Jb lw p.wg;have u2:=Jb lw p.wh;have c1:=GS p.mm p.mo;have c2:=EW lm p.mo p.mg;have c3:=EW lm p.mo p.mh;unfold fB;rw[h];generalize (cL p.wm p.wo p.wg&& !(p.wg==[1]))=b1 at*;generalize (cL p.wm p.wo p.wh&& !(p.wh==[1]))=b2 at*;generalize (iz p.mm p.mo p.mg&& !(p.mg==[1]))=b3 at*;generalize (iz p.mm p.mo p.mh&& !(p.mh==[1]))=b4 at*;generalize ud p.mm p.mo=e1 at*;clear hs;obtain⟨c,sl,mm,mo,mg,mh,wm,wo,wg,wh,se,at',ha,el,es,bl,ma⟩:=p;unfold cz.pv cz.eA cz.rO at*;simp only[br,bH,List.all_cons,List.all_nil,aV,js]at*;obtain⟨h1,h2,h3,h4,h5,h6,h7,h8,h9,h10,h11,h12,h13,h14,h15,h16,h17⟩:=h;have v1:=aD c;have v2:=aD sl;have v3:=aD se;have v4:=aD at';have v5:=aD ha;have v6:=aD el;have v7:=aD es;have v8:=aD bl;have v9:=aD ma;have v10:=aD mm;have v11:=aD mo;have v12:=aD mg;have v13:=aD mh;have v14:=aD wm;have v15:=aD wo;have v16:=aD wg;have v17:=aD wh;rw[h1]at v1;rw[h2]at v2;rw[h3]at v3;rw[h4]at v4;rw[h5]at v5;rw[h6]at v6;rw[h7]at v7;rw[h8]at v8;rw[h9]at v9;rw[h10]at v10;rw[h11]at v11;rw[h12]at v12;rw[h13]at v13;rw[h14]at v14;rw[h15]at v15;rw[h16]at v16;rw[h17]at v17;have d1:=mi h1;have d2:=mi h2;have d3:=mi h3;have d4:=mi h4;have d5:=mi h5;have d6:=mi h6;have d7:=mi h7;have d8:=mi h8;have d9:=mi h9;have hm8:aF 154 [.s at', .s [8]] (.tup [N (num at'*8),E 0]):=by
  have:=BH at' [8];have hl:num at'*8<dP:=ba (show num at'*8<(2^64)*8 by have:=cU la;omega) (by unfold dP;decide+kernel)
  simpa only[nC,h4,show aa [8]=true from rfl,dW,aA,show num [8]=8 from rfl,hl]using this
 have hv8:aa (aZ (num at'*8))=true:=kx (ba (show num at'*8<(2^64)*8 by have:=cU la;omega) (by decide+kernel))
 have f1:=jZ hv8 h11;rw[aP]at f1;have f2:=jZ h1 h11;have f3:=jZ h3 h11;generalize num at'*8=t8 at*;clear hv8 h1 h2 h3 h4 h5 h6 h7 h8 h9 h10 h11 h12 h13 h14 h15 h16 h17;refine eW call80 func80 ?_;repeat' first|simp only[go_sem,seval,iq,iW,Ut,Us]|refine cP hn ?_|refine cP v1 ?_|refine cP v2 ?_|refine cP v3 ?_|refine cP v4 ?_|refine cP v5 ?_|refine cP v6 ?_|refine cP v7 ?_|refine cP v8 ?_|refine cP v9 ?_|refine cP v10 ?_|refine cP v11 ?_|refine cP v12 ?_|refine cP v13 ?_|refine cP v14 ?_|refine cP v15 ?_|refine cP v16 ?_|refine cP v17 ?_|refine cP xI ?_|refine cP Wt ?_|refine cP Zk ?_|refine cP c1 ?_|refine cP c2 ?_|refine cP c3 ?_|refine cV u1 ?_|refine cV u2 ?_|refine cP d1 ?_|refine cP d2 ?_|refine cP d3 ?_|refine cP d4 ?_|refine cP d5 ?_|refine cP d6 ?_|refine cP d7 ?_|refine cP d8 ?_|refine cP d9 ?_|refine cP hm8 ?_|refine cP f1 ?_|refine cP f2 ?_|refine cP f3 ?_|(refine aj ?_)|refine oE ?_|apply xX<;>intro hc
 all_goals clear hn u1 u2 c1 c2 c3 v1 v2 v3 v4 v5 v6 v7 v8 v9 v10 v11 v12 v13 v14 v15 v16 v17 d1 d2 d3 d4 d5 d6 d7 d8 d9 hm8 f1 f2 f3
 all_goals first|(simp_all;done)|(simp_all;omega)
def uo (i:Nat) (c:Int):Bool:= !((decide (c>=97)&&decide (c<=122))||(decide (c>=65)&&decide (c<=90)))&&(((i:Int)==0)||((c !=95)&&(decide (c<48)||decide (c>57))))
def JL (n:Bytes) (i:Nat):Int:=((n.getD i 0).toNat:Int)
def mB (n:Bytes):Bool:=(List.range n.length).all (fun i=> !uo i (JL n i))&& !(n==[])&&decide (n.length<=32)
theorem Kc (n:Bytes) (hn:n.length<=60):aF 82 [.s n] (.b (mB n)):=by
 refine eW call82 func82 ?_;refine Hw ?_;refine aq (α:=Nat) (fun i=>n.length-i) (fun i=>⟨[(0, .v (.s n)),(7, .v (.i .i64 n.length)),(8, .v (.i .i64 (i:Nat)))],[],_⟩) (fun i=>i<=n.length/\ ∀j,j<i->uo j (JL n j)=false) 0 (fun _=>aB _) ⟨aT _,fun j hj=>oO⟩ ?_ ?_
 ·exact lE
 ·rintro i ⟨hi,ha⟩ R hR
  by_cases hlt:i<n.length
  ·have hlt':(i:Int)<n.length:=oO;have hbad:uo i (JL n i)=true->mB n=false:=by
    intro h;unfold mB;have:(List.range n.length).all (fun i=> !uo i (JL n i))=false:=by
     rw[dA];intro g;have:=bJ.1 g i (fE.2 hlt);rw[h]at this;cases this
    rw[this];rfl
   have hgo:uo i (JL n i)=false-> ∀s',(AS.mk [(0, .v (.s n)),(7, .v (.i .i64 n.length)),(8, .v (.i .i64 ((i+1:Nat):Int)))] [] 1004).Le s'->R s':=by
    intro h s' hs;refine hR (i+1) ⟨oO,fun j hj=> ?_⟩ oO s' hs
    by_cases e:j=i
    ·subst e;exact h
    ·exact ha j oO
   clear hR ha;obtain⟨c,hcc⟩: ∃c,JL n i=c:=⟨_,rfl⟩;have hcd:((n.getD i 0).toNat:Int)=c:=hcc;have h0:0<=c/\c<256:=by rw[<-hcd];have:=(n.getD i 0).toNat_lt;omega
   rw[hcc]at hbad hgo;unfold uo at hbad hgo;obtain⟨b1,h1⟩: ∃b,decide (c>=97)=b:=⟨_,rfl⟩;obtain⟨b2,h2⟩: ∃b,decide (c<=122)=b:=⟨_,rfl⟩;obtain⟨b3,h3⟩: ∃b,decide (c>=65)=b:=⟨_,rfl⟩;obtain⟨b4,h4⟩: ∃b,decide (c<=90)=b:=⟨_,rfl⟩;obtain⟨b5,h5⟩: ∃b,((i:Int)==0)=b:=⟨_,rfl⟩;obtain⟨b6,h6⟩: ∃b,(c !=95)=b:=⟨_,rfl⟩;obtain⟨b7,h7⟩: ∃b,decide (c<48)=b:=⟨_,rfl⟩;obtain⟨b8,h8⟩: ∃b,decide (c>57)=b:=⟨_,rfl⟩;rw[h1,h2,h3,h4,h5,h6,h7,h8]at hbad hgo;have e1:decide ((i:Int)<(n.length:Int))=true:=aS hlt';repeat' first|simp only[go_sem,seval,hcd,h1,h2,h3,h4,h5,h6,h7,h8,e1]|refine oE ?_|apply xX<;>intro hc
   all_goals clear h1 h2 h3 h4 h5 h6 h7 h8 hcd hcc h0
   all_goals try simp only[dC,xo]at*
   all_goals subst_vars
   all_goals first
     |(refine hgo rfl _ ?_;(refine AS.Le.of (by first|decide|omega) ?_ ?_<;>simp[dG,dF,aO,hget,AV.bd,AV.bd.bdL,u8,ar,au,az]);done)
     |(rw[hbad rfl];done)
     |(cases b6<;>first|(simp at hc;done)|(refine hgo rfl _ ?_;(refine AS.Le.of (by first|decide|omega) ?_ ?_<;>simp[dG,dF,aO,hget,AV.bd,AV.bd.bdL,u8,ar,au,az]);done)|(rw[hbad rfl];done)|fail)
     |fail
  ·obtain rfl:i=n.length:=oO;have e:mB n=(!(n==[])&&decide (n.length<=32)):=by
    unfold mB;have:(List.range n.length).all (fun i=> !uo i (JL n i))=true:=by
     rw[bJ];intro j hj;rw[ha j (fE.1 hj)];rfl
    rw[this,cB]
   rw[e];have e2:decide ((n.length:Int)<=32)=decide (n.length<=32):=by rw[jm];omega
   clear ha hR e;exact zs0
end Go.Proofs.Tryz
namespace Go.Num
theorem Zr:((List.range 13108).all fun n=> !eZ n||(List.range' 2 113).all fun d=>n%d !=0||n==d)=true:=by decide+kernel
theorem Ju {n:Nat} {p:Nat->Bool} (h:(List.range n).all p=true) {x:Nat} (hx:x<n):p x=true:=bJ.1 h x (fE.2 hx)
theorem FZ {n:Nat} (h:eZ n=true):2<=n:=by
 rcases ij n 2 with g|g
 ·simp[eZ,g]at h
 ·exact g
theorem rZ {n:Nat} (h:eZ n=true) (hn:n<13108):Pr n:=by
 have h2:=FZ h;refine⟨h2,fun d hd=> ?_⟩
 have key: ∀d,2<=d->d<115->d∣n->n=d:=by
  intro d h1 h3 hd;have:=Ju Zr hn;simp only[h,cQ,kE]at this;have:=bJ.1 this d (by simp[List.mem_range'_1];omega)
  simpa[Nat.mod_eq_zero_of_dvd hd]using this
 obtain⟨e,he⟩:=hd;rcases ij d 2 with g|g
 ·have:d≠0:=fun h0=>by subst h0;simp at he;omega
  exact .inl (by omega)
 ·rcases ij d 115 with g2|g2
  ·exact .inr (key d g g2 ⟨e,he⟩).symm
  ·have he2:e<115:=by
    rcases ij e 115 with g3|g3
    ·exact g3
    ·have:=jq g2 g3;omega
   rcases ij e 2 with g3|g3
   ·have:e≠0:=fun h0=>by subst h0;simp at he;omega
    obtain rfl:e=1:=by omega
    exact .inr (by omega)
   ·have:=key e g3 he2 ⟨d,by rw[he,bw]⟩
    have:2*e<=d*e:=cK e g;omega
structure Safe (P:Nat):Prop where
 ge:5<=P
 pr:Pr P
 hp:Pr ((P-1)/2)
 two:P=2*((P-1)/2)+1
theorem fQ {P:Nat} (h:fD P=true):5<=P:=by
 simp only[fD,aV]at h;have:=FZ h.2;omega
theorem GV {p q:Nat} (hp:Pr p) (hq:Pr q) (hne:p≠q):Nat.Coprime p q:=by
 refine hq.SF fun hd=> ?_
 rcases hp.2 q hd with e|e
 ·have:=hq.1;omega
 ·exact hne e.symm
