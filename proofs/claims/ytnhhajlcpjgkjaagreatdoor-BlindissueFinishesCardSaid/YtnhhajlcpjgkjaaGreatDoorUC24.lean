/- Part of the proof. -/
import Derived.Test.YtnhhajlcpjgkjaaGreatDoorUC22
set_option linter.all false
set_option maxHeartbeats 4000000
set_option maxRecDepth 100000
namespace Go.Num
def Pr (n:Nat):Prop:=2<=n/\ ∀d,d∣n->d=1\/d=n
theorem Pr.RF {p a:Nat} (h:Pr p) (ha: ¬p∣a):Nat.Coprime a p:=by
 rcases h.2 _ (Nat.gcd_dvd_right a p)with e|e
 ·exact e
 ·exact aM (e▸Nat.gcd_dvd_left a p) ha
def cz:List Nat:=[2,3,5,7,11,13,17,19,23,29,31,37]
def Fc:Nat->Nat->Nat
 |0,_=>0
 |f+1,n=>if n%2=1 then 0 else Fc f (n/2)+1
def Sb:Nat->Nat->Nat->Bool
 |0,_,_=>false
 |k+1,x,n=>x*x%n==n-1||Sb k (x*x%n) n
def nB (n s d a:Nat):Bool:=(a%n)^d%n==1||(a%n)^d%n==n-1||Sb (s-1) ((a%n)^d%n) n
def fL (n:Nat):Bool:=
 if n<2 then false else
 match cz.find? fun p=>n%p==0 with
 |some p=>n==p
 |none=>cz.all fun a=>nB n (Fc 64 (n-1)) ((n-1)/2^Fc 64 (n-1)) a
def vd (n:Nat) (s:Int):Int:=if n%8=3\/n%8=5 then-s else s
def u9 (a n:Nat) (s:Int):Int:=if a%4=3/\n%4=3 then-s else s
def qL:Nat->Nat->Nat->Int->Int
 |0,_,_,_=>0
 |f+1,a,n,s=>if a=0 then(if n=1 then s else 0)else if a%2=0 then qL f (a/2) n (vd n s)else qL f (n%a) a (u9 a n s)
def TY (a n:Nat):Int:=qL (a%n+1) (a%n) n 1
theorem Ax {f g a n:Nat} {s:Int} (hf:a<f) (hg:a<g):qL f a n s=qL g a n s:=by
 induction f generalizing g a n s with
 |zero=>omega
 |succ f ih=>
  obtain⟨g,rfl⟩: ∃k,g=k+1:=⟨g-1,by omega⟩
  simp only[qL]
  by_cases h0:a=0
  ·simp[h0]
  ·rw[af h0,af h0];split
   ·exact ih (by omega) (by omega)
   ·have:n%a<a:=aP _ (by omega)
    exact ih (by omega) (by omega)
def um (n:Nat):Bool:=fL n&&fL ((n-1)/2)
end Go.Num
namespace Go.Proofs.Tryz
open Go Go.Dom Go.Num
def Rz:List PV:=cz.map fun p:Nat=> .i .u64 (p:Int)
theorem Gj:aE 393 [] (.agg Rz):=by
 refine eW call393 func393 ?_;repeat' first|simp only[go_sem,seval]|refine oE ?_|apply xX<;>intro hc
 rfl
theorem yF {a b m:Nat} (ha:a<m) (hb:b<m) (hm:m<(2^64)):aE 396 [.i .u64 a, .i .u64 b, .i .u64 m] (.i .u64 (a*b%m:Nat)):=by
 have h1:=sh a b oO oO;have hp:a*b<m*(2^64):=b9 (Nat.mul_lt_mul_of_lt_of_le ha (j3 hb) oO) (kS m oO);have h2:a*b/(2^64)<m:=(im oC).2 hp;have h3:=Dm (a*b/(2^64)) (a*b%(2^64)) m h2 (aP _ oC) hm;have e:a*b/(2^64)*(2^64)+a*b%(2^64)=a*b:=oO;rw[e]at h3;refine eW call396 func396 ?_;exact z2 @h1 @h3
theorem H7 (b k m:Nat):(b*b%m)^(k/2)%m=b^(2*(k/2))%m:=by rw[<-iR,<-Nat.pow_two,<-jA]
theorem MO {x b k m:Nat} (h:k%2=1):x*b%m*(b*b%m)^(k/2)%m=x*b^k%m:=by
 rw[cC,H7,ew,<-cC,cA,<-wP];congr 3;omega
theorem H6 {x b k m:Nat} (h:k%2=0):x*(b*b%m)^(k/2)%m=x*b^k%m:=by
 rw[cC,H7,<-cC];congr 3;omega
theorem MU {a e m:Nat} (ha:a<m) (he:e<(2^64)) (hm:m<(2^64)):aE 395 [.i .u64 a, .i .u64 e, .i .u64 m] (.i .u64 (a^e%m:Nat)):=by
 refine eW call395 func395 ?_;refine qY ?_;refine ak (α:=Nat×Nat×Nat) (fun x=>x.2.1) (fun x=>⟨[(0,U x.1),(1,U x.2.1),(2,U m),(7,U x.2.2)],[],_⟩) (fun x=>x.1<m/\x.2.1<(2^64)/\x.2.2<m/\x.2.2*x.1^x.2.1%m=a^e%m) (a,e,1%m) (fun _=>aD _) ⟨ha,he,aP _ oO,by show 1%m*a^e%m= _;rw[cC,ew,<-cC,iv]⟩ ?_ ?_
 ·(refine AS.Le.of (by first|decide|omega) ?_ ?_<;>simp[dA,dz,aS,aB,AV.bd,AV.bd.bdL,u8,aq,au,aA])
  rfl
 ·rintro⟨b,k,x⟩ ⟨h1,h2,h3,h4⟩ R hR;simp only at h1 h2 h3 h4;have hs:=yF h1 h1 hm;have hx:=yF h3 h1 hm;have hk:k/2<(2^64):=oO;repeat' first|simp only[go_sem,seval,uw,bw hk]|refine cP hs ?_|refine cP hx ?_|refine oE ?_|apply xX<;>intro hc
  ·refine hR (b*b%m,k/2,x*b%m) ⟨aP _ oO,hk,aP _ oO,?_⟩ (by show k/2<k;omega) _ ?_
   ·show x*b%m*(b*b%m)^(k/2)%m= _;rw[MO oO,h4]
   ·exact lE
  ·refine hR (b*b%m,k/2,x) ⟨aP _ oO,hk,h3,?_⟩ (by show k/2<k;omega) _ ?_
   ·show x*(b*b%m)^(k/2)%m= _;rw[H6 oO,h4]
   ·exact lE
  ·obtain rfl:k=0:=oO;rw[<-h4,Nat.pow_zero,dK,bw h3]
theorem Si: ∀f x,Lib.ctzFrom f x=Fc f x
 |0,x=>rfl
 |f+1,x=>by simp only[Lib.ctzFrom,Fc,Si f (x/2)];split<;>omega
theorem WK {i:Nat} (h:i<12):(List.map AV.v Rz).getD i .u=U (cz.getD i 0):=by
 have: ∀i:Fin 12,(List.map AV.v Rz).getD i.val .u=U (cz.getD i.val 0):=by
  intro i;rcases i with⟨i,hi⟩
  have h2:i<cz.length:=hi;simp[Rz,ca,h2]
 exact this ⟨i,h⟩
theorem Pj {i:Nat} (h:i<12):0<cz.getD i 0/\cz.getD i 0<38:=by
 have: ∀i:Fin 12,0<cz.getD i.val 0/\cz.getD i.val 0<38:=by decide
 exact this ⟨i,h⟩
theorem Hk {i:Nat} (h:i<12):cz.drop i=cz.getD i 0::cz.drop (i+1):=by
 have h2:i<cz.length:=h;rw[jt h2,ca,bZ h2];rfl
theorem B9 {n:Nat} (hn:n<(2^64)):aE 272 [.i .u64 n] (.b (fL n)):=by
 by_cases h2:n<2
 ·have e:fL n=false:=by simp[fL,h2]
  rw[e];refine eW call272 func272 ?_;exact z0
 have hb:=Gj;have hL:(List.map AV.v Rz).length=12:=rfl;refine eW call272 func272 ?_;refine Z0 @hb ?_;refine ak (α:=Nat) (fun i=>12-i) (fun i=>⟨[(0,U n),(13, .v (.agg Rz)),(14,E' i)],[],_⟩) (fun i=>i<=12/\cz.find? (fun p=>n%p==0)=(cz.drop i).find? (fun p=>n%p==0)) 0 (fun _=>aD _) ⟨oO,rfl⟩ ?_ ?_
 ·exact lE
 ·rintro i ⟨hi,hf⟩ R hR
  by_cases hlt:i<12
  ·have g1:=WK hlt;obtain⟨q0,q1⟩:=Pj hlt;rw[Hk hlt]at hf;generalize cz.getD i 0=q at*;repeat' first|simp only[go_sem,seval,g1,hL]|refine oE ?_|apply xX<;>intro hc
   ·have hz:(n%q==0)=true:=by rw[fV];omega
    rw[List.find?_cons,hz]at hf;unfold fL;rw[af h2,hf];congr 1;rw[dk];simp only[fV];omega
   ·have hz:(n%q==0)=false:=by rw[ey];omega
    rw[List.find?_cons,hz]at hf;refine hR (i+1) ⟨oO,hf⟩ oO _ ?_;exact lE
  ·obtain rfl:i=12:=oO;have hf:cz.find? (fun p=>n%p==0)=none:=hf
   obtain⟨s,hs⟩: ∃s,s=Fc 64 (n-1):=⟨_,rfl⟩;obtain⟨d,hd⟩: ∃d,d=(n-1)/2^s:=⟨_,rfl⟩;have hz:=q9 (n-1) oO oO;have hs64:=(Lib.lowest_bit 64 (n-1) oO (by show n-1<(2^64);omega)).2
   have hzs:Lib.ctz 64 (n-1)=s:=by rw[Lib.ctz,af oO,Si,hs]
   rw[hzs]at hz hs64;have hdl:d<(2^64):=by rw[hd];exact eu (eT _ _) oO
   have e1: ∀ _:True,((n:Int)-1)=((n-1:Nat):Int):=fun _=>oO
   have e2: ∀ _:True,(if s<=64 then s else 64)=s:=fun _=>by split<;>omega
   have e3: ∀ _:True,(n-1)/2^s=d:=fun _=>hd.symm
   have key:fL n=cz.all (nB n s d):=by
    unfold fL;rw[af h2,hf,<-hs,<-hd]
   rw[key];clear key hf hzs hs hd;refine G4 (aN (e1 oT) (aN (e2 oT) (e3 oT))) @hz @hb ?_;refine ak (α:=Nat) (fun i=>12-i) (fun i=>⟨[(0,U n),(5,E' s),(6,U d),(32, .v (.agg Rz)),(33,E' i)],[],_⟩) (fun i=>i<=12/\cz.all (nB n s d)=(cz.drop i).all (nB n s d)) 0 (fun _=>aD _) ⟨oO,rfl⟩ ?_ ?_
   ·exact lE
   ·rintro i ⟨hi,hf⟩ R hR
    by_cases hlt:i<12
    ·have g1:=WK hlt;obtain⟨q0,q1⟩:=Pj hlt;rw[Hk hlt,List.all_cons]at hf;have hR1:=hR (i+1);generalize cz.getD i 0=q at*;have hq:q%n<n:=aP _ oO;have hp:=MU hq hdl hn;obtain⟨x,hx⟩: ∃x,x=(q%n)^d%n:=⟨_,rfl⟩;have hxl:x<n:=by rw[hx];exact aP _ oO
     have hst:nB n s d q=(x==1||x==n-1||Sb (s-1) x n):=by rw[hx];rfl
     rw[<-hx]at hp;clear hx;repeat' first|simp only[go_sem,seval,g1,hL,e1 oT]|refine cP hp ?_|refine oE ?_|apply xX<;>intro hc
     ·have hx1:x=1:=oO;refine hR1 ⟨oO,by rw[hf,hst,hx1];simp⟩ oO _ ?_
      exact lE
     ·have hx1:x=n-1:=oO;refine hR1 ⟨oO,by rw[hf,hst,hx1];simp⟩ oO _ ?_
      exact lE
     ·have hx1:(x==1)=false:=by rw[ey];omega
      have hx2:(x==n-1)=false:=by rw[ey];omega
      rw[hx1,hx2,jx,jx]at hst;refine ak (α:=Nat×Nat) (fun z=>s-z.1) (fun z=>⟨[(0,U n),(5,E' s),(6,U d),(32, .v (.agg Rz)),(33,E' i),(9,U z.2),(10,E' z.1)],[],_⟩) (fun z=>1<=z.1/\z.2<n/\Sb (s-z.1) z.2 n=Sb (s-1) x n) (1,x) (fun _=>aD _) ⟨aD 1,hxl,rfl⟩ ?_ ?_
      ·exact lE
      ·rintro⟨j,y⟩ ⟨hj,hy,hz⟩ R' hR';simp only at hj hy hz;have hm:=yF hy hy hn;obtain⟨w,hw⟩: ∃w,w=y*y%n:=⟨_,rfl⟩;have hwl:w<n:=by rw[hw];exact aP _ oO
       have hz':j<s->(w==n-1||Sb (s-(j+1)) w n)=Sb (s-1) x n:=by
        intro g;rw[<-hz,show s-j=s-(j+1)+1 by omega,hw];rfl
       rw[<-hw]at hm;clear hw;repeat' first|simp only[go_sem,seval,e1 oT]|refine cP hm ?_|refine oE ?_|apply xX<;>intro hc
       ·have hw1:w=n-1:=oO;have:=hz' oO;rw[hw1,fW,nk]at this;refine hR1 ⟨oO,by rw[hf,hst,<-this,cj]⟩ oO _ ?_
        exact lE
       ·have hw1:(w==n-1)=false:=by rw[ey];omega
        have:=hz' oO;rw[hw1,jx]at this;refine hR' (j+1,w) ⟨by show 1<=j+1;omega,hwl,this⟩ (by show s-(j+1)<s-j;omega) _ ?_
        exact lE
       ·rw[hf,hst,<-hz,show s-j=0 by omega];rfl
    ·obtain rfl:i=12:=oO;refine vP ?_;rw[hf];rfl
theorem yG (a:Bytes):aE 271 [.s a] (.tup [.i .u64 (if aa a&&decide (a.length<=8)then num a else 0),E (if aa a then(if a.length<=8 then 0 else 5)else 3)]):=by
 have hs:=nG a;have hv:=aG a;refine eW call271 func271 ?_;repeat' first|simp only[go_sem,seval]|refine cP hv ?_|refine cP hs ?_|refine oE ?_|apply xX<;>intro hc
 all_goals (simp_all<;>omega)
def dE (a:Bytes):Int:=if aa a then(if a.length<=8 then 0 else 5)else 3
theorem qi (a:Bytes):aE 139 [.s a] (.tup [.b (aa a&&decide (a.length<=8)&&fL (num a)),E (dE a)]):=by
 have hs:=yG a
 by_cases h:aa a=true/\a.length<=8
 ·obtain⟨h1,h2⟩:=h;have e:dE a=0:=by simp[dE,h1,h2]
  rw[h1,aV h2]at hs;have hi:=B9 (dO h2);rw[h1,aV h2,e];refine eW call139 func139 ?_;repeat' first|simp only[go_sem,seval,az,ah h2]|refine cP hs ?_|refine cP hi ?_|refine oE ?_|apply xX<;>intro hc
  all_goals skip
 ·have h0:(aa a&&decide (a.length<=8))=false:=by
   rw[dy];intro g;simp at g;exact h g
  have e:dE a≠0:=by
   unfold dE;split
   ·rename_i g;rw[af (fun g2=>h ⟨g,g2⟩)];decide
   ·decide
  rw[h0]at hs⊢;have e2:(if aa a then(if a.length<=8 then(0:Int)else 5)else 3)=dE a:=rfl
  rw[e2]at hs;refine eW call139 func139 ?_;repeat' first|simp only[go_sem,seval]|refine cP hs ?_|refine oE ?_|apply xX<;>intro hc
  all_goals skip
theorem AK (a:Bytes):aE 405 [.s a] (.tup [.b (aa a&&decide (a.length<=8)&&um (num a)),E (dE a)]):=by
 have hs:=yG a
 by_cases h:aa a=true/\a.length<=8
 ·obtain⟨h1,h2⟩:=h;have e:dE a=0:=by simp[dE,h1,h2]
  rw[h1,aV h2]at hs;have hn:=dO h2;have hi:=B9 hn;have hj:=B9 (n:=(num a-1)/2) oO;rw[h1,aV h2,e]
  by_cases h0:fL (num a)=true
  ·have hp:2<=num a:=by
    rcases iN (num a) 2 with g|g
    ·simp[fL,g]at h0
    ·exact g
   have e1: ∀ _:True,((num a:Int)-1)=((num a-1:Nat):Int):=fun _=>oO
   have e3:(num a-1)/2%(2^64)=(num a-1)/2:=bw oO;have e4:(num a-1)%(2^64)=num a-1:=bw oO;rw[h0]at hi;refine eW call405 func405 ?_;repeat' first|simp only[go_sem,seval,az,ah h2,e1 oT,uw,e4,e3]|refine cP hs ?_|refine cP hi ?_|refine cP hj ?_|refine oE ?_|apply xX<;>intro hc
   all_goals simp[um,h0]
  ·have h0:fL (num a)=false:=by simpa using h0
   rw[h0]at hi;refine eW call405 func405 ?_;repeat' first|simp only[go_sem,seval,az,ah h2]|refine cP hs ?_|refine cP hi ?_|refine oE ?_|apply xX<;>intro hc
   all_goals simp[um,h0]
 ·have h0:(aa a&&decide (a.length<=8))=false:=by
   rw[dy];intro g;simp at g;exact h g
  have e:dE a≠0:=by
   unfold dE;split
   ·rename_i g;rw[af (fun g2=>h ⟨g,g2⟩)];decide
   ·decide
  rw[h0]at hs⊢;have e2:(if aa a then(if a.length<=8 then(0:Int)else 5)else 3)=dE a:=rfl
  rw[e2]at hs;refine eW call405 func405 ?_;repeat' first|simp only[go_sem,seval]|refine cP hs ?_|refine oE ?_|apply xX<;>intro hc
  all_goals skip
end Go.Proofs.Tryz
namespace Go.Proofs.Tryz
open Go Go.Dom
def rm (l:List Bytes) (m:Bytes):Int:=if l.all aa&&aa m then(if m=[]then 11 else 0)else 3
theorem FJ (nm:Nat) (a m:Bytes):jD prog 180 nm [] [.fs [.s a], .fs [.s m]] (.v (E (rm [a] m))) []:=by
 refine jD.w mixed call180 func180 rfl (jJ.1 _ _ _ (by cbv)) (jJ.2 _ _ (by cbv)) (obs:=[]) (args:=[.fs [.s a], .fs [.s m]]) (fs:=[]) (j:=none) (nw:=none) (v:= .v (E (rm [a] m))) (ns:=[]) (obsA:=[]) rfl ?_ (by simp) (by simp) rfl rfl (by simp[aW,AV.aU]) (by simp[AV.aU]) (by simp[fC,outs])
 have va:=aG a;have vm:=aG m;simp only[go_sem,seval];repeat' first|simp only[go_sem,seval,true_or,or_true,false_or,or_false,an,iB,eS,gY,ft,fT,eN,pc,pq,gF,ib,dI,aO,AV.aU,AV.aU.renL,aK,gg,gi]|refine cP va ?_|refine cP vm ?_|(refine aj ?_)|refine oE ?_|apply xX<;>intro hc
 all_goals simp_all[rm]
theorem FK (nm:Nat) (a b m:Bytes):jD prog 180 nm [] [.fs [.s a, .s b], .fs [.s m]] (.v (E (rm [a,b] m))) []:=by
 refine jD.w mixed call180 func180 rfl (jJ.1 _ _ _ (by cbv)) (jJ.2 _ _ (by cbv)) (obs:=[]) (args:=[.fs [.s a, .s b], .fs [.s m]]) (fs:=[]) (j:=none) (nw:=none) (v:= .v (E (rm [a,b] m))) (ns:=[]) (obsA:=[]) rfl ?_ (by simp) (by simp) rfl rfl (by simp[aW,AV.aU]) (by simp[AV.aU]) (by simp[fC,outs])
 have va:=aG a;have vb:=aG b;have vm:=aG m;simp only[go_sem,seval];repeat' first|simp only[go_sem,seval,true_or,or_true,false_or,or_false,an,iB,eS,gY,ft,fT,eN,pc,pq,gF,ib,dI,aO,AV.aU,AV.aU.renL,aK,gg,gi]|refine cP va ?_|refine cP vb ?_|refine cP vm ?_|(refine aj ?_)|refine oE ?_|apply xX<;>intro hc
 all_goals simp_all[rm]
theorem Ly {a m:Nat} (ha:a<(2^64)) (hm:m<(2^64)) (h0:0<m):rm [bR a] (bR m)=0:=by
 have:bR m≠[]:=fun h=>by rw[gA]at h;omega
 simp[rm,vN ha,vN hm,this]
theorem DG {a m:Nat} {e:Bytes} (ha:a<(2^64)) (he:aa e=true) (hm:m<(2^64)) (h0:0<m):rm [bR a,e] (bR m)=0:=by
 have:bR m≠[]:=fun h=>by rw[gA]at h;omega
 simp[rm,vN ha,he,vN hm,this]
theorem Fv {a:Nat} (h:a<(2^64)):aE 294 [N a] (.tup [.i .u64 a, .b true]):=by
 have:=nG (bR a);rw[vN h,aV (lN h),aY]at this;exact this
theorem GS {a b m:Nat} (ha:a<(2^64)) (hb:b<(2^64)) (hm:m<(2^64)) (h0:0<m):aE 184 [N a,N b,N m] (N (a*b%m)):=by
 have la:=lN ha;have lb:=lN hb;have lm:=lN hm;have h1:a%m<(2^64):=eu (tA _ _) ha;have h2:b%m<(2^64):=eu (tA _ _) hb;have hq:=sh (a%m) (b%m) h1 h2;have h3:a%m*(b%m)/(2^64)<(2^64):=(im oC).2 (fE h1 h2);have hr:=KG (a%m*(b%m)/(2^64)) (a%m*(b%m)%(2^64)) m h0 h3 (aP _ oC) hm;have e:a%m*(b%m)/(2^64)*(2^64)+a%m*(b%m)%(2^64)=a%m*(b%m):=oO;rw[e,<-cC]at hr;have ho:=pz (a*b%m) (iM (aP _ h0) hm);have sa:=Fv ha;have sb:=Fv hb;have sm:=Fv hm;clear h3 e h1 h2;refine eW call184 func184 ?_;exact z7 @sa @sb @sm @hq @hr @ho oT
theorem kP {a m:Nat} (ha:a<(2^64)) (hm:m<(2^64)) (h0:0<m):aE 182 [N a,N m] (N (a%m)):=by
 refine eW call182 func182 ?_;exact z1 (jf ha hm h0)
theorem Mr {a b m:Nat} (ha:a<(2^64)) (hb:b<(2^64)) (hm:m<(2^64)) (h0:0<m):aE 97 [N a,N b,N m] (.tup [N (a*b%m),E 0]):=by
 have hc:=fun nm=>FK nm (bR a) (bR b) (bR m)
 rw[DG ha (vN hb) hm h0]at hc;refine eW call97 func97 ?_;repeat' first|simp only[go_sem,seval]|(refine bE (hc _) (by simp) ?_)|refine cP (GS ha hb hm h0) ?_|refine oE ?_|apply xX<;>intro hc
theorem Jj (e:Bytes):aE 408 [.s e] (.fc 477 [] [.pt (.agg [.s e]) 0]):=by
 refine eW call408 func408 ?_;exact z0
theorem DM (n:Nat): ∀k,∀y∈FN n k,y.length=1
 |0,y,h=>by cases h
 |k+1,y,h=>by
  rcases cd.1 h with rfl|h
  ·rfl
  ·exact DM n k y h
theorem dJ:(.s [1]:PV)=N 1:=rfl
theorem Sa {a z m:Nat}:a^z%m*(a^z%m)%m=a^(2*z)%m:=by rw[<-cC,<-cY,qx]
theorem VK {a z m:Nat}:a^z%m*(a^z%m)%m*(a%m)%m=a^(2*z+1)%m:=by rw[Sa,<-cC,<-Nat.pow_succ]
theorem Sv {a m:Nat} {e:Bytes} (ha:a<(2^64)) (he:aa e=true) (hm:m<(2^64)) (h0:0<m):aE 290 [N a, .s e,N m] (.tup [N (a^num e%m),E 0]):=by
 have hc:=fun nm=>FK nm (bR a) e (bR m)
 rw[DG ha he hm h0]at hc;have h1:=kP (a:=1) oC hm h0;refine eW call290 func290 ?_;simp only[go_sem,seval,dJ];repeat' first|simp only[go_sem,seval,dJ]|(refine bE (hc _) (by simp) ?_)|refine cP (kP ha hm h0) ?_|refine cP h1 ?_|refine cP (Jj e) ?_|(refine xd (Ji e he) rfl (DM _ _) ?_)|refine oE ?_|apply xX<;>intro hc
 obtain⟨n,hn⟩: ∃n,n=num e:=⟨_,rfl⟩;rw[<-hn];have hbl:n/2^cZ n=0:=by
  refine ir ?_;unfold cZ;split
  ·subst_vars;rename_i h;rw[h];decide
  ·rename_i h;exact tJ
 refine Ck (α:=Nat) (fun k=>⟨[(3, .p 1000 0 0),(5, .p 1001 0 0),(9, .p 1019 0 0)],[(1000,⟨0,[.v (N (a%m))],false,none⟩),(1001,⟨0,[.v (N m)],false,none⟩),(1019,⟨0,[.v (N (a^(n/2^k)%m))],false,some 22⟩)],_⟩) (fun ys k=>ys=FN n k) (cZ n) (fun _=>aD _) rfl ?_ ?_ ?_
 ·(refine AS.Le.of (by first|decide|omega) ?_ ?_<;>simp[dA,dz,aS,aB,AV.bd,AV.bd.bdL,u8,aq,au,aA])
  rw[hbl,Nat.pow_zero]
 ·intro k hk
  cases k with
  |succ k=>cases hk
  |zero=>
   refine vP ?_;rw[iq]
 ·intro y ys k hk R hR
  cases k with
  |zero=>cases hk
  |succ k=>
   simp only[FN,List.cons.injEq]at hk;obtain⟨rfl,rfl⟩:=hk;obtain⟨x,hx⟩: ∃x,x=a^(n/2^(k+1))%m:=⟨_,rfl⟩;have hxm:x<m:=by rw[hx];exact aP _ h0
   have t1:=GS (a:=x) (b:=x) oO oO hm h0;have hxx:x*x%m<m:=aP _ h0;have ham:a%m<m:=aP _ h0;have t2:=GS (a:=x*x%m) (b:=a%m) oO oO hm h0;have hbit:=kG (x:=n) (i:=k);have hdd:n/2^(k+1)=n/2^k/2:=by rw[Nat.pow_succ,eL]
   rw[<-hx,hbit];repeat' first|simp only[go_sem,seval]|refine cP t1 ?_|refine cP t2 ?_|refine oE ?_|apply xX<;>intro hc
   ·have hb2:n/2^k=2*(n/2^(k+1))+1:=oO;refine hR k rfl _ ?_;rw[hb2,hx,VK];exact lE
   ·have hb2:n/2^k=2*(n/2^(k+1)):=oO;refine hR k rfl _ ?_;rw[hb2,hx,Sa];exact lE
theorem Us {n:Nat} (h:n<(2^64)):aE 407 [N n] (E (n%8:Nat)):=by
 by_cases h0:n=0
 ·subst h0;refine eW call407 func407 ?_;exact gU @zP
 ·have hc:=pK h0;have hb:=fF n;have hne:bR n≠[]:=fun e=>h0 (gA.1 e)
  obtain⟨r,c,hr⟩: ∃r c,bR n=r++[c]:=⟨_,_,(IE hne).symm⟩;have hn:=aY n;rw[hr,yt]at hn;have hl:(bR n).length=r.length+1:=by rw[hr];simp
  have hg:(bR n).getD r.length 0=c:=by rw[hr];simp[ca]
  have hcl:=c.toNat_lt;have hlen:=lN h;have he: ∀ _:True,(((r.length+1:Nat):Int)-1).toNat=r.length:=fun _=>oO
  refine eW call407 func407 ?_;repeat' first|simp only[go_sem,seval,hc,hl,he oT,hg]|refine oE ?_|apply xX<;>intro hc
  congr 1;omega
theorem Cv:(.s [2]:PV)=N 2:=rfl
theorem MI (n:Nat):(bR n==([1]:Bytes))=decide (n=1):=xB n 1
end Go.Proofs.Tryz
namespace Go.Proofs.Tryz
open Go Go.Dom Go.Num
variable {a n:Nat}
theorem x6 {s:Int} (h0:a≠0) (h2:a%2=0):qL (a+1) a n s=qL (a/2+1) (a/2) n (vd n s):=by
 rw[qL,af h0,ah h2];exact Ax oO oO
theorem BT {s:Int} (h0:a≠0) (h2:a%2≠0):qL (a+1) a n s=qL (n%a+1) (n%a) a (u9 a n s):=by
 have:n%a<a:=aP _ oO;rw[qL,af h0,af h2];exact Ax oO oO
theorem Hb (ha:a<(2^64)) (hn:n<(2^64)) (h1:n%2=1):aE 289 [N a,N n] (.tup [E (TY a n),E 0]):=by
 have hc:=fun nm=>FJ nm (bR a) (bR n)
 rw[Ly ha hn oO]at hc;have l0:=Us hn;have h8:n%8%2=1:=oO;refine eW call289 func289 ?_;simp only[go_sem,seval,dJ,Cv];repeat' first|simp only[go_sem,seval,dJ,Cv]|(refine bE (hc _) (by simp) ?_)|refine cP l0 ?_|refine cP (kP ha hn oO) ?_|refine oE ?_|apply xX<;>intro hc
 refine ak (α:=Nat×Nat×Int) (fun x=>x.1) (fun x=>⟨[(0, .v (N x.1)),(1, .v (N x.2.1)),(7, .v (E x.2.2))],[],_⟩) (fun x=>x.1<(2^64)/\x.2.1<(2^64)/\0<x.2.1/\(x.2.2=1\/x.2.2= -1)/\qL (x.1+1) x.1 x.2.1 x.2.2=TY a n) (a%n,n,1) (fun _=>aD _) ⟨eu (tA _ _) ha,hn,by show 0<n;omega, .inl rfl,rfl⟩ ?_ ?_
 ·exact lE
 ·rintro⟨x,y,s⟩ ⟨hx,hy,hy0,hs,hj⟩ R hR;simp only at hx hy hy0 hs hj
  by_cases hx0:x=0
  ·subst hx0;have e:=MI y;repeat' first|simp only[go_sem,seval,zP,dJ,e]|refine oE ?_|apply xX<;>intro hc
   ·simp[vR]at hc;rw[<-hj];simp only[qL,az];rw[ah hc]
   ·simp[vR]at hc;rw[<-hj];simp only[qL,az];rw[af hc]
  ·have e:=pK hx0;have ly:=Us hy;refine dY @e ?_;refine ak (α:=Nat×Int) (fun z=>z.1) (fun z=>⟨[(0, .v (N z.1)),(1, .v (N y)),(7, .v (E z.2))],[],_⟩) (fun z=>z.1<=x/\z.1≠0/\(z.2=1\/z.2= -1)/\qL (z.1+1) z.1 y z.2=TY a n) (x,s) (fun _=>aD _) ⟨aD _,hx0,hs,hj⟩ ?_ ?_
   ·exact lE
   ·rintro⟨z,t⟩ ⟨hz,hz0,ht,hk⟩ R' hR';simp only at hz hz0 ht hk;have lz:=Us (n:=z) oO;have hd:=jf (a:=z) (b:=2) oO oC oC;have hw: ∀ _:True,IntKind.i64.wrap (0-t)= -t:=fun _=>by rw[IntWalk.i64_in _ oO];omega
    have hr:=kP (a:=y) (m:=z) hy oO oO;have hlt:y%z<z:=aP _ oO;repeat' first|simp only[go_sem,seval,Cv,hw oT]|refine cP lz ?_|refine cP ly ?_|refine cP hd ?_|refine cP hr ?_|refine oE ?_|apply xX<;>intro hc
    ·have hf:vd y t= -t:=by unfold vd;rw[ah oO]
     refine hR' (z/2,-t) ⟨by show z/2<=x;omega,by show z/2≠0;omega,by show-t=1\/ -t= -1;omega,by rw[<-hk,x6 hz0 oO,hf]⟩ (by show z/2<z;omega) _ ?_
     exact lE
    ·have hf:vd y t= -t:=by unfold vd;rw[ah oO]
     refine hR' (z/2,-t) ⟨by show z/2<=x;omega,by show z/2≠0;omega,by show-t=1\/ -t= -1;omega,by rw[<-hk,x6 hz0 oO,hf]⟩ (by show z/2<z;omega) _ ?_
     exact lE
    ·have hf:vd y t=t:=by unfold vd;rw[af oO]
     refine hR' (z/2,t) ⟨by show z/2<=x;omega,by show z/2≠0;omega,ht,by rw[<-hk,x6 hz0 oO,hf]⟩ (by show z/2<z;omega) _ ?_
     exact lE
    ·have hf:u9 z y t= -t:=by unfold u9;rw[ah oO]
     refine hR (y%z,z,-t) ⟨by show y%z< _;omega,by show z< _;omega,by show 0<z;omega,by show-t=1\/ -t= -1;omega,by rw[<-hk,BT hz0 oO,hf]⟩ (by show y%z<x;omega) _ ?_
     exact lE
    ·have hf:u9 z y t=t:=by unfold u9;rw[af oO]
     refine hR (y%z,z,t) ⟨by show y%z< _;omega,by show z< _;omega,by show 0<z;omega,ht,by rw[<-hk,BT hz0 oO,hf]⟩ (by show y%z<x;omega) _ ?_
     exact lE
    ·have hf:u9 z y t=t:=by unfold u9;rw[af oO]
     refine hR (y%z,z,t) ⟨by show y%z< _;omega,by show z< _;omega,by show 0<z;omega,ht,by rw[<-hk,BT hz0 oO,hf]⟩ (by show y%z<x;omega) _ ?_
     exact lE
