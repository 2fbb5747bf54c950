/- Part of the proof. -/
import Derived.Test.YtnhhajlcpjgkjaaGreatDoorUB20
set_option linter.all false
set_option maxHeartbeats 4000000
set_option maxRecDepth 100000
namespace Go.Num
def Pr (n:Nat):Prop:=2<=n/\ ∀d,d∣n->d=1\/d=n
theorem Pr.TC {p a:Nat} (h:Pr p) (ha: ¬p∣a):Nat.Coprime a p:=by
 rcases h.2 _ (Nat.gcd_dvd_right a p)with e|e
 ·exact e
 ·exact aP (e▸Nat.gcd_dvd_left a p) ha
def cH:List Nat:=[2,3,5,7,11,13,17,19,23,29,31,37]
def GA:Nat->Nat->Nat
 |0,_=>0
 |f+1,n=>if n%2=1 then 0 else GA f (n/2)+1
def T3:Nat->Nat->Nat->Bool
 |0,_,_=>false
 |k+1,x,n=>x*x%n==n-1||T3 k (x*x%n) n
def oo (n s d a:Nat):Bool:=(a%n)^d%n==1||(a%n)^d%n==n-1||T3 (s-1) ((a%n)^d%n) n
def fW (n:Nat):Bool:=
 if n<2 then false else
 match cH.find? fun p=>n%p==0 with
 |some p=>n==p
 |none=>cH.all fun a=>oo n (GA 64 (n-1)) ((n-1)/2^GA 64 (n-1)) a
def wW (n:Nat) (s:Int):Int:=if n%8=3\/n%8=5 then-s else s
def wV (a n:Nat) (s:Int):Int:=if a%4=3/\n%4=3 then-s else s
def rR:Nat->Nat->Nat->Int->Int
 |0,_,_,_=>0
 |f+1,a,n,s=>if a=0 then(if n=1 then s else 0)else if a%2=0 then rR f (a/2) n (wW n s)else rR f (n%a) a (wV a n s)
def VF (a n:Nat):Int:=rR (a%n+1) (a%n) n 1
theorem BR {f g a n:Nat} {s:Int} (hf:a<f) (hg:a<g):rR f a n s=rR g a n s:=by
 induction f generalizing g a n s with
 |zero=>omega
 |succ f ih=>
  obtain⟨g,rfl⟩: ∃k,g=k+1:=⟨g-1,by omega⟩
  simp only[rR]
  by_cases h0:a=0
  ·simp[h0]
  ·rw[af h0,af h0];split
   ·exact ih (by omega) (by omega)
   ·have:n%a<a:=aQ _ (by omega)
    exact ih (by omega) (by omega)
def vO (n:Nat):Bool:=fW n&&fW ((n-1)/2)
end Go.Num
namespace Go.Proofs.Tryz
open Go Go.Dom Go.Num
def Tv:List PV:=cH.map fun p:Nat=> .i .u64 (p:Int)
theorem HB:aE 393 [] (.agg Tv):=by
 refine eW call393 func393 ?_;repeat' first|simp only[go_sem,seval]|refine oE ?_|apply xX<;>intro hc
 rfl
theorem Ad {a b m:Nat} (ha:a<m) (hb:b<m) (hm:m<(2^64)):aE 396 [.i .u64 a, .i .u64 b, .i .u64 m] (.i .u64 (a*b%m:Nat)):=by
 have h1:=tE a b oO oO;have hp:a*b<m*(2^64):=br (Nat.mul_lt_mul_of_lt_of_le ha (jV hb) oO) (jd m oO);have h2:a*b/(2^64)<m:=(iK oC).2 hp;have h3:=EC (a*b/(2^64)) (a*b%(2^64)) m h2 (aQ _ oC) hm;have e:a*b/(2^64)*(2^64)+a*b%(2^64)=a*b:=oO;rw[e]at h3;refine eW call396 func396 ?_;exact z2 @h1 @h3
theorem Jp (b k m:Nat):(b*b%m)^(k/2)%m=b^(2*(k/2))%m:=by rw[<-jq,<-Nat.pow_two,<-jY]
theorem OE {x b k m:Nat} (h:k%2=1):x*b%m*(b*b%m)^(k/2)%m=x*b^k%m:=by
 rw[cL,Jp,eE,<-cL,cK,<-yd];congr 3;omega
theorem Jo {x b k m:Nat} (h:k%2=0):x*(b*b%m)^(k/2)%m=x*b^k%m:=by
 rw[cL,Jp,<-cL];congr 3;omega
theorem OJ {a e m:Nat} (ha:a<m) (he:e<(2^64)) (hm:m<(2^64)):aE 395 [.i .u64 a, .i .u64 e, .i .u64 m] (.i .u64 (a^e%m:Nat)):=by
 refine eW call395 func395 ?_;refine qi ?_;refine ak (α:=Nat×Nat×Nat) (fun x=>x.2.1) (fun x=>⟨[(0,U x.1),(1,U x.2.1),(2,U m),(7,U x.2.2)],[],_⟩) (fun x=>x.1<m/\x.2.1<(2^64)/\x.2.2<m/\x.2.2*x.1^x.2.1%m=a^e%m) (a,e,1%m) (fun _=>aD _) ⟨ha,he,aQ _ oO,by show 1%m*a^e%m= _;rw[cL,eE,<-cL,ie]⟩ ?_ ?_
 ·(refine AS.Le.of (by first|decide|omega) ?_ ?_<;>simp[dw,du,aS,aC,AV.bd,AV.bd.bdL,u8,an,ar,aA])
  rfl
 ·rintro⟨b,k,x⟩ ⟨h1,h2,h3,h4⟩ R hR;simp only at h1 h2 h3 h4;have hs:=Ad h1 h1 hm;have hx:=Ad h3 h1 hm;have hk:k/2<(2^64):=oO;repeat' first|simp only[go_sem,seval,uw,bE hk]|refine cP hs ?_|refine cP hx ?_|refine oE ?_|apply xX<;>intro hc
  ·refine hR (b*b%m,k/2,x*b%m) ⟨aQ _ oO,hk,aQ _ oO,?_⟩ (by show k/2<k;omega) _ ?_
   ·show x*b%m*(b*b%m)^(k/2)%m= _;rw[OE oO,h4]
   ·exact lE
  ·refine hR (b*b%m,k/2,x) ⟨aQ _ oO,hk,h3,?_⟩ (by show k/2<k;omega) _ ?_
   ·show x*(b*b%m)^(k/2)%m= _;rw[Jo oO,h4]
   ·exact lE
  ·obtain rfl:k=0:=oO;rw[<-h4,Nat.pow_zero,dG,bE h3]
theorem Ub: ∀f x,Lib.ctzFrom f x=GA f x
 |0,x=>rfl
 |f+1,x=>by simp only[Lib.ctzFrom,GA,Ub f (x/2)];split<;>omega
theorem X5 {i:Nat} (h:i<12):(List.map AV.v Tv).getD i .u=U (cH.getD i 0):=by
 have: ∀i:Fin 12,(List.map AV.v Tv).getD i.val .u=U (cH.getD i.val 0):=by
  intro i;rcases i with⟨i,hi⟩
  have h2:i<cH.length:=hi;simp[Tv,b9,h2]
 exact this ⟨i,h⟩
theorem Re {i:Nat} (h:i<12):0<cH.getD i 0/\cH.getD i 0<38:=by
 have: ∀i:Fin 12,0<cH.getD i.val 0/\cH.getD i.val 0<38:=by decide
 exact this ⟨i,h⟩
theorem IA {i:Nat} (h:i<12):cH.drop i=cH.getD i 0::cH.drop (i+1):=by
 have h2:i<cH.length:=h;rw[jQ h2,b9,cb h2];rfl
theorem Df {n:Nat} (hn:n<(2^64)):aE 272 [.i .u64 n] (.b (fW n)):=by
 by_cases h2:n<2
 ·have e:fW n=false:=by simp[fW,h2]
  rw[e];refine eW call272 func272 ?_;exact z0
 have hb:=HB;have hL:(List.map AV.v Tv).length=12:=rfl;refine eW call272 func272 ?_;refine zl1 @hb ?_;refine ak (α:=Nat) (fun i=>12-i) (fun i=>⟨[(0,U n),(13, .v (.agg Tv)),(14,E' i)],[],_⟩) (fun i=>i<=12/\cH.find? (fun p=>n%p==0)=(cH.drop i).find? (fun p=>n%p==0)) 0 (fun _=>aD _) ⟨oO,rfl⟩ ?_ ?_
 ·exact lE
 ·rintro i ⟨hi,hf⟩ R hR
  by_cases hlt:i<12
  ·have g1:=X5 hlt;obtain⟨q0,q1⟩:=Re hlt;rw[IA hlt]at hf;generalize cH.getD i 0=q at*;repeat' first|simp only[go_sem,seval,g1,hL]|refine oE ?_|apply xX<;>intro hc
   ·have hz:(n%q==0)=true:=by rw[eD];omega
    rw[List.find?_cons,hz]at hf;unfold fW;rw[af h2,hf];congr 1;rw[cX];simp only[eD];omega
   ·have hz:(n%q==0)=false:=by rw[dL];omega
    rw[List.find?_cons,hz]at hf;refine hR (i+1) ⟨oO,hf⟩ oO _ ?_;exact lE
  ·obtain rfl:i=12:=oO;have hf:cH.find? (fun p=>n%p==0)=none:=hf
   obtain⟨s,hs⟩: ∃s,s=GA 64 (n-1):=⟨_,rfl⟩;obtain⟨d,hd⟩: ∃d,d=(n-1)/2^s:=⟨_,rfl⟩;have hz:=ss (n-1) oO oO;have hs64:=(Lib.lowest_bit 64 (n-1) oO (by show n-1<(2^64);omega)).2
   have hzs:Lib.ctz 64 (n-1)=s:=by rw[Lib.ctz,af oO,Ub,hs]
   rw[hzs]at hz hs64;have hdl:d<(2^64):=by rw[hd];exact eR (fg _ _) oO
   have e1: ∀ _:True,((n:Int)-1)=((n-1:Nat):Int):=fun _=>oO
   have e2: ∀ _:True,(if s<=64 then s else 64)=s:=fun _=>by split<;>omega
   have e3: ∀ _:True,(n-1)/2^s=d:=fun _=>hd.symm
   have key:fW n=cH.all (oo n s d):=by
    unfold fW;rw[af h2,hf,<-hs,<-hd]
   rw[key];clear key hf hzs hs hd;refine GJ (aN (e1 oT) (aN (e2 oT) (e3 oT))) @hz @hb ?_;refine ak (α:=Nat) (fun i=>12-i) (fun i=>⟨[(0,U n),(5,E' s),(6,U d),(32, .v (.agg Tv)),(33,E' i)],[],_⟩) (fun i=>i<=12/\cH.all (oo n s d)=(cH.drop i).all (oo n s d)) 0 (fun _=>aD _) ⟨oO,rfl⟩ ?_ ?_
   ·exact lE
   ·rintro i ⟨hi,hf⟩ R hR
    by_cases hlt:i<12
    ·have g1:=X5 hlt;obtain⟨q0,q1⟩:=Re hlt;rw[IA hlt,List.all_cons]at hf;have hR1:=hR (i+1);generalize cH.getD i 0=q at*;have hq:q%n<n:=aQ _ oO;have hp:=OJ hq hdl hn;obtain⟨x,hx⟩: ∃x,x=(q%n)^d%n:=⟨_,rfl⟩;have hxl:x<n:=by rw[hx];exact aQ _ oO
     have hst:oo n s d q=(x==1||x==n-1||T3 (s-1) x n):=by rw[hx];rfl
     rw[<-hx]at hp;clear hx;repeat' first|simp only[go_sem,seval,g1,hL,e1 oT]|refine cP hp ?_|refine oE ?_|apply xX<;>intro hc
     ·have hx1:x=1:=oO;refine hR1 ⟨oO,by rw[hf,hst,hx1];simp⟩ oO _ ?_
      exact lE
     ·have hx1:x=n-1:=oO;refine hR1 ⟨oO,by rw[hf,hst,hx1];simp⟩ oO _ ?_
      exact lE
     ·have hx1:(x==1)=false:=by rw[dL];omega
      have hx2:(x==n-1)=false:=by rw[dL];omega
      rw[hx1,hx2,jX,jX]at hst;refine ak (α:=Nat×Nat) (fun z=>s-z.1) (fun z=>⟨[(0,U n),(5,E' s),(6,U d),(32, .v (.agg Tv)),(33,E' i),(9,U z.2),(10,E' z.1)],[],_⟩) (fun z=>1<=z.1/\z.2<n/\T3 (s-z.1) z.2 n=T3 (s-1) x n) (1,x) (fun _=>aD _) ⟨aD 1,hxl,rfl⟩ ?_ ?_
      ·exact lE
      ·rintro⟨j,y⟩ ⟨hj,hy,hz⟩ R' hR';simp only at hj hy hz;have hm:=Ad hy hy hn;obtain⟨w,hw⟩: ∃w,w=y*y%n:=⟨_,rfl⟩;have hwl:w<n:=by rw[hw];exact aQ _ oO
       have hz':j<s->(w==n-1||T3 (s-(j+1)) w n)=T3 (s-1) x n:=by
        intro g;rw[<-hz,show s-j=s-(j+1)+1 by omega,hw];rfl
       rw[<-hw]at hm;clear hw;repeat' first|simp only[go_sem,seval,e1 oT]|refine cP hm ?_|refine oE ?_|apply xX<;>intro hc
       ·have hw1:w=n-1:=oO;have:=hz' oO;rw[hw1,dt,nT]at this;refine hR1 ⟨oO,by rw[hf,hst,<-this,cq]⟩ oO _ ?_
        exact lE
       ·have hw1:(w==n-1)=false:=by rw[dL];omega
        have:=hz' oO;rw[hw1,jX]at this;refine hR' (j+1,w) ⟨by show 1<=j+1;omega,hwl,this⟩ (by show s-(j+1)<s-j;omega) _ ?_
        exact lE
       ·rw[hf,hst,<-hz,show s-j=0 by omega];rfl
    ·obtain rfl:i=12:=oO;refine xF ?_;rw[hf];rfl
theorem Ae (a:Bytes):aE 271 [.s a] (.tup [.i .u64 (if aa a&&decide (a.length<=8)then num a else 0),E (if aa a then(if a.length<=8 then 0 else 5)else 3)]):=by
 have hs:=oz a;have hv:=aI a;refine eW call271 func271 ?_;repeat' first|simp only[go_sem,seval]|refine cP hv ?_|refine cP hs ?_|refine oE ?_|apply xX<;>intro hc
 all_goals (simp_all<;>omega)
def dR (a:Bytes):Int:=if aa a then(if a.length<=8 then 0 else 5)else 3
theorem rj (a:Bytes):aE 139 [.s a] (.tup [.b (aa a&&decide (a.length<=8)&&fW (num a)),E (dR a)]):=by
 have hs:=Ae a
 by_cases h:aa a=true/\a.length<=8
 ·obtain⟨h1,h2⟩:=h;have e:dR a=0:=by simp[dR,h1,h2]
  rw[h1,aU h2]at hs;have hi:=Df (dS h2);rw[h1,aU h2,e];refine eW call139 func139 ?_;repeat' first|simp only[go_sem,seval,aB,ah h2]|refine cP hs ?_|refine cP hi ?_|refine oE ?_|apply xX<;>intro hc
  all_goals skip
 ·have h0:(aa a&&decide (a.length<=8))=false:=by
   rw[dn];intro g;simp at g;exact h g
  have e:dR a≠0:=by
   unfold dR;split
   ·rename_i g;rw[af (fun g2=>h ⟨g,g2⟩)];decide
   ·decide
  rw[h0]at hs⊢;have e2:(if aa a then(if a.length<=8 then(0:Int)else 5)else 3)=dR a:=rfl
  rw[e2]at hs;refine eW call139 func139 ?_;repeat' first|simp only[go_sem,seval]|refine cP hs ?_|refine oE ?_|apply xX<;>intro hc
  all_goals skip
theorem B6 (a:Bytes):aE 405 [.s a] (.tup [.b (aa a&&decide (a.length<=8)&&vO (num a)),E (dR a)]):=by
 have hs:=Ae a
 by_cases h:aa a=true/\a.length<=8
 ·obtain⟨h1,h2⟩:=h;have e:dR a=0:=by simp[dR,h1,h2]
  rw[h1,aU h2]at hs;have hn:=dS h2;have hi:=Df hn;have hj:=Df (n:=(num a-1)/2) oO;rw[h1,aU h2,e]
  by_cases h0:fW (num a)=true
  ·have hp:2<=num a:=by
    rcases lT (num a) 2 with g|g
    ·simp[fW,g]at h0
    ·exact g
   have e1: ∀ _:True,((num a:Int)-1)=((num a-1:Nat):Int):=fun _=>oO
   have e3:(num a-1)/2%(2^64)=(num a-1)/2:=bE oO;have e4:(num a-1)%(2^64)=num a-1:=bE oO;rw[h0]at hi;refine eW call405 func405 ?_;repeat' first|simp only[go_sem,seval,aB,ah h2,e1 oT,uw,e4,e3]|refine cP hs ?_|refine cP hi ?_|refine cP hj ?_|refine oE ?_|apply xX<;>intro hc
   all_goals simp[vO,h0]
  ·have h0:fW (num a)=false:=by simpa using h0
   rw[h0]at hi;refine eW call405 func405 ?_;repeat' first|simp only[go_sem,seval,aB,ah h2]|refine cP hs ?_|refine cP hi ?_|refine oE ?_|apply xX<;>intro hc
   all_goals simp[vO,h0]
 ·have h0:(aa a&&decide (a.length<=8))=false:=by
   rw[dn];intro g;simp at g;exact h g
  have e:dR a≠0:=by
   unfold dR;split
   ·rename_i g;rw[af (fun g2=>h ⟨g,g2⟩)];decide
   ·decide
  rw[h0]at hs⊢;have e2:(if aa a then(if a.length<=8 then(0:Int)else 5)else 3)=dR a:=rfl
  rw[e2]at hs;refine eW call405 func405 ?_;repeat' first|simp only[go_sem,seval]|refine cP hs ?_|refine oE ?_|apply xX<;>intro hc
  all_goals skip
end Go.Proofs.Tryz
namespace Go.Proofs.Tryz
open Go Go.Dom
def sG (l:List Bytes) (m:Bytes):Int:=if l.all aa&&aa m then(if m=[]then 11 else 0)else 3
theorem G8 (nm:Nat) (a m:Bytes):j4 prog 180 nm [] [.fs [.s a], .fs [.s m]] (.v (E (sG [a] m))) []:=by
 refine j4.w mixed call180 func180 rfl (ka.1 _ _ _ (by cbv)) (ka.2 _ _ (by cbv)) (obs:=[]) (args:=[.fs [.s a], .fs [.s m]]) (fs:=[]) (j:=none) (nw:=none) (v:= .v (E (sG [a] m))) (ns:=[]) (obsA:=[]) rfl ?_ (by simp) (by simp) rfl rfl (by simp[bc,AV.aX]) (by simp[AV.aX]) (by simp[fL,outs])
 have va:=aI a;have vm:=aI m;simp only[go_sem,seval];repeat' first|simp only[go_sem,seval,true_or,or_true,false_or,or_false,aq,iQ,ff,ix,fF,gp,e7,pU,qj,gT,iC,dW,aR,AV.aX,AV.aX.renL,aM,gO,gM]|refine cP va ?_|refine cP vm ?_|(refine aj ?_)|refine oE ?_|apply xX<;>intro hc
 all_goals simp_all[sG]
theorem G9 (nm:Nat) (a b m:Bytes):j4 prog 180 nm [] [.fs [.s a, .s b], .fs [.s m]] (.v (E (sG [a,b] m))) []:=by
 refine j4.w mixed call180 func180 rfl (ka.1 _ _ _ (by cbv)) (ka.2 _ _ (by cbv)) (obs:=[]) (args:=[.fs [.s a, .s b], .fs [.s m]]) (fs:=[]) (j:=none) (nw:=none) (v:= .v (E (sG [a,b] m))) (ns:=[]) (obsA:=[]) rfl ?_ (by simp) (by simp) rfl rfl (by simp[bc,AV.aX]) (by simp[AV.aX]) (by simp[fL,outs])
 have va:=aI a;have vb:=aI b;have vm:=aI m;simp only[go_sem,seval];repeat' first|simp only[go_sem,seval,true_or,or_true,false_or,or_false,aq,iQ,ff,ix,fF,gp,e7,pU,qj,gT,iC,dW,aR,AV.aX,AV.aX.renL,aM,gO,gM]|refine cP va ?_|refine cP vb ?_|refine cP vm ?_|(refine aj ?_)|refine oE ?_|apply xX<;>intro hc
 all_goals simp_all[sG]
theorem MT {a m:Nat} (ha:a<(2^64)) (hm:m<(2^64)) (h0:0<m):sG [bQ a] (bQ m)=0:=by
 have:bQ m≠[]:=fun h=>by rw[fS]at h;omega
 simp[sG,vN ha,vN hm,this]
theorem EW {a m:Nat} {e:Bytes} (ha:a<(2^64)) (he:aa e=true) (hm:m<(2^64)) (h0:0<m):sG [bQ a,e] (bQ m)=0:=by
 have:bQ m≠[]:=fun h=>by rw[fS]at h;omega
 simp[sG,vN ha,he,vN hm,this]
theorem GU {a:Nat} (h:a<(2^64)):aE 294 [N a] (.tup [.i .u64 a, .b true]):=by
 have:=oz (bQ a);rw[vN h,aU (lN h),ba]at this;exact this
theorem H8 {a b m:Nat} (ha:a<(2^64)) (hb:b<(2^64)) (hm:m<(2^64)) (h0:0<m):aE 184 [N a,N b,N m] (N (a*b%m)):=by
 have la:=lN ha;have lb:=lN hb;have lm:=lN hm;have h1:a%m<(2^64):=eR (rM _ _) ha;have h2:b%m<(2^64):=eR (rM _ _) hb;have hq:=tE (a%m) (b%m) h1 h2;have h3:a%m*(b%m)/(2^64)<(2^64):=(iK oC).2 (fO h1 h2);have hr:=Me (a%m*(b%m)/(2^64)) (a%m*(b%m)%(2^64)) m h0 h3 (aQ _ oC) hm;have e:a%m*(b%m)/(2^64)*(2^64)+a%m*(b%m)%(2^64)=a%m*(b%m):=oO;rw[e,<-cL]at hr;have ho:=ql (a*b%m) (jn (aQ _ h0) hm);have sa:=GU ha;have sb:=GU hb;have sm:=GU hm;clear h3 e h1 h2;refine eW call184 func184 ?_;exact z7 @sa @sb @sm @hq @hr @ho oT
theorem lJ {a m:Nat} (ha:a<(2^64)) (hm:m<(2^64)) (h0:0<m):aE 182 [N a,N m] (N (a%m)):=by
 refine eW call182 func182 ?_;exact z1 (jF ha hm h0)
theorem Of {a b m:Nat} (ha:a<(2^64)) (hb:b<(2^64)) (hm:m<(2^64)) (h0:0<m):aE 97 [N a,N b,N m] (.tup [N (a*b%m),E 0]):=by
 have hc:=fun nm=>G9 nm (bQ a) (bQ b) (bQ m)
 rw[EW ha (vN hb) hm h0]at hc;refine eW call97 func97 ?_;repeat' first|simp only[go_sem,seval]|(refine bK (hc _) (by simp) ?_)|refine cP (H8 ha hb hm h0) ?_|refine oE ?_|apply xX<;>intro hc
theorem Kx (e:Bytes):aE 408 [.s e] (.fc 477 [] [.pt (.agg [.s e]) 0]):=by
 refine eW call408 func408 ?_;exact z0
theorem E6 (n:Nat): ∀k,∀y∈Hc n k,y.length=1
 |0,y,h=>by cases h
 |k+1,y,h=>by
  rcases cu.1 h with rfl|h
  ·rfl
  ·exact E6 n k y h
theorem dQ:(.s [1]:PV)=N 1:=rfl
theorem T2 {a z m:Nat}:a^z%m*(a^z%m)%m=a^(2*z)%m:=by rw[<-cL,<-dk,rN]
theorem W9 {a z m:Nat}:a^z%m*(a^z%m)%m*(a%m)%m=a^(2*z+1)%m:=by rw[T2,<-cL,<-Nat.pow_succ]
theorem Ul {a m:Nat} {e:Bytes} (ha:a<(2^64)) (he:aa e=true) (hm:m<(2^64)) (h0:0<m):aE 290 [N a, .s e,N m] (.tup [N (a^num e%m),E 0]):=by
 have hc:=fun nm=>G9 nm (bQ a) e (bQ m)
 rw[EW ha he hm h0]at hc;have h1:=lJ (a:=1) oC hm h0;refine eW call290 func290 ?_;simp only[go_sem,seval,dQ];repeat' first|simp only[go_sem,seval,dQ]|(refine bK (hc _) (by simp) ?_)|refine cP (lJ ha hm h0) ?_|refine cP h1 ?_|refine cP (Kx e) ?_|(refine yF (Kw e he) rfl (E6 _ _) ?_)|refine oE ?_|apply xX<;>intro hc
 obtain⟨n,hn⟩: ∃n,n=num e:=⟨_,rfl⟩;rw[<-hn];have hbl:n/2^cW n=0:=by
  refine iL ?_;unfold cW;split
  ·subst_vars;rename_i h;rw[h];decide
  ·rename_i h;exact uG
 refine Dv (α:=Nat) (fun k=>⟨[(3, .p 1000 0 0),(5, .p 1001 0 0),(9, .p 1019 0 0)],[(1000,⟨0,[.v (N (a%m))],false,none⟩),(1001,⟨0,[.v (N m)],false,none⟩),(1019,⟨0,[.v (N (a^(n/2^k)%m))],false,some 22⟩)],_⟩) (fun ys k=>ys=Hc n k) (cW n) (fun _=>aD _) rfl ?_ ?_ ?_
 ·(refine AS.Le.of (by first|decide|omega) ?_ ?_<;>simp[dw,du,aS,aC,AV.bd,AV.bd.bdL,u8,an,ar,aA])
  rw[hbl,Nat.pow_zero]
 ·intro k hk
  cases k with
  |succ k=>cases hk
  |zero=>
   refine xF ?_;rw[iI]
 ·intro y ys k hk R hR
  cases k with
  |zero=>cases hk
  |succ k=>
   simp only[Hc,List.cons.injEq]at hk;obtain⟨rfl,rfl⟩:=hk;obtain⟨x,hx⟩: ∃x,x=a^(n/2^(k+1))%m:=⟨_,rfl⟩;have hxm:x<m:=by rw[hx];exact aQ _ h0
   have t1:=H8 (a:=x) (b:=x) oO oO hm h0;have hxx:x*x%m<m:=aQ _ h0;have ham:a%m<m:=aQ _ h0;have t2:=H8 (a:=x*x%m) (b:=a%m) oO oO hm h0;have hbit:=lf (x:=n) (i:=k);have hdd:n/2^(k+1)=n/2^k/2:=by rw[Nat.pow_succ,eZ]
   rw[<-hx,hbit];repeat' first|simp only[go_sem,seval]|refine cP t1 ?_|refine cP t2 ?_|refine oE ?_|apply xX<;>intro hc
   ·have hb2:n/2^k=2*(n/2^(k+1))+1:=oO;refine hR k rfl _ ?_;rw[hb2,hx,W9];exact lE
   ·have hb2:n/2^k=2*(n/2^(k+1)):=oO;refine hR k rfl _ ?_;rw[hb2,hx,T2];exact lE
theorem VM {n:Nat} (h:n<(2^64)):aE 407 [N n] (E (n%8:Nat)):=by
 by_cases h0:n=0
 ·subst h0;refine eW call407 func407 ?_;exact fP @Bk
 ·have hc:=qD h0;have hb:=fA n;have hne:bQ n≠[]:=fun e=>h0 (fS.1 e)
  obtain⟨r,c,hr⟩: ∃r c,bQ n=r++[c]:=⟨_,_,(JY hne).symm⟩;have hn:=ba n;rw[hr,zV]at hn;have hl:(bQ n).length=r.length+1:=by rw[hr];simp
  have hg:(bQ n).getD r.length 0=c:=by rw[hr];simp[b9]
  have hcl:=c.toNat_lt;have hlen:=lN h;have he: ∀ _:True,(((r.length+1:Nat):Int)-1).toNat=r.length:=fun _=>oO
  refine eW call407 func407 ?_;repeat' first|simp only[go_sem,seval,hc,hl,he oT,hg]|refine oE ?_|apply xX<;>intro hc
  congr 1;omega
theorem DH:(.s [2]:PV)=N 2:=rfl
theorem Oy (n:Nat):(bQ n==([1]:Bytes))=decide (n=1):=yV n 1
end Go.Proofs.Tryz
namespace Go.Proofs.Tryz
open Go Go.Dom Go.Num
variable {a n:Nat}
theorem zA {s:Int} (h0:a≠0) (h2:a%2=0):rR (a+1) a n s=rR (a/2+1) (a/2) n (wW n s):=by
 rw[rR,af h0,ah h2];exact BR oO oO
theorem C2 {s:Int} (h0:a≠0) (h2:a%2≠0):rR (a+1) a n s=rR (n%a+1) (n%a) a (wV a n s):=by
 have:n%a<a:=aQ _ oO;rw[rR,af h0,af h2];exact BR oO oO
theorem Ir (ha:a<(2^64)) (hn:n<(2^64)) (h1:n%2=1):aE 289 [N a,N n] (.tup [E (VF a n),E 0]):=by
 have hc:=fun nm=>G8 nm (bQ a) (bQ n)
 rw[MT ha hn oO]at hc;have l0:=VM hn;have h8:n%8%2=1:=oO;refine eW call289 func289 ?_;simp only[go_sem,seval,dQ,DH];repeat' first|simp only[go_sem,seval,dQ,DH]|(refine bK (hc _) (by simp) ?_)|refine cP l0 ?_|refine cP (lJ ha hn oO) ?_|refine oE ?_|apply xX<;>intro hc
 refine ak (α:=Nat×Nat×Int) (fun x=>x.1) (fun x=>⟨[(0, .v (N x.1)),(1, .v (N x.2.1)),(7, .v (E x.2.2))],[],_⟩) (fun x=>x.1<(2^64)/\x.2.1<(2^64)/\0<x.2.1/\(x.2.2=1\/x.2.2= -1)/\rR (x.1+1) x.1 x.2.1 x.2.2=VF a n) (a%n,n,1) (fun _=>aD _) ⟨eR (rM _ _) ha,hn,by show 0<n;omega, .inl rfl,rfl⟩ ?_ ?_
 ·exact lE
 ·rintro⟨x,y,s⟩ ⟨hx,hy,hy0,hs,hj⟩ R hR;simp only at hx hy hy0 hs hj
  by_cases hx0:x=0
  ·subst hx0;have e:=Oy y;repeat' first|simp only[go_sem,seval,Bk,dQ,e]|refine oE ?_|apply xX<;>intro hc
   ·simp[xH]at hc;rw[<-hj];simp only[rR,aB];rw[ah hc]
   ·simp[xH]at hc;rw[<-hj];simp only[rR,aB];rw[af hc]
  ·have e:=qD hx0;have ly:=VM hy;refine dH @e ?_;refine ak (α:=Nat×Int) (fun z=>z.1) (fun z=>⟨[(0, .v (N z.1)),(1, .v (N y)),(7, .v (E z.2))],[],_⟩) (fun z=>z.1<=x/\z.1≠0/\(z.2=1\/z.2= -1)/\rR (z.1+1) z.1 y z.2=VF a n) (x,s) (fun _=>aD _) ⟨aD _,hx0,hs,hj⟩ ?_ ?_
   ·exact lE
   ·rintro⟨z,t⟩ ⟨hz,hz0,ht,hk⟩ R' hR';simp only at hz hz0 ht hk;have lz:=VM (n:=z) oO;have hd:=jF (a:=z) (b:=2) oO oC oC;have hw: ∀ _:True,IntKind.i64.wrap (0-t)= -t:=fun _=>by rw[IntWalk.i64_in _ oO];omega
    have hr:=lJ (a:=y) (m:=z) hy oO oO;have hlt:y%z<z:=aQ _ oO;repeat' first|simp only[go_sem,seval,DH,hw oT]|refine cP lz ?_|refine cP ly ?_|refine cP hd ?_|refine cP hr ?_|refine oE ?_|apply xX<;>intro hc
    ·have hf:wW y t= -t:=by unfold wW;rw[ah oO]
     refine hR' (z/2,-t) ⟨by show z/2<=x;omega,by show z/2≠0;omega,by show-t=1\/ -t= -1;omega,by rw[<-hk,zA hz0 oO,hf]⟩ (by show z/2<z;omega) _ ?_
     exact lE
    ·have hf:wW y t= -t:=by unfold wW;rw[ah oO]
     refine hR' (z/2,-t) ⟨by show z/2<=x;omega,by show z/2≠0;omega,by show-t=1\/ -t= -1;omega,by rw[<-hk,zA hz0 oO,hf]⟩ (by show z/2<z;omega) _ ?_
     exact lE
    ·have hf:wW y t=t:=by unfold wW;rw[af oO]
     refine hR' (z/2,t) ⟨by show z/2<=x;omega,by show z/2≠0;omega,ht,by rw[<-hk,zA hz0 oO,hf]⟩ (by show z/2<z;omega) _ ?_
     exact lE
    ·have hf:wV z y t= -t:=by unfold wV;rw[ah oO]
     refine hR (y%z,z,-t) ⟨by show y%z< _;omega,by show z< _;omega,by show 0<z;omega,by show-t=1\/ -t= -1;omega,by rw[<-hk,C2 hz0 oO,hf]⟩ (by show y%z<x;omega) _ ?_
     exact lE
    ·have hf:wV z y t=t:=by unfold wV;rw[af oO]
     refine hR (y%z,z,t) ⟨by show y%z< _;omega,by show z< _;omega,by show 0<z;omega,ht,by rw[<-hk,C2 hz0 oO,hf]⟩ (by show y%z<x;omega) _ ?_
     exact lE
    ·have hf:wV z y t=t:=by unfold wV;rw[af oO]
     refine hR (y%z,z,t) ⟨by show y%z< _;omega,by show z< _;omega,by show 0<z;omega,ht,by rw[<-hk,C2 hz0 oO,hf]⟩ (by show y%z<x;omega) _ ?_
     exact lE
