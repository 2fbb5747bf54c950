/- Part of the proof. -/
import Derived.Test.YtkmahpcpmgedkaaGreatDoorFB20
set_option linter.all false
set_option maxHeartbeats 4000000
set_option maxRecDepth 100000
namespace Go.Num
def Pr (n:Nat):Prop:=2<=n/\ ∀d,d∣n->d=1\/d=n
theorem Pr.Tb {p a:Nat} (h:Pr p) (ha: ¬p∣a):Nat.Coprime a p:=by
 rcases h.2 _ (Eh a p)with e|e
 ·exact e
 ·exact aW (e▸DL a p) ha
def b9:List Nat:=[2,3,5,7,11,13,17,19,23,29,31,37]
def Gb:Nat->Nat->Nat
 |0,_=>0
 |f+1,n=>if n%2=1 then 0 else Gb f (n/2)+1
def TB:Nat->Nat->Nat->Bool
 |0,_,_=>false
 |k+1,x,n=>x*x%n==n-1||TB k (x*x%n) n
def oi (n s d a:Nat):Bool:=(a%n)^d%n==1||(a%n)^d%n==n-1||TB (s-1) ((a%n)^d%n) n
def fj (n:Nat):Bool:=
 if n<2 then false else
 match b9.find? fun p=>n%p==0 with
 |some p=>n==p
 |none=>b9.all fun a=>oi n (Gb 64 (n-1)) ((n-1)/2^Gb 64 (n-1)) a
def Nq (n:Nat):Bool:=fj n&&fj ((n-1)/2)
end Go.Num
namespace Go.Proofs.Tryz
open Go Go.Dom Go.Num
def S5:List PV:=b9.map fun p:Nat=> .i .u64 (p:Int)
theorem Ha:aD 236 [] (.agg S5):=by
 refine eW call236 func236 ?_;repeat' first|simp only[go_sem,seval]|refine oE ?_|apply xX<;>intro hc
 rfl
theorem Ae {a b m:Nat} (ha:a<m) (hb:b<m) (hm:m<(2^64)):aD 239 [.i .u64 a, .i .u64 b, .i .u64 m] (.i .u64 (a*b%m:Nat)):=by
 have h1:=sP a b oO oO;have hp:a*b<m*(2^64):=bH (Nat.mul_lt_mul_of_lt_of_le ha (ku hb) oO) (je m oO);have h2:a*b/(2^64)<m:=(iC oC).2 hp;have h3:=Eo (a*b/(2^64)) (a*b%(2^64)) m h2 (aL _ oC) hm;have e:a*b/(2^64)*(2^64)+a*b%(2^64)=a*b:=oO;rw[e]at h3;refine eW call239 func239 ?_;exact z2 @h1 @h3
theorem I1 (b k m:Nat):(b*b%m)^(k/2)%m=b^(2*(k/2))%m:=by rw[<-iL,<-Nat.pow_two,<-ko]
theorem N6 {x b k m:Nat} (h:k%2=1):x*b%m*(b*b%m)^(k/2)%m=x*b^k%m:=by
 rw[dp,I1,ep,<-dp,cF,<-yd];congr 3;omega
theorem I0 {x b k m:Nat} (h:k%2=0):x*(b*b%m)^(k/2)%m=x*b^k%m:=by
 rw[dp,I1,<-dp];congr 3;omega
theorem Oa {a e m:Nat} (ha:a<m) (he:e<(2^64)) (hm:m<(2^64)):aD 238 [.i .u64 a, .i .u64 e, .i .u64 m] (.i .u64 (a^e%m:Nat)):=by
 refine eW call238 func238 ?_;refine pU ?_;refine af (α:=Nat×Nat×Nat) (fun x=>x.2.1) (fun x=>⟨[(0,U x.1),(1,U x.2.1),(2,U m),(7,U x.2.2)],[],_⟩) (fun x=>x.1<m/\x.2.1<(2^64)/\x.2.2<m/\x.2.2*x.1^x.2.1%m=a^e%m) (a,e,1%m) (fun _=>ay _) ⟨ha,he,aL _ oO,by show 1%m*a^e%m= _;rw[dp,ep,<-dp,kW]⟩ ?_ ?_
 ·(refine AS.Le.of (by first|decide|omega) ?_ ?_<;>simp[dy,dx,aO,az,AV.bd,AV.bd.bdL,u8,ar,ax,aA])
  rfl
 ·rintro⟨b,k,x⟩ ⟨h1,h2,h3,h4⟩ R hR;simp only at h1 h2 h3 h4;have hs:=Ae h1 h1 hm;have hx:=Ae h3 h1 hm;have hk:k/2<(2^64):=oO;repeat' first|simp only[go_sem,seval,uw,bY hk]|refine cP hs ?_|refine cP hx ?_|refine oE ?_|apply xX<;>intro hc
  ·refine hR (b*b%m,k/2,x*b%m) ⟨aL _ oO,hk,aL _ oO,?_⟩ (by show k/2<k;omega) _ ?_
   ·show x*b%m*(b*b%m)^(k/2)%m= _;rw[N6 oO,h4]
   ·exact lE
  ·refine hR (b*b%m,k/2,x) ⟨aL _ oO,hk,h3,?_⟩ (by show k/2<k;omega) _ ?_
   ·show x*(b*b%m)^(k/2)%m= _;rw[I0 oO,h4]
   ·exact lE
  ·obtain rfl:k=0:=oO;rw[<-h4,Nat.pow_zero,dN,bY h3]
theorem TI: ∀f x,Lib.ctzFrom f x=Gb f x
 |0,x=>rfl
 |f+1,x=>by simp only[Lib.ctzFrom,Gb,TI f (x/2)];split<;>omega
theorem Xg {i:Nat} (h:i<12):(List.map AV.v S5).getD i .u=U (b9.getD i 0):=by
 have: ∀i:Fin 12,(List.map AV.v S5).getD i.val .u=U (b9.getD i.val 0):=by
  intro i;rcases i with⟨i,hi⟩
  have h2:i<b9.length:=hi;simp[S5,bu,h2]
 exact this ⟨i,h⟩
theorem QF {i:Nat} (h:i<12):0<b9.getD i 0/\b9.getD i 0<38:=by
 have: ∀i:Fin 12,0<b9.getD i.val 0/\b9.getD i.val 0<38:=by decide
 exact this ⟨i,h⟩
theorem H9 {i:Nat} (h:i<12):b9.drop i=b9.getD i 0::b9.drop (i+1):=by
 have h2:i<b9.length:=h;rw[jf h2,bu,bC h2];rfl
theorem RR {n:Nat} (hn:n<(2^64)):aD 128 [.i .u64 n] (.b (fj n)):=by
 by_cases h2:n<2
 ·have e:fj n=false:=by simp[fj,h2]
  rw[e];refine eW call128 func128 ?_;exact z0
 have hb:=Ha;have hL:(List.map AV.v S5).length=12:=rfl;refine eW call128 func128 ?_;refine WH @hb ?_;refine af (α:=Nat) (fun i=>12-i) (fun i=>⟨[(0,U n),(13, .v (.agg S5)),(14,E' i)],[],_⟩) (fun i=>i<=12/\b9.find? (fun p=>n%p==0)=(b9.drop i).find? (fun p=>n%p==0)) 0 (fun _=>ay _) ⟨oO,rfl⟩ ?_ ?_
 ·exact lE
 ·rintro i ⟨hi,hf⟩ R hR
  by_cases hlt:i<12
  ·have g1:=Xg hlt;obtain⟨q0,q1⟩:=QF hlt;rw[H9 hlt]at hf;generalize b9.getD i 0=q at*;repeat' first|simp only[go_sem,seval,g1,hL]|refine oE ?_|apply xX<;>intro hc
   ·have hz:(n%q==0)=true:=by rw[eT];omega
    rw[List.find?_cons,hz]at hf;unfold fj;rw[ae h2,hf];congr 1;rw[dK];simp only[eT];omega
   ·have hz:(n%q==0)=false:=by rw[ey];omega
    rw[List.find?_cons,hz]at hf;refine hR (i+1) ⟨oO,hf⟩ oO _ ?_;exact lE
  ·obtain rfl:i=12:=oO;have hf:b9.find? (fun p=>n%p==0)=none:=hf
   obtain⟨s,hs⟩: ∃s,s=Gb 64 (n-1):=⟨_,rfl⟩;obtain⟨d,hd⟩: ∃d,d=(n-1)/2^s:=⟨_,rfl⟩;have hz:=rK (n-1) oO oO;have hs64:=(Lib.lowest_bit 64 (n-1) oO (by show n-1<(2^64);omega)).2
   have hzs:Lib.ctz 64 (n-1)=s:=by rw[Lib.ctz,ae oO,TI,hs]
   rw[hzs]at hz hs64;have hdl:d<(2^64):=by rw[hd];exact fh (fg _ _) oO
   have e1: ∀ _:True,((n:Int)-1)=((n-1:Nat):Int):=fun _=>oO
   have e2: ∀ _:True,(if s<=64 then s else 64)=s:=fun _=>by split<;>omega
   have e3: ∀ _:True,(n-1)/2^s=d:=fun _=>hd.symm
   have key:fj n=b9.all (oi n s d):=by
    unfold fj;rw[ae h2,hf,<-hs,<-hd]
   rw[key];clear key hf hzs hs hd;refine Px (aN (e1 oT) (aN (e2 oT) (e3 oT))) @hz @hb ?_;refine af (α:=Nat) (fun i=>12-i) (fun i=>⟨[(0,U n),(5,E' s),(6,U d),(32, .v (.agg S5)),(33,E' i)],[],_⟩) (fun i=>i<=12/\b9.all (oi n s d)=(b9.drop i).all (oi n s d)) 0 (fun _=>ay _) ⟨oO,rfl⟩ ?_ ?_
   ·exact lE
   ·rintro i ⟨hi,hf⟩ R hR
    by_cases hlt:i<12
    ·have g1:=Xg hlt;obtain⟨q0,q1⟩:=QF hlt;rw[H9 hlt,List.all_cons]at hf;have hR1:=hR (i+1);generalize b9.getD i 0=q at*;have hq:q%n<n:=aL _ oO;have hp:=Oa hq hdl hn;obtain⟨x,hx⟩: ∃x,x=(q%n)^d%n:=⟨_,rfl⟩;have hxl:x<n:=by rw[hx];exact aL _ oO
     have hst:oi n s d q=(x==1||x==n-1||TB (s-1) x n):=by rw[hx];rfl
     rw[<-hx]at hp;clear hx;repeat' first|simp only[go_sem,seval,g1,hL,e1 oT]|refine cP hp ?_|refine oE ?_|apply xX<;>intro hc
     ·have hx1:x=1:=oO;refine hR1 ⟨oO,by rw[hf,hst,hx1];simp⟩ oO _ ?_
      exact lE
     ·have hx1:x=n-1:=oO;refine hR1 ⟨oO,by rw[hf,hst,hx1];simp⟩ oO _ ?_
      exact lE
     ·have hx1:(x==1)=false:=by rw[ey];omega
      have hx2:(x==n-1)=false:=by rw[ey];omega
      rw[hx1,hx2,j4,j4]at hst;refine af (α:=Nat×Nat) (fun z=>s-z.1) (fun z=>⟨[(0,U n),(5,E' s),(6,U d),(32, .v (.agg S5)),(33,E' i),(9,U z.2),(10,E' z.1)],[],_⟩) (fun z=>1<=z.1/\z.2<n/\TB (s-z.1) z.2 n=TB (s-1) x n) (1,x) (fun _=>ay _) ⟨ay 1,hxl,rfl⟩ ?_ ?_
      ·exact lE
      ·rintro⟨j,y⟩ ⟨hj,hy,hz⟩ R' hR';simp only at hj hy hz;have hm:=Ae hy hy hn;obtain⟨w,hw⟩: ∃w,w=y*y%n:=⟨_,rfl⟩;have hwl:w<n:=by rw[hw];exact aL _ oO
       have hz':j<s->(w==n-1||TB (s-(j+1)) w n)=TB (s-1) x n:=by
        intro g;rw[<-hz,show s-j=s-(j+1)+1 by omega,hw];rfl
       rw[<-hw]at hm;clear hw;repeat' first|simp only[go_sem,seval,e1 oT]|refine cP hm ?_|refine oE ?_|apply xX<;>intro hc
       ·have hw1:w=n-1:=oO;have:=hz' oO;rw[hw1,dO,j7]at this;refine hR1 ⟨oO,by rw[hf,hst,<-this,cj]⟩ oO _ ?_
        exact lE
       ·have hw1:(w==n-1)=false:=by rw[ey];omega
        have:=hz' oO;rw[hw1,j4]at this;refine hR' (j+1,w) ⟨by show 1<=j+1;omega,hwl,this⟩ (by show s-(j+1)<s-j;omega) _ ?_
        exact lE
       ·rw[hf,hst,<-hz,show s-j=0 by omega];rfl
    ·obtain rfl:i=12:=oO;refine xB ?_;rw[hf];rfl
theorem Hb (a:Bytes):aD 127 [.s a] (.tup [.i .u64 (if aa a&&decide (a.length<=8)then num a else 0),E (if aa a then(if a.length<=8 then 0 else 5)else 3)]):=by
 have hs:=oo a;have hv:=aS a;refine eW call127 func127 ?_;repeat' first|simp only[go_sem,seval]|refine cP hv ?_|refine cP hs ?_|refine oE ?_|apply xX<;>intro hc
 all_goals (simp_all<;>omega)
def jr (a:Bytes):Int:=if aa a then(if a.length<=8 then 0 else 5)else 3
theorem B6 (a:Bytes):aD 62 [.s a] (.tup [.b (aa a&&decide (a.length<=8)&&fj (num a)),E (jr a)]):=by
 have hs:=Hb a
 by_cases h:aa a=true/\a.length<=8
 ·obtain⟨h1,h2⟩:=h;have e:jr a=0:=by simp[jr,h1,h2]
  rw[h1,aI h2]at hs;have hi:=RR (eP h2);rw[h1,aI h2,e];refine eW call62 func62 ?_;repeat' first|simp only[go_sem,seval,au,ah h2]|refine cP hs ?_|refine cP hi ?_|refine oE ?_|apply xX<;>intro hc
  all_goals skip
 ·have h0:(aa a&&decide (a.length<=8))=false:=by
   rw[fy];intro g;simp at g;exact h g
  have e:jr a≠0:=by
   unfold jr;split
   ·rename_i g;rw[ae (fun g2=>h ⟨g,g2⟩)];decide
   ·decide
  rw[h0]at hs⊢;have e2:(if aa a then(if a.length<=8 then(0:Int)else 5)else 3)=jr a:=rfl
  rw[e2]at hs;refine eW call62 func62 ?_;repeat' first|simp only[go_sem,seval]|refine cP hs ?_|refine oE ?_|apply xX<;>intro hc
  all_goals skip

abbrev G (m o:Bytes):PV:= .agg [.s m, .s o]
theorem eE {a:Bytes} (h:aa a=true):N (num a)= .s a:=congrArg PV.s (gN h)
def iW (m o:Bytes):Bool:=aa m&&o==[]&&(num m).testBit 0&&decide (8<num m)
theorem Of8:aD 63 [.i .u64 8] (.s [8]):=lJ 8 oC
theorem sQ:aD 63 [.i .u64 1] (.s [1]):=lJ 1 oC
theorem WY:aD 63 [.i .u64 2] (.s [2]):=lJ 2 oC
theorem Rc (m o:Bytes):aD 361 [G m o] (.b (iW m o)):=by
 have hv:=aS m
 by_cases h:aa m=true
 ·have hb:=yH h 0 oC;have hcm:=mN m [8];rw[h]at hv;rw[h,show aa [8]=true from rfl,show num [8]=8 from rfl]at hcm
  have he:ba (num m) 8>0↔8<num m:=by unfold ba;split<;>(try split)<;>omega
  refine eW call361 func361 ?_;repeat' first|simp only[go_sem,seval]|refine cP hv ?_|refine cP hb ?_|refine cP Of8 ?_|refine cP hcm ?_|refine oE ?_|apply xX<;>intro hc
  all_goals simp_all[iW]
 ·have h:aa m=false:=by simpa using h
  rw[h]at hv;have e:iW m o=false:=by simp[iW,h]
  rw[e];refine eW call361 func361 ?_;exact z1 @hv
theorem Sr:aD 363 [] (N 1):=by
 refine eW call363 func363 ?_;exact z1 @sQ
def Ao (m o x:Bytes):Bool:=iW m o&&aa x&& !(x==[])&&decide (num x<num m)&&decide (Nat.gcd (num x) (num m)=1)
theorem y5 (a b:Nat):(ba a b>=0)=(b<=a):=by
 unfold ba;rw[eq_iff_iff];split<;>(try split)<;>omega
theorem Sb {m:Bytes} (lm:m.length<=8) (o x:Bytes):aD 241 [G m o, .s x] (.b (Ao m o x)):=by
 have hg:=Rc m o;have hv:=aS x
 by_cases h:iW m o=true/\aa x=true/\x≠[]/\num x<num m
 ·obtain⟨h1,h2,h3,h4⟩:=h;have hm:aa m=true:=by simp[iW]at h1;exact h1.1.1.1
  have hcm:=mN x m;rw[h2,hm]at hcm;have hnm:=eP lm;have hgc:=Zu (a:=num x) (b:=num m) oO hnm;rw[eE h2,eE hm]at hgc;rw[h1]at hg;rw[h2]at hv;have hx:(x==([]:Bytes))=false:=by simpa using h3
  have hlt: ¬ba (num x) (num m)>=0:=by rw[y5];omega
  have e:Ao m o x=decide (Nat.gcd (num x) (num m)=1):=by simp[Ao,h1,h2,h4];intro;exact h3
  rw[e];refine eW call241 func241 ?_;repeat' first|simp only[go_sem,seval,hx,wM]|refine cP hg ?_|refine cP hv ?_|refine cP hcm ?_|refine cP hgc ?_|refine cP Sr ?_|refine oE ?_|apply xX<;>intro hc
  all_goals skip
 ·have e:Ao m o x=false:=by
   rw[fy];intro g;simp[Ao]at g;exact h ⟨g.1.1.1.1,g.1.1.1.2,g.1.1.2,g.1.2⟩
  have hcm:=mN x m;rw[e]
  by_cases h1:iW m o=true
  ·have hm:aa m=true:=by simp[iW]at h1;exact h1.1.1.1
   rw[h1]at hg
   by_cases h2:aa x=true
   ·rw[h2]at hv;rw[h2,hm]at hcm
    by_cases h3:x=[]
    ·subst h3;refine eW call241 func241 ?_;exact AN @nn @hg @hv
    ·have hx:(x==([]:Bytes))=false:=by simpa using h3
     have hge:ba (num x) (num m)>=0:=by rw[y5];exact Nat.le_of_not_lt fun g=>h ⟨h1,h2,h3,g⟩
     refine eW call241 func241 ?_;repeat' first|simp only[go_sem,seval,hx]|refine cP hg ?_|refine cP hv ?_|refine cP hcm ?_|refine oE ?_|apply xX<;>intro hc
     all_goals skip
   ·have h2:aa x=false:=by simpa using h2
    rw[h2]at hv;refine eW call241 func241 ?_;exact z2 @hg @hv
  ·have h1:iW m o=false:=by simpa using h1
   rw[h1]at hg;refine eW call241 func241 ?_;exact z1 @hg
structure abh (m o p q:Bytes):Prop where
 vm:aa m=true
 vp:aa p=true
 vq:aa q=true
 lp:p.length<=8
 lq:q.length<=8
 o:o=[]
 mul:num m=num p*num q
 odd:num m%2=1
 sp:Nq (num p)=true
 sq:Nq (num q)=true
 ne:num p≠num q
theorem xK (n:Bool) (a:Bytes):aD 67 [.b n, .s a] (.agg [.b (n&& !(a==[])), .s a]):=by
 refine eW call67 func67 ?_;exact Zi
theorem hO (n:Bool) (a:Bytes):aD 138 [.agg [.b n, .s a]] (.b (aa a&& !(n&&a==[]))):=by
 have hv:=aS a;refine eW call138 func138 ?_;exact Zj @hv
theorem oU {a:Bytes} (h:aa a=true):aD 28 [.s a] (.agg [.b false, .s a]):=by
 have hv:=aS a;rw[h]at hv;refine eW call28 func28 ?_;repeat' first|simp only[go_sem,seval]|refine cP hv ?_|refine cP (xK _ _) ?_|refine oE ?_|apply xX<;>intro hc
 all_goals simp_all
theorem Kb (m o:Bytes):aD 359 [G m o] (.b (aa m&&aa o)):=by
 have v1:=aS m;have v2:=aS o;refine eW call359 func359 ?_;exact Wu @v1 @v2
theorem ZB {a b:Nat} (ha:a<(2^64)) (hb:b<(2^64)):aD 121 [N a,N b] (.tup [if b<=a then N (a-b)else .s [],E (if b<=a then 0 else 2)]):=by
 have:=LQ (aX a) (aX b);simp only[wD,vN ha,vN hb,dE,au,aP]at this
 by_cases h:b<=a
 ·simp only[h,au]at this⊢;exact this
 ·simp only[h,an]at this⊢;exact this
def nK (m o x:Bytes):Bool:=aa m&&aa o&&aa x&& !(o==[])&& !(x==[])&&decide (num x<num m)&&decide (num x^num o%num m=1%num m)
theorem N2 {m:Bytes} (lm:m.length<=8) (o x:Bytes):aD 240 [G m o, .s x] (.b (nK m o x)):=by
 have hf:=Kb m o;have vx:=aS x;have hcm:=mN x m
 by_cases h:aa m=true/\aa o=true/\aa x=true/\o≠[]/\x≠[]/\num x<num m
 ·obtain⟨v1,v2,v3,h4,h5,h6⟩:=h;have e4:(o==([]:Bytes))=false:=by simpa using h4
  have e5:(x==([]:Bytes))=false:=by simpa using h5
  have hn:=eP lm;have hE:=WW (a:=num x) (m:=num m) (e:=o) oO v2 hn oO;have hE0:=WW (a:=num x) (m:=num m) (e:=[]) oO rfl hn oO;rw[eE v3,eE v1]at hE hE0;rw[show num ([]:Bytes)=0 from rfl,Nat.pow_zero]at hE0
  rw[v1,v2]at hf;rw[v3]at vx;rw[v3,v1]at hcm;have hlt: ¬ba (num x) (num m)>=0:=by rw[y5];omega
  have e:nK m o x=decide (num x^num o%num m=1%num m):=by simp[nK,v1,v2,v3,e4,e5,h6]
  rw[e];generalize num x^num o%num m=z1 at*;generalize 1%num m=z2 at*;refine eW call240 func240 ?_;exact Py (aN @e4 (aN @e5 @wM)) @hf @vx @hcm @hE @hE0 oT oT
 ·have e:nK m o x=false:=by
   rw[fy];intro g;simp[nK]at g;exact h ⟨g.1.1.1.1.1.1,g.1.1.1.1.1.2,g.1.1.1.1.2,g.1.1.1.2,g.1.1.2,g.1.2⟩
  rw[e]
  by_cases v1:aa m=true<;>by_cases v2:aa o=true<;>by_cases v3:aa x=true
  ·rw[v1,v2]at hf;rw[v3]at vx;rw[v3,v1]at hcm
   by_cases h4:o=[]
   ·subst h4;refine eW call240 func240 ?_;exact AN @nn @hf @vx
   ·have e4:(o==([]:Bytes))=false:=by simpa using h4
    by_cases h5:x=[]
    ·subst h5;refine eW call240 func240 ?_;exact AN (aN @nn @e4) @hf @vx
    ·have e5:(x==([]:Bytes))=false:=by simpa using h5
     have hge:ba (num x) (num m)>=0:=by rw[y5];exact Nat.le_of_not_lt fun g=>h ⟨v1,v2,v3,h4,h5,g⟩
     refine eW call240 func240 ?_;exact yG (aN @e4 @e5) @hf @vx @hcm oT
  all_goals simp only[Bool.not_eq_true]at v1 v2 v3
  all_goals simp only[v1,v2,jB,uL,dE,cj,dW]at hf
  all_goals simp only[v3]at vx
  ·refine eW call240 func240 ?_;exact z2 @hf @vx
  ·refine eW call240 func240 ?_;exact z2 @hf @vx
  ·refine eW call240 func240 ?_;exact z2 @hf @vx
  ·refine eW call240 func240 ?_;exact z2 @hf @vx
  ·refine eW call240 func240 ?_;exact z2 @hf @vx
  ·refine eW call240 func240 ?_;exact z2 @hf @vx
  ·refine eW call240 func240 ?_;exact z2 @hf @vx
end Go.Proofs.Tryz
namespace Go.Dom
variable {a b g r0 r1:Nat} {x0 x1 y0 y1:Int}
structure sN (a b r0 r1:Nat) (x0 x1 y0 y1:Int):Prop where
 e0:(a:Int)*x0+b*y0=r0
 e1:(a:Int)*x1+b*y1=r1
 g:Nat.gcd r0 r1=Nat.gcd a b
 hx:x1.natAbs*r0+x0.natAbs*r1<=b
 hy:y1.natAbs*r0+y0.natAbs*r1<=a
 bx0:x0.natAbs<=b
 bx1:x1.natAbs<=b
 by0:y0.natAbs<=a+1
 by1:y1.natAbs<=a+1
theorem sN.start (hb:0<b):sN a b a b 1 0 0 1:=
 ⟨by omega,by omega,rfl,by simp,by simp,by show 1<=b;omega,by simp,by simp,by simp⟩
theorem Et {q B:Nat} (hq:q=r0/r1) (h:x1.natAbs*r0+x0.natAbs*r1<=B):(x0-q*x1).natAbs*r1+x1.natAbs*(r0%r1)<=B:=by
 have h1:(x0-q*x1).natAbs<=x0.natAbs+q*x1.natAbs:=by
  have:=Int.natAbs_sub_le x0 (q*x1)
  rwa[jg,Int.natAbs_natCast]at this
 have h2:=du r1 h1;have h3:r1*q+r0%r1=r0:=by rw[hq];exact iy r0 r1
 have h4:x1.natAbs*r0=x1.natAbs*(r1*q)+x1.natAbs*(r0%r1):=by rw[<-kp,h3]
 have h5:(x0.natAbs+q*x1.natAbs)*r1=x0.natAbs*r1+x1.natAbs*(r1*q):=by
  rw[c9,bO q,cF,bO q]
 omega
theorem sN.step (h:sN a b r0 r1 x0 x1 y0 y1) (h1:0<r1):sN a b r1 (r0%r1) x1 (x0-(r0/r1:Nat)*x1) y1 (y0-(r0/r1:Nat)*y1):=by
 have hx:=Et (q:=r0/r1) rfl h.hx;have hy:=Et (q:=r0/r1) rfl h.hy;have le: ∀{n B:Nat} {m:Nat},n*r1+m<=B->n<=B:=fun{n B m} g=>by
  have:=Nat.le_mul_of_pos_right n h1;omega
 refine⟨h.e1,?_,?_,hx,hy,h.bx1,le hx,h.by1,?_⟩
 ·have e0:=h.e0;have e1:=h.e1;have hd:=iy r0 r1;generalize r0/r1=q at*;generalize r0%r1=t at*;have:(r0:Int)=r1*q+t:=by rw[<-hd];simp
  rw[pG,pG];have e3:(a:Int)*(q*x1)=q*(a*x1):=by rw[<-mF,uP (a:Int),mF]
  have e4:(b:Int)*(q*y1)=q*(b*y1):=by rw[<-mF,uP (b:Int),mF]
  have e5:(q:Int)*(a*x1)+q*(b*y1)=r1*q:=by rw[<-mD,e1,uP]
  omega
 ·rw[<-h.g,iK r0 r1,mE r1 r0,iK]
 ·have:=le hy;omega
theorem GO {X Y:Int} (h0:0<=X) (h:(a:Int)*X+b*Y=1):a*(X.natAbs%b)%b=1%b:=by
 obtain⟨n,rfl⟩:=Int.eq_ofNat_of_zero_le h0;rw[Int.natAbs_natCast,jj];have e:((a*n:Nat):Int)%b=(1:Int)%b:=by
  have:((a*n:Nat):Int)=1+b*(-Y):=by simp only[Int.natCast_mul,pw];omega
  rw[this,ri]
 exact_mod_cast e
theorem No {a m i j:Nat} (hi:i<m) (hj:j<m) (h1:a*i%m=1%m) (h2:a*j%m=1%m):i=j:=by
 have e1:i*(a*j)%m=i%m:=by rw[<-jj,h2,jj,dN]
 have e2:i*(a*j)%m=j%m:=by rw[<-cF,bO i a,<-jz,h1,jz,kW]
 rw[bY hi]at e1;rw[bY hj]at e2;omega
noncomputable def fR (a m:Nat):Nat:= @dite _ (∃i,i<m/\a*i%m=1%m) (Classical.propDecidable _) (fun h=>Classical.choose h) (fun _=>0)
theorem jd {a m i:Nat} (hi:i<m) (h:a*i%m=1%m):fR a m=i:=by
 have hx: ∃i,i<m/\a*i%m=1%m:=⟨i,hi,h⟩;unfold fR;rw[dif_pos hx];obtain⟨g1,g2⟩:=Classical.choose_spec hx;exact No g1 hi g2 h
theorem sN.fin (h:sN a b g 0 x0 x1 y0 y1):g=Nat.gcd a b:=by
 have:=h.g;rwa[DY]at this
theorem sN.inv (h:sN a b 1 0 x0 x1 y0 y1) (hb:0<b): ∀X:Int,X=(if x0<0 then x0+b else x0)->0<=X/\X<=b/\X.natAbs%b=fR a b:=by
 intro X hX;have b0:=h.bx0;have h0:0<=X:=by rw[hX];split<;>omega
 refine⟨h0,by rw[hX];split<;>omega,(jd (aL _ hb) ?_).symm⟩
 have e0:=h.e0
 by_cases hx:x0<0
 ·rw[ah hx]at hX;refine GO (Y:=y0-a) h0 ?_;rw[hX,mD,pG,uP (b:Int) a];omega
 ·rw[ae hx]at hX;exact GO (Y:=y0) h0 (by rw[hX];omega)
def EJ:Nat->Nat->Nat->Int->Int->Int->Int->Nat×Int×Int
 |0,r0,_,x0,_,y0,_=>(r0,x0,y0)
 |f+1,r0,r1,x0,x1,y0,y1=>if r1=0 then(r0,x0,y0)else EJ f r1 (r0%r1) x1 (x0-(r0/r1:Nat)*x1) y1 (y0-(r0/r1:Nat)*y1)
theorem EK: ∀{f r0 r1:Nat} {x0 x1 y0 y1:Int},r1<f->sN a b r0 r1 x0 x1 y0 y1-> ∃x' y',sN a b (EJ f r0 r1 x0 x1 y0 y1).1 0 (EJ f r0 r1 x0 x1 y0 y1).2.1 x' (EJ f r0 r1 x0 x1 y0 y1).2.2 y'
 |0,_,_,_,_,_,_,h,_=>aW h (pB _)
 |f+1,r0,r1,x0,x1,y0,y1,h,hE=>by
  unfold EJ;split
  ·rename_i h0;subst h0;exact⟨x1,y1,hE⟩
  ·rename_i h0;exact EK (by have:=aL r0 (show 0<r1 by omega);omega) (hE.step (by omega))
structure S1 (a b g:Nat) (x y:Int):Prop where
 z:b=0->x=1/\y=0
 bx:0<b->x.natAbs<=b
 by':0<b->y.natAbs<=max a 1
 e:(a:Int)*x+b*y=g
 g:g=Nat.gcd a b
theorem S1.base (a:Nat):S1 a 0 a 1 0:=⟨fun _=>⟨rfl,rfl⟩,fun h=>by omega,fun h=>by omega,by simp,by simp⟩
theorem S1.step {x y:Int} (hb:0<b) (h:S1 b (a%b) g x y):S1 a b g y (x-(a/b:Nat)*y):=by
 have hd:=iy a b;have hg:g=Nat.gcd a b:=by rw[h.g,iK a b,mE b a,iK]
 have he:=h.e;have e1:(a:Int)=b*(a/b:Nat)+(a%b:Nat):=by
  have:((b*(a/b)+a%b:Nat):Int)=(a:Int):=by rw[hd]
  rw[<-this];simp
 rcases j6 (a%b)with h0|h0
 ·obtain⟨rfl,rfl⟩:=h.z h0;refine⟨by omega,by simp,fun _=>by simp;omega,?_,hg⟩
  simp only[yt,Int.sub_zero,Int.mul_one,yA,Int.add_zero]at he⊢;exact he
 ·have bx:=h.bx h0;have by1:y.natAbs<=b:=by have:=h.by' h0;omega
  refine⟨by omega,fun _=>by1,fun _=> ?_,?_,hg⟩
  ·have h1:(x-(a/b:Nat)*y).natAbs<=x.natAbs+a/b*y.natAbs:=by
    have:=Int.natAbs_sub_le x ((a/b:Nat)*y)
    rwa[jg,Int.natAbs_natCast]at this
   have h2:=je (a/b) by1;have h3:a/b*b=b*(a/b):=bO _ _;omega
  ·generalize a/b=q at*;generalize a%b=t at*;rw[pG,e1,Int.add_mul];have e3:(b:Int)*q*y=b*(q*y):=mF ..;omega
noncomputable def dh (m x:Nat) (ng:Bool) (e:Nat):Nat:=(if ng then fR x m else x)^e%m
def ga (m x:Nat):Prop:= ∃i,i<m/\x*i%m=1%m
theorem ga.inv {m x:Nat} (h:ga m x):fR x m<m/\x*fR x m%m=1%m:=by
 obtain⟨i,h1,h2⟩:=h;rw[jd h1 h2];exact⟨h1,h2⟩
theorem ga.Xw {m x:Nat} (h:ga m x) (hm:0<m):ga m (fR x m):=
 ⟨x%m,aL _ hm,by rw[jj,bO];exact h.inv.2⟩
theorem ga.pow {m x:Nat} (h:ga m x) (hm:0<m) (e:Nat):ga m (x^e%m)/\fR (x^e%m) m=fR x m^e%m:=by
 obtain⟨h1,h2⟩:=h.inv;have key:x^e%m*(fR x m^e%m)%m=1%m:=by
  rw[<-dp,<-yj,iL,h2,<-iL,uM]
 have hl:fR x m^e%m<m:=aL _ hm;exact⟨⟨_,hl,key⟩,jd hl key⟩
theorem ga.inv2 {m x:Nat} (h:ga m x) (hm:0<m):fR (fR x m) m=x%m:=
 jd (aL _ hm) (by rw[jj,bO];exact h.inv.2)
theorem ga.dh {m x:Nat} (h:ga m x) (hm:0<m) (ng:Bool) (e:Nat):ga m (Dom.dh m x ng e):=by
 unfold Dom.dh;cases ng
 ·exact(h.pow hm e).1
 ·exact((h.Xw hm).pow hm e).1
theorem ga.mul {m x y:Nat} (h:ga m x) (g:ga m y) (hm:0<m):ga m (x*y%m):=by
 obtain⟨i,h1,h2⟩:=h;obtain⟨j,g1,g2⟩:=g;refine⟨i*j%m,aL _ hm,?_⟩;rw[<-dp];have e:x*y*(i*j)=(x*i)*(y*j):=by
  rw[cF,cF];congr 1;rw[<-cF,bO y i,cF]
 rw[e,dp,h2,g2,<-dp,kW]
theorem l7 (m x a b:Nat):(x^a%m)^b%m=x^(a*b)%m:=by rw[<-iL,<-ko]
theorem KG {m x:Nat} (h:ga m x) (hm:0<m) (n1 n2:Bool) (a b:Nat):dh m (dh m x n1 a) n2 b=dh m x (n1 !=n2) (a*b):=by
 cases n1<;>cases n2
 ·simp only[dh,bm,an,jl,l7]
 ·have:=(h.pow hm a).2;simp only[dh,bm,an,au,this,l7,Bool.bne_true,ca]
 ·simp only[dh,bm,an,au,l7,Bool.bne_false]
 ·have h1:=((h.Xw hm).pow hm a).2;rw[h.inv2 hm]at h1;simp only[dh,au,jl,bm,an,h1];rw[l7,<-iL]
theorem vW (m x:Nat) (n:Bool):dh m x n 0=1%m:=by simp[dh]
theorem gL {m x:Nat} (hm:0<m) (h:Nat.gcd x m=1):ga m x:=by
 have key: ∀(n a b:Nat),b<=n-> ∃X Y:Int,(a:Int)*X+b*Y=Nat.gcd a b:=by
  intro n
  induction n with
  |zero=>
   intro a b hb;obtain rfl:b=0:=by omega
   exact⟨1,0,by simp⟩
  |succ n ih=>
   intro a b hb;rcases j6 b with rfl|h0
   ·exact⟨1,0,by simp⟩
   ·obtain⟨X,Y,e⟩:=ih b (a%b) (by have:=aL a h0;omega)
    refine⟨Y,X-(a/b:Nat)*Y,?_⟩;have hg:Nat.gcd b (a%b)=Nat.gcd a b:=by rw[iK a b,mE b a,iK]
    rw[<-hg,<-e];have e1:(a:Int)=b*(a/b:Nat)+(a%b:Nat):=by
     have:((b*(a/b)+a%b:Nat):Int)=(a:Int):=by rw[iy]
     rw[<-this];simp
    generalize a/b=q at*;generalize a%b=t at*;rw[pG,e1,Int.add_mul];have e3:(b:Int)*q*Y=b*(q*Y):=mF ..;omega
 obtain⟨X,Y,e⟩:=key m x m (ay _);rw[h]at e;refine⟨(X%(m:Int)).toNat,?_,?_⟩
 ·have:=gT X (show(0:Int)<m by omega)
  have:=gK X (show(m:Int)≠0 by omega)
  omega
 ·have h0:=gK X (show(m:Int)≠0 by omega)
  have e2:((x*(X%(m:Int)).toNat:Nat):Int)%m=(1:Int)%m:=by
   rw[Int.natCast_mul,lz h0,Int.mul_emod,Int.emod_emod_of_dvd _ (Int.dvd_refl _),<-Int.mul_emod];have:(x:Int)*X=1+m*(-Y):=by rw[pw];simp at e;omega
   rw[this,ri]
  exact_mod_cast e2
noncomputable def jP (m x:Nat) (z:Int):Nat:=dh m x (decide (z<0)) z.natAbs
theorem pd {m x y:Nat} (h:x*y%m=1%m) (n k:Nat):x^(n+k)*y^k%m=x^n%m:=by
 rw[cZ,cF,<-yj,dp,iL (x*y) k m,h,<-iL,uM,<-dp,dN]
theorem nL (m x:Nat) (n:Nat):jP m x (n:Int)=x^n%m:=by
 unfold jP dh;rw[aH (by omega)];simp
theorem jW {m x:Nat} (n:Nat):jP m x (-(n:Int))=fR x m^n%m:=by
 unfold jP dh
 by_cases h:n=0
 ·subst h;simp
 ·rw[aI (by omega)];simp
theorem Fo {m x:Nat} (h:ga m x) (hm:0<m) (a b:Int):jP m x a*jP m x b%m=jP m x (a+b):=by
 obtain⟨h1,h2⟩:=h.inv;have h3:fR x m*x%m=1%m:=by rw[bO];exact h2
 rcases Int.eq_nat_or_neg a with⟨n,rfl|rfl⟩<;>rcases Int.eq_nat_or_neg b with⟨k,rfl|rfl⟩
 ·rw[nL,nL,<-dp,<-cZ,<-nL];simp
 ·rw[nL,jW,<-dp];rcases Nat.le_total k n with hk|hk
  ·obtain⟨d,rfl⟩:=x5 hk;rw[ij k d,pd h2,<-nL];congr 1;omega
  ·obtain⟨d,rfl⟩:=x5 hk;rw[bO,ij n d,pd h3,<-jW];congr 1;omega
 ·rw[nL,jW,<-dp];rcases Nat.le_total k n with hk|hk
  ·obtain⟨d,rfl⟩:=x5 hk;rw[ij k d,pd h3,<-jW];congr 1;omega
  ·obtain⟨d,rfl⟩:=x5 hk;rw[bO,ij n d,pd h2,<-nL];congr 1;omega
 ·rw[jW,jW,<-dp,<-cZ,<-jW];congr 1;omega
theorem N5 {m x:Nat} (h:ga m x) (hm:0<m) (w c:Nat):jP m (x^w%m) (-(c:Int))=jP m x (-((c*w:Nat):Int)):=by
 rw[jW,jW,(h.pow hm w).2,l7,bO c w]
theorem FE {m x:Nat} (h:ga m x) (hm:0<m) (a:Int) (w c:Nat):jP m (x^w%m) (-(c:Int))*jP m x (a+(c*w:Nat))%m=jP m x a:=by
 rw[N5 h hm,Fo h hm];congr 1;omega
def pp (l:List (Nat×Nat)) (k:Nat):Nat:=l.foldr (fun p a=>p.1^(p.2/2^k)*a) 1
def pb (l:List (Nat×Nat)) (k:Nat):Nat:=l.foldr (fun p a=>p.1^(p.2/2^k%2)*a) 1
theorem xM (p:Nat×Nat) (l:List (Nat×Nat)) (k:Nat):pp (p::l) k=p.1^(p.2/2^k)*pp l k:=rfl
theorem Df (p:Nat×Nat) (l:List (Nat×Nat)) (k:Nat):pb (p::l) k=p.1^(p.2/2^k%2)*pb l k:=rfl
theorem RN (l:List (Nat×Nat)) (p:Nat×Nat) (k:Nat):pb (l++[p]) k=pb l k*p.1^(p.2/2^k%2):=by
 induction l with
 |nil=>simp[pb]
 |cons q l ih=>rw[List.cons_append,Df,Df,ih,cF]
theorem RQ (l:List (Nat×Nat)) (k:Nat):pp l k=pp l (k+1)*pp l (k+1)*pb l k:=by
 induction l with
 |nil=>rfl
 |cons p l ih=>
  rw[xM,xM,Df,ih];have e:p.2/2^k=p.2/2^(k+1)+p.2/2^(k+1)+p.2/2^k%2:=by
   have:p.2/2^(k+1)=p.2/2^k/2:=by rw[Nat.pow_succ,eZ]
   omega
  rw[e,cZ,cZ,<-e];generalize p.1^(p.2/2^(k+1))=a;generalize p.1^(p.2/2^k%2)=b;generalize pp l (k+1)=c;generalize pb l k=d;simp only[cF,Nat.mul_left_comm,bO]
theorem VK {l:List (Nat×Nat)} {k:Nat} (h: ∀p∈l,p.2<2^k):pp l k=1:=by
 induction l with
 |nil=>rfl
 |cons p l ih=>
  rw[xM,ih fun q hq=>h q (ka _ hq),iD (h p (ur ..))];rfl
noncomputable def S8 (M:Nat) (x:Nat) (e:Bool×Bytes):Nat:=if e.1 then fR x M else x
noncomputable def B5 (M:Nat) (l:List (Nat×(Bool×Bytes))):Nat:=pp (l.map fun p=>(S8 M p.1 p.2,num p.2.2)) 0%M
theorem Dg (M:Nat):B5 M []=1%M:=rfl
theorem N7 (p:Nat×Nat) (l:List (Nat×Nat)):pp (p::l) 0=p.1^p.2*pp l 0:=by rw[xM,Nat.pow_zero,iR]
theorem tR (M:Nat) (x:Nat) (e:Bool×Bytes) (l:List (Nat×(Bool×Bytes))):B5 M ((x,e)::l)=dh M x e.1 (num e.2)*B5 M l%M:=by
 unfold B5 dh;rw[br,N7,<-dp];rfl
theorem I2 (M:Nat) (x:Nat) (e:Bool×Bytes):B5 M [(x,e)]=dh M x e.1 (num e.2):=by
 rw[tR,Dg,jj,dN];unfold dh;rw[ep]
theorem KE (m x:Nat):jP m x 0=1%m:=vW _ _ _
theorem B3 {m x:Nat} (h:ga m x) (hm:0<m) (a b:Int):jP m (jP m x a) b=jP m x (a*b):=by
 unfold jP;rw[KG h hm,jg]
 by_cases h0:a.natAbs*b.natAbs=0
 ·rw[h0,vW,vW]
 ·congr 1;have ha:a≠0:=fun e=>h0 (by simp[e])
  have hb:b≠0:=fun e=>h0 (by simp[e])
  rw[dK];simp only[uT,ne_eq,lF,cq];rcases Int.lt_or_gt_of_ne ha with h1|h1<;>rcases Int.lt_or_gt_of_ne hb with h2|h2
  ·have:=Int.mul_pos_of_neg_of_neg h1 h2;generalize a*b=c at*;omega
  ·have:=Int.mul_neg_of_neg_of_pos h1 h2;generalize a*b=c at*;omega
  ·have:=Int.mul_neg_of_pos_of_neg h1 h2;generalize a*b=c at*;omega
  ·have:=Int.mul_pos h1 h2;generalize a*b=c at*;omega
theorem N3 (m x:Nat) (z:Int):jP m x z%m=jP m x z:=ep _ _
theorem Pd {m:Nat} (hm:0<m):ga m (1%m):=⟨1%m,aL _ hm,by rw[<-dp,kW]⟩
variable {α:Type} {m:Nat} (b:α->Nat)
theorem N4 {x o:Nat} (hx:ga m x) (hm:0<m) (ho:x^o%m=1%m) {a c:Int} (h:(o:Int)∣a-c):jP m x a=jP m x c:=by
 obtain⟨k,hk⟩:=h;have e:a=c+o*k:=by omega
 have h1:jP m x (o*k)=1%m:=by
  rw[<-B3 hx hm,nL,ho];have:=B3 (Pd hm) hm 0 k
  rwa[Int.zero_mul,KE]at this
 rw[e,<-Fo hx hm,h1,jj,dN,N3]
end Go.Dom
namespace Go.Dom
def Cg (q a b:Int):Prop:= ∃k,a-b=q*k
namespace Cg
variable {q a b c d:Int}
theorem Oy (a:Int):Cg q a a:=⟨0,by grind⟩
theorem of_eq (h:a=b):Cg q a b:=h▸Oy a
theorem symm (h:Cg q a b):Cg q b a:=by obtain⟨k,h⟩:=h;exact⟨-k,by grind⟩
theorem trans (h:Cg q a b) (g:Cg q b c):Cg q a c:=by
 obtain⟨k,h⟩:=h;obtain⟨l,g⟩:=g;exact⟨k+l,by grind⟩
theorem add (h:Cg q a b) (g:Cg q c d):Cg q (a+c) (b+d):=by
 obtain⟨k,h⟩:=h;obtain⟨l,g⟩:=g;exact⟨k+l,by grind⟩
theorem sub (h:Cg q a b) (g:Cg q c d):Cg q (a-c) (b-d):=by
 obtain⟨k,h⟩:=h;obtain⟨l,g⟩:=g;exact⟨k-l,by grind⟩
theorem mul (h:Cg q a b) (g:Cg q c d):Cg q (a*c) (b*d):=by
 obtain⟨k,h⟩:=h;obtain⟨l,g⟩:=g;exact⟨k*c+b*l,by grind⟩
theorem emod (q a:Int):Cg q (a%q) a:=⟨-(a/q),by have:=Int.mul_ediv_add_emod a q;grind⟩
end Cg
variable {a b q:Int}
def Iv (q a:Int):Prop:= ∃b,Cg q (a*b) 1
theorem Iv.mul (h:Iv q a) (g:Iv q b):Iv q (a*b):=by
 obtain⟨x,h⟩:=h;obtain⟨y,g⟩:=g;exact⟨x*y,(Cg.of_eq (by grind)).trans (h.mul g)⟩
theorem Iv.one (q:Int):Iv q 1:=⟨1,Cg.of_eq rfl⟩
theorem Iv.neg (h:Iv q a):Iv q (-a):=by
 obtain⟨x,h⟩:=h;exact⟨-x,(Cg.of_eq (by grind)).trans h⟩
theorem Iv.cg (h:Iv q a) (g:Cg q a b):Iv q b:=by
 obtain⟨x,h⟩:=h;exact⟨x,(g.symm.mul (Cg.Oy x)).trans h⟩
def evP:List Int->Int->Int
 |[],_=>0
 |a::p,x=>a+x*evP p x
def quo (a:Int):List Int->List Int
 |[]=>[]
 | _::p=>match p with
  |[]=>[]
  |b::r=>evP (b::r) a::quo a (b::r)
def WA (q:Int):List Int->Prop
 |[]=>True
 |a::l=>(∀x∈l,Iv q (x-a))/\WA q l
def PF:List Int->List Int->List Int
 |[],b=>b
 |a,[]=>a
 |a::p,b::r=>(a+b)::PF p r
theorem IZ: ∀p r:List Int,(PF p r).length=max p.length r.length
 |[],r=>by simp[PF]
 |a::p,[]=>by simp[PF]
 |a::p,b::r=>by
  have:=IZ p r;simp only[PF,List.length_cons];omega
def VL (l:List Int) (x:Int):Int:=(l.map fun a=>x-a).prod
theorem Fp (a:Int) (l:List Int) (x:Int):VL (a::l) x=(x-a)*VL l x:=by simp[VL]
theorem VM {l:List Int} {x:Int} (h: ∀a∈l,Iv q (x-a)):Iv q (VL l x):=by
 induction l with
 |nil=>exact Iv.one q
 |cons a l ih=>rw[Fp];exact(h a (.head _)).mul (ih fun b hb=>h b (.tail _ hb))
theorem WA.iv: ∀{l:List Int} {i:Nat},WA q l->i<l.length-> ∀a∈l.eraseIdx i,Iv q (l.getD i 0-a)
 |[],_,_,hi,_,_=>by simp at hi
 |b::l,0,h,_,a,ha=>by
  have:=(h.1 a (by simpa using ha)).neg
  exact this.cg (Cg.of_eq (by simp only[fY];omega))
 |b::l,i+1,h,hi,a,ha=>by
  have hi':i<l.length:=by simpa using hi
  rw[eK];rw[List.eraseIdx_cons_succ]at ha;rcases cr.1 ha with rfl|ha
  ·refine h.1 _ ?_;rw[bu,bC hi'];exact j9 hi'
  ·exact WA.iv h.2 hi' a ha
variable {q:Int} {l:List Int} {w:Nat->Int}
end Go.Dom
namespace Go.Dom
def Ze (q:Int) (p:List Int):List Int:=p.map (·%q)
theorem Ry (q:Int) (p:List Int):(Ze q p).length=p.length:=aB ..
def mb (q:Int) (p:List Int) (a:Int):List Int:=Ze q (PF (0::p) (p.map (-a* ·)))
theorem qO (q a:Int) (p:List Int):(mb q p a).length=p.length+1:=by
 rw[mb,Ry,IZ,aB,List.length_cons];omega
def Bm (q:Int) (l:List Int):List Int:=l.foldl (mb q) [1]
theorem IW (q:Int): ∀(l:List Int) (p:List Int),(l.foldl (mb q) p).length=p.length+l.length
 |[],p=>rfl
 |a::l,p=>by rw[List.foldl_cons,IW q l,qO,List.length_cons];omega
theorem Da (q:Int) (l:List Int):(Bm q l).length=l.length+1:=by rw[Bm,IW];simp;omega
def wZ (q x:Int) (l:List Int):Int:=l.foldl (fun s a=>s*((x-a)%q)%q) 1
theorem ON (q x:Int): ∀(l:List Int) (s:Int),Cg q (l.foldl (fun s a=>s*((x-a)%q)%q) s) (s*VL l x)
 |[],s=>Cg.of_eq (by simp[VL])
 |a::l,s=>by
  rw[List.foldl_cons,Fp];exact(ON q x l _).trans ((((Cg.emod q _).trans ((Cg.Oy s).mul (Cg.emod q _))).mul (Cg.Oy _)).trans (Cg.of_eq (by grind)))
theorem We (q x:Int) (l:List Int):Cg q (wZ q x l) (VL l x):=(ON q x l 1).trans (Cg.of_eq (by grind))
theorem Ac: ∀(p r:List Int) (j:Nat),(PF p r).getD j 0=p.getD j 0+r.getD j 0
 |[],r,j=>by simp[PF]
 |a::p,[],j=>by simp[PF]
 |a::p,b::r,0=>rfl
 |a::p,b::r,j+1=>by
  simp only[PF,eK];exact Ac p r j
theorem qN (f:Int->Int) (h:f 0=0): ∀(p:List Int) (j:Nat),(p.map f).getD j 0=f (p.getD j 0)
 |[],j=>by simp[h]
 |a::p,0=>rfl
 |a::p,j+1=>by simp only[br,eK];exact qN f h p j
theorem zQ (q:Int) (p:List Int) (j:Nat):(Ze q p).getD j 0=p.getD j 0%q:=qN _ (Int.zero_emod q) p j
theorem NH (q a:Int) (p:List Int):(mb q p a).getD 0 0=(-a*p.getD 0 0)%q:=by
 rw[mb,zQ,Ac,qN (-a* ·) (by grind),fY,yA]
theorem Fa (q a:Int) (p:List Int) (j:Nat):(mb q p a).getD (j+1) 0=(p.getD j 0+ -a*p.getD (j+1) 0)%q:=by
 rw[mb,zQ,Ac,qN (-a* ·) (by grind),eK]
theorem CY {α:Type} (d:α): ∀(l:List α) (j:Nat),l.length<=j->l.getD j d=d
 |[],j,_=>rfl
 |a::l,0,h=>by simp at h
 |a::l,j+1,h=>by rw[eK];exact CY d l j (by simpa using h)
def Be (q:Int) (P:Nat->List Int) (f:Nat->Int) (j:Nat):Nat->Int
 |0=>0
 |i+1=>(Be q P f j i+(P i).getD j 0*f i%q)%q
def xG (q:Int) (p:List Int) (x:Int):Int:=p.foldr (fun a y=>(y*x%q+a)%q) 0
variable {m:Nat}
variable {q:Nat} {l:List Int} {w:Nat->Int}
end Go.Dom
namespace Go.Dom
def Lp (q:Int) (l:List Int) (f:Nat->Int):List Int:=(List.range l.length).map fun j=>Be q (fun k=>Bm q (l.eraseIdx k)) f j l.length
theorem zw {q:Int} (hq:0<q) (x:Int): ∀p:List Int,0<=xG q p x/\xG q p x<q
 |[]=>⟨mG _,hq⟩
 |a::p=>⟨gK _ (by omega),gT _ hq⟩
theorem rO {q:Int} (hq:0<q) (P:Nat->List Int) (f:Nat->Int) (j:Nat): ∀n,0<=Be q P f j n/\Be q P f j n<q
 |0=>⟨mG _,hq⟩
 |n+1=>⟨gK _ (by omega),gT _ hq⟩
theorem Iv.Vl {q a b:Nat} (h:a*b%q=1%q):Iv q a:=by
 refine⟨b,?_⟩;have h1:Cg q (((a*b%q:Nat):Int)) ((a*b:Nat):Int):=by rw[Int.natCast_emod];exact Cg.emod _ _
 have h2:Cg q (((1%q:Nat):Int)) ((1:Nat):Int):=by rw[Int.natCast_emod];exact Cg.emod _ _
 rw[<-Int.natCast_mul];exact h1.symm.trans ((Cg.of_eq (by rw[h])).trans h2)
end Go.Dom
namespace Go.Dom
open Go.Num
variable {a q:Nat}
theorem r8 (h:fj q=true):2<=q/\(q∈b9\/ ∀p∈b9,¬q%p=0):=by
 unfold fj at h
 split at h
 ·exact aW h (by decide)
 ·rename_i h2;refine⟨by omega,?_⟩
  split at h
  ·rename_i p hf;have:=List.mem_of_find?_eq_some hf;exact .inl (by rw[show q=p by simpa using h];exact this)
  ·rename_i hf;exact .inr fun p hp hz=>by
    have:=List.find?_eq_none.1 hf p hp;simp[hz]at this
theorem Q1 (h:fj q=true) (a0:0<a) (a8:a<=8) (hq:a<q):Nat.gcd a q=1:=by
 obtain⟨h2,h|h⟩:=r8 h
 ·have hd: ∀q∈b9,∀a,a<=8->0<a->a<q->Nat.gcd a q=1:=by decide
  exact hd q h a a8 a0 hq
 ·have e2:=h 2 (by decide)
  have e3:=h 3 (by decide)
  have e5:=h 5 (by decide)
  have e7:=h 7 (by decide)
  rw[mE];obtain⟨r,hr⟩: ∃r,r=q%a:=⟨_,rfl⟩;rw[<-hr];have hd: ∀a:Fin 9,∀r:Fin 9,r.1<a.1->(a.1%2=0/\r.1%2=0)\/(a.1%3=0/\r.1%3=0)\/(a.1%5=0/\r.1%5=0)\/(a.1%7=0/\r.1%7=0)\/Nat.gcd r.1 a.1=1:=by decide
  have hra:r<a:=hr▸aL _ a0;have hm: ∀p,a%p=0->q%p≠0->r%p≠0:=fun p hp hq hz=>by
   rw[hr,uz _ (Nat.dvd_of_mod_eq_zero hp)]at hz;exact hq hz
  rcases hd ⟨a,by omega⟩ ⟨r,by omega⟩ hra with⟨e,f⟩|⟨e,f⟩|⟨e,f⟩|⟨e,f⟩|e
  ·exact aW f (hm 2 e e2)
  ·exact aW f (hm 3 e e3)
  ·exact aW f (hm 5 e e5)
  ·exact aW f (hm 7 e e7)
  ·exact e
theorem MQ (h:fj q=true) (a0:0<a) (a8:a<=8) (hq:a<q):ga q a:=gL (by omega) (Q1 h a0 a8 hq)
theorem MP (h:fj q=true) (a0:0<a) (a8:a<=8) (hq:a<q):Iv q a:=by
 obtain⟨b,-,hb⟩:=MQ h a0 a8 hq;exact Iv.Vl hb
theorem Q2 {b:Nat} (h:fj q=true) (hn:a≠b) (ha:a<=8) (hb:b<=8) (qa:a<q) (qb:b<q):Iv q ((a:Int)-b):=by
 rcases Nat.lt_or_gt_of_ne hn with g|g
 ·have:=(MP h (a:=b-a) (by omega) (by omega) (by omega)).neg
  exact this.cg (Cg.of_eq (by omega))
 ·have:=MP h (a:=a-b) (by omega) (by omega) (by omega)
  exact this.cg (Cg.of_eq (by omega))
theorem IB (h:fj q=true): ∀{l:List Nat},l.Nodup->(∀a∈l,a<=8/\a<q)->WA q (l.map fun a:Nat=>(a:Int))
 |[],_,_=>trivial
 |a::l,hd,hb=>by
  have hd:=qW.1 hd;refine⟨fun x hx=> ?_,IB h hd.2 fun b hb'=>hb b (.tail _ hb')⟩
  obtain⟨b,hb',rfl⟩:=bG.1 hx;have ha:=hb a (.head _);have hbb:=hb b (.tail _ hb');exact Q2 h (fun e=>hd.1 (e▸hb')) hbb.1 ha.1 hbb.2 ha.2
end Go.Dom
namespace Go.Proofs.Tryz
open Go Go.Dom
variable {x y:Int}
def zs (x:Int):Bool:=decide (x<0)
def zb (x:Int):Bytes:=aX x.natAbs
abbrev Z (x:Int):PV:= .agg [.b (zs x), .s (zb x)]
def dL:Nat:=340282366920938463463374607431768211456
theorem xz:dL<=cW:=by unfold cW dL;decide+kernel
theorem Gd:dL*dL<=cW:=by unfold cW dL;decide+kernel
theorem vB {n:Nat} (h:n<cW):aa (aX n)=true:=qS h
theorem mf (n:Nat):zb (n:Int)=aX n:=rfl
theorem mj (n:Nat):zs (n:Int)=false:=by simp[zs]
theorem vQ (x:Int):num (zb x)=x.natAbs:=aP _
theorem Wo (x:Int):(zb x==([]:Bytes))=decide (x=0):=by
 unfold zb;rw[dK];simp[gM]
theorem Wv (h:x.natAbs<cW):(aa (zb x)&& !(zs x&&zb x==[]))=true:=by
 rw[Wo,show aa (zb x)=true from vB h]
 simp[zs];omega
theorem zmk (b:Bool) (n:Nat):(.agg [.b (b&& !(aX n==[])),N n]:PV)=Z (if b then-(n:Int)else n):=by
 by_cases h:n=0
 ·subst h;cases b<;>rfl
 ·have e:(aX n==([]:Bytes))=false:=tJ h;cases b
  ·simp[Z,zs,zb]
  ·have:decide (-(n:Int)<0)=true:=aI oO;simp[Z,zs,zb,e,h];omega
theorem Y3 (x y:Int):(if(zs x !=zs y)then-((x.natAbs*y.natAbs:Nat):Int)else((x.natAbs*y.natAbs:Nat):Int))=x*y:=by
 rw[Int.natCast_mul];unfold zs
 by_cases h1:x<0<;>by_cases h2:y<0<;>simp only[h1,h2,decide_true,decide_false,jl,bm,an]
 ·have e1:(x.natAbs:Int)= -x:=oO;have e2:(y.natAbs:Int)= -y:=oO;rw[e1,e2,Int.neg_mul_neg]
 ·have e1:(x.natAbs:Int)= -x:=oO;have e2:(y.natAbs:Int)=y:=oO;simp only[Bool.bne_false,au];rw[e1,e2,uF,Int.neg_neg]
 ·have e1:(x.natAbs:Int)=x:=oO;have e2:(y.natAbs:Int)= -y:=oO;simp only[Bool.false_bne,au];rw[e1,e2,pw,Int.neg_neg]
 ·have e1:(x.natAbs:Int)=x:=oO;have e2:(y.natAbs:Int)=y:=oO;rw[e1,e2]
theorem Ps (h:zs x=zs y):(if zs x then-((x.natAbs+y.natAbs:Nat):Int)else((x.natAbs+y.natAbs:Nat):Int))=x+y:=by
 unfold zs at*
 by_cases h1:x<0<;>by_cases h2:y<0<;>simp[h1,h2]at h⊢ <;>omega
theorem Ju (h:zs x≠zs y) (hl:y.natAbs<=x.natAbs):(if zs x then-((x.natAbs-y.natAbs:Nat):Int)else((x.natAbs-y.natAbs:Nat):Int))=x+y:=by
 unfold zs at*
 by_cases h1:x<0<;>by_cases h2:y<0<;>simp[h1,h2]at h⊢ <;>omega
theorem Pt (h:zs x≠zs y) (hl:x.natAbs<=y.natAbs):(if zs y then-((y.natAbs-x.natAbs:Nat):Int)else((y.natAbs-x.natAbs:Nat):Int))=x+y:=by
 rw[Int.add_comm];exact Ju (nT h) hl
theorem Y4 (y:Int):(if !zs y then-(y.natAbs:Int)else(y.natAbs:Int))= -y:=by
 unfold zs
 by_cases h:y<0<;>simp[h]<;>omega
theorem Pv (n m:Nat):((n:Int)/(m:Int)=((n/m:Nat):Int))/\(((n:Int)%(m:Int)).toNat=n%m):=⟨rfl,rfl⟩
theorem Pu {n m:Nat} (hm:0<m) (h0:n%m=0):(-(n:Int))/(m:Int)= -((n/m:Nat):Int)/\((-(n:Int))%(m:Int)).toNat=0:=by
 have hd:=iy n m;have e: -(n:Int)=0+(m:Int)*(-((n/m:Nat):Int)):=by
  rw[pw,<-Int.natCast_mul];omega
 have hm':(m:Int)≠0:=oO;constructor
 ·rw[e,yB _ _ hm'];simp
 ·rw[e,ri];simp
theorem Lu {n m:Nat} (hm:0<m) (h0:n%m≠0):(-(n:Int))/(m:Int)= -((n/m+1:Nat):Int)/\((-(n:Int))%(m:Int)).toNat=m-n%m:=by
 have hd:=iy n m;have hl:=aL n hm;generalize n%m=r at*;have e: -(n:Int)=((m-r:Nat):Int)+(m:Int)*(-((n/m+1:Nat):Int)):=by
  rw[pw,<-Int.natCast_mul,kp,dN];omega
 have hm':(m:Int)≠0:=oO;have h1:((m-r:Nat):Int)/(m:Int)=0:=ym oO oO;have h2:((m-r:Nat):Int)%(m:Int)=((m-r:Nat):Int):=Int.emod_eq_of_lt oO oO;constructor
 ·rw[e,yB _ _ hm',h1,yA]
 ·rw[e,ri,h2];omega
theorem kZ {a b:Nat}:(0<=ba a b)↔b<=a:=by unfold ba;split<;>(try split)<;>omega
