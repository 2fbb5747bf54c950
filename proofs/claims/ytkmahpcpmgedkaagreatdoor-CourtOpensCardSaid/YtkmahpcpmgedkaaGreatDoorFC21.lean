/- Part of the proof. -/
import Derived.Test.YtkmahpcpmgedkaaGreatDoorFC20
set_option linter.all false
set_option maxHeartbeats 4000000
set_option maxRecDepth 100000
namespace Go.Num
def Pr (n:Nat):Prop:=2<=n/\ ∀d,d∣n->d=1\/d=n
theorem Pr.SQ {p a:Nat} (h:Pr p) (ha: ¬p∣a):Nat.Coprime a p:=by
 rcases h.2 _ (DD a p)with e|e
 ·exact e
 ·exact aM (e▸DL a p) ha
def cf:List Nat:=[2,3,5,7,11,13,17,19,23,29,31,37]
def F4:Nat->Nat->Nat
 |0,_=>0
 |f+1,n=>if n%2=1 then 0 else F4 f (n/2)+1
def To:Nat->Nat->Nat->Bool
 |0,_,_=>false
 |k+1,x,n=>x*x%n==n-1||To k (x*x%n) n
def oo (n s d a:Nat):Bool:=(a%n)^d%n==1||(a%n)^d%n==n-1||To (s-1) ((a%n)^d%n) n
def eY (n:Nat):Bool:=
 if n<2 then false else
 match cf.find? fun p=>n%p==0 with
 |some p=>n==p
 |none=>cf.all fun a=>oo n (F4 64 (n-1)) ((n-1)/2^F4 64 (n-1)) a
def Ng (n:Nat):Bool:=eY n&&eY ((n-1)/2)
end Go.Num
namespace Go.Proofs.Tryz
open Go Go.Dom Go.Num
def SJ:List PV:=cf.map fun p:Nat=> .i .u64 (p:Int)
theorem G0:aE 236 [] (.agg SJ):=by
 refine eW call236 func236 ?_;repeat' first|simp only[go_sem,seval]|refine oE ?_|apply xX<;>intro hc
 rfl
theorem zM {a b m:Nat} (ha:a<m) (hb:b<m) (hm:m<(2^64)):aE 239 [.i .u64 a, .i .u64 b, .i .u64 m] (.i .u64 (a*b%m:Nat)):=by
 have h1:=sN a b oO oO;have hp:a*b<m*(2^64):=bE (Nat.mul_lt_mul_of_lt_of_le ha (kX hb) oO) (jt m oO);have h2:a*b/(2^64)<m:=(iH oC).2 hp;have h3:=Ea (a*b/(2^64)) (a*b%(2^64)) m h2 (aL _ oC) hm;have e:a*b/(2^64)*(2^64)+a*b%(2^64)=a*b:=oO;rw[e]at h3;refine eW call239 func239 ?_;exact z2 @h1 @h3
theorem IM (b k m:Nat):(b*b%m)^(k/2)%m=b^(2*(k/2))%m:=by rw[<-kW,<-Nat.pow_two,<-ky]
theorem N0 {x b k m:Nat} (h:k%2=1):x*b%m*(b*b%m)^(k/2)%m=x*b^k%m:=by
 rw[du,IM,dY,<-du,cM,<-x6];congr 3;omega
theorem IL {x b k m:Nat} (h:k%2=0):x*(b*b%m)^(k/2)%m=x*b^k%m:=by
 rw[du,IM,<-du];congr 3;omega
theorem N5 {a e m:Nat} (ha:a<m) (he:e<(2^64)) (hm:m<(2^64)):aE 238 [.i .u64 a, .i .u64 e, .i .u64 m] (.i .u64 (a^e%m:Nat)):=by
 refine eW call238 func238 ?_;refine qB ?_;refine af (α:=Nat×Nat×Nat) (fun x=>x.2.1) (fun x=>⟨[(0,U x.1),(1,U x.2.1),(2,U m),(7,U x.2.2)],[],_⟩) (fun x=>x.1<m/\x.2.1<(2^64)/\x.2.2<m/\x.2.2*x.1^x.2.1%m=a^e%m) (a,e,1%m) (fun _=>aA _) ⟨ha,he,aL _ oO,by show 1%m*a^e%m= _;rw[du,dY,<-du,jL]⟩ ?_ ?_
 ·(refine AS.Le.of (by first|decide|omega) ?_ ?_<;>simp[dC,dA,aP,ay,AV.bd,AV.bd.bdL,u8,ar,au,az])
  rfl
 ·rintro⟨b,k,x⟩ ⟨h1,h2,h3,h4⟩ R hR;simp only at h1 h2 h3 h4;have hs:=zM h1 h1 hm;have hx:=zM h3 h1 hm;have hk:k/2<(2^64):=oO;repeat' first|simp only[go_sem,seval,uw,b9 hk]|refine cP hs ?_|refine cP hx ?_|refine oE ?_|apply xX<;>intro hc
  ·refine hR (b*b%m,k/2,x*b%m) ⟨aL _ oO,hk,aL _ oO,?_⟩ (by show k/2<k;omega) _ ?_
   ·show x*b%m*(b*b%m)^(k/2)%m= _;rw[N0 oO,h4]
   ·exact lE
  ·refine hR (b*b%m,k/2,x) ⟨aL _ oO,hk,h3,?_⟩ (by show k/2<k;omega) _ ?_
   ·show x*(b*b%m)^(k/2)%m= _;rw[IL oO,h4]
   ·exact lE
  ·obtain rfl:k=0:=oO;rw[<-h4,Nat.pow_zero,db,b9 h3]
theorem Tt: ∀f x,Lib.ctzFrom f x=F4 f x
 |0,x=>rfl
 |f+1,x=>by simp only[Lib.ctzFrom,F4,Tt f (x/2)];split<;>omega
theorem Xe {i:Nat} (h:i<12):(List.map AV.v SJ).getD i .u=U (cf.getD i 0):=by
 have: ∀i:Fin 12,(List.map AV.v SJ).getD i.val .u=U (cf.getD i.val 0):=by
  intro i;rcases i with⟨i,hi⟩
  have h2:i<cf.length:=hi;simp[SJ,br,h2]
 exact this ⟨i,h⟩
theorem Qq {i:Nat} (h:i<12):0<cf.getD i 0/\cf.getD i 0<38:=by
 have: ∀i:Fin 12,0<cf.getD i.val 0/\cf.getD i.val 0<38:=by decide
 exact this ⟨i,h⟩
theorem HW {i:Nat} (h:i<12):cf.drop i=cf.getD i 0::cf.drop (i+1):=by
 have h2:i<cf.length:=h;rw[jw h2,br,bw h2];rfl
theorem RE {n:Nat} (hn:n<(2^64)):aE 128 [.i .u64 n] (.b (eY n)):=by
 by_cases h2:n<2
 ·have e:eY n=false:=by simp[eY,h2]
  rw[e];refine eW call128 func128 ?_;exact z0
 have hb:=G0;have hL:(List.map AV.v SJ).length=12:=rfl;refine eW call128 func128 ?_;refine WA @hb ?_;refine af (α:=Nat) (fun i=>12-i) (fun i=>⟨[(0,U n),(13, .v (.agg SJ)),(14,E' i)],[],_⟩) (fun i=>i<=12/\cf.find? (fun p=>n%p==0)=(cf.drop i).find? (fun p=>n%p==0)) 0 (fun _=>aA _) ⟨oO,rfl⟩ ?_ ?_
 ·exact lE
 ·rintro i ⟨hi,hf⟩ R hR
  by_cases hlt:i<12
  ·have g1:=Xe hlt;obtain⟨q0,q1⟩:=Qq hlt;rw[HW hlt]at hf;generalize cf.getD i 0=q at*;repeat' first|simp only[go_sem,seval,g1,hL]|refine oE ?_|apply xX<;>intro hc
   ·have hz:(n%q==0)=true:=by rw[gR];omega
    rw[List.find?_cons,hz]at hf;unfold eY;rw[ae h2,hf];congr 1;rw[ew];simp only[gR];omega
   ·have hz:(n%q==0)=false:=by rw[fk];omega
    rw[List.find?_cons,hz]at hf;refine hR (i+1) ⟨oO,hf⟩ oO _ ?_;exact lE
  ·obtain rfl:i=12:=oO;have hf:cf.find? (fun p=>n%p==0)=none:=hf
   obtain⟨s,hs⟩: ∃s,s=F4 64 (n-1):=⟨_,rfl⟩;obtain⟨d,hd⟩: ∃d,d=(n-1)/2^s:=⟨_,rfl⟩;have hz:=rK (n-1) oO oO;have hs64:=(Lib.lowest_bit 64 (n-1) oO (by show n-1<(2^64);omega)).2
   have hzs:Lib.ctz 64 (n-1)=s:=by rw[Lib.ctz,ae oO,Tt,hs]
   rw[hzs]at hz hs64;have hdl:d<(2^64):=by rw[hd];exact eX (eV _ _) oO
   have e1: ∀ _:True,((n:Int)-1)=((n-1:Nat):Int):=fun _=>oO
   have e2: ∀ _:True,(if s<=64 then s else 64)=s:=fun _=>by split<;>omega
   have e3: ∀ _:True,(n-1)/2^s=d:=fun _=>hd.symm
   have key:eY n=cf.all (oo n s d):=by
    unfold eY;rw[ae h2,hf,<-hs,<-hd]
   rw[key];clear key hf hzs hs hd;refine HH (aN (e1 oT) (aN (e2 oT) (e3 oT))) @hz @hb ?_;refine af (α:=Nat) (fun i=>12-i) (fun i=>⟨[(0,U n),(5,E' s),(6,U d),(32, .v (.agg SJ)),(33,E' i)],[],_⟩) (fun i=>i<=12/\cf.all (oo n s d)=(cf.drop i).all (oo n s d)) 0 (fun _=>aA _) ⟨oO,rfl⟩ ?_ ?_
   ·exact lE
   ·rintro i ⟨hi,hf⟩ R hR
    by_cases hlt:i<12
    ·have g1:=Xe hlt;obtain⟨q0,q1⟩:=Qq hlt;rw[HW hlt,List.all_cons]at hf;have hR1:=hR (i+1);generalize cf.getD i 0=q at*;have hq:q%n<n:=aL _ oO;have hp:=N5 hq hdl hn;obtain⟨x,hx⟩: ∃x,x=(q%n)^d%n:=⟨_,rfl⟩;have hxl:x<n:=by rw[hx];exact aL _ oO
     have hst:oo n s d q=(x==1||x==n-1||To (s-1) x n):=by rw[hx];rfl
     rw[<-hx]at hp;clear hx;repeat' first|simp only[go_sem,seval,g1,hL,e1 oT]|refine cP hp ?_|refine oE ?_|apply xX<;>intro hc
     ·have hx1:x=1:=oO;refine hR1 ⟨oO,by rw[hf,hst,hx1];simp⟩ oO _ ?_
      exact lE
     ·have hx1:x=n-1:=oO;refine hR1 ⟨oO,by rw[hf,hst,hx1];simp⟩ oO _ ?_
      exact lE
     ·have hx1:(x==1)=false:=by rw[fk];omega
      have hx2:(x==n-1)=false:=by rw[fk];omega
      rw[hx1,hx2,lA,lA]at hst;refine af (α:=Nat×Nat) (fun z=>s-z.1) (fun z=>⟨[(0,U n),(5,E' s),(6,U d),(32, .v (.agg SJ)),(33,E' i),(9,U z.2),(10,E' z.1)],[],_⟩) (fun z=>1<=z.1/\z.2<n/\To (s-z.1) z.2 n=To (s-1) x n) (1,x) (fun _=>aA _) ⟨aA 1,hxl,rfl⟩ ?_ ?_
      ·exact lE
      ·rintro⟨j,y⟩ ⟨hj,hy,hz⟩ R' hR';simp only at hj hy hz;have hm:=zM hy hy hn;obtain⟨w,hw⟩: ∃w,w=y*y%n:=⟨_,rfl⟩;have hwl:w<n:=by rw[hw];exact aL _ oO
       have hz':j<s->(w==n-1||To (s-(j+1)) w n)=To (s-1) x n:=by
        intro g;rw[<-hz,show s-j=s-(j+1)+1 by omega,hw];rfl
       rw[<-hw]at hm;clear hw;repeat' first|simp only[go_sem,seval,e1 oT]|refine cP hm ?_|refine oE ?_|apply xX<;>intro hc
       ·have hw1:w=n-1:=oO;have:=hz' oO;rw[hw1,iq,pL]at this;refine hR1 ⟨oO,by rw[hf,hst,<-this,cr]⟩ oO _ ?_
        exact lE
       ·have hw1:(w==n-1)=false:=by rw[fk];omega
        have:=hz' oO;rw[hw1,lA]at this;refine hR' (j+1,w) ⟨by show 1<=j+1;omega,hwl,this⟩ (by show s-(j+1)<s-j;omega) _ ?_
        exact lE
       ·rw[hf,hst,<-hz,show s-j=0 by omega];rfl
    ·obtain rfl:i=12:=oO;refine wV ?_;rw[hf];rfl
theorem G1 (a:Bytes):aE 127 [.s a] (.tup [.i .u64 (if aa a&&decide (a.length<=8)then num a else 0),E (if aa a then(if a.length<=8 then 0 else 5)else 3)]):=by
 have hs:=ov a;have hv:=aT a;refine eW call127 func127 ?_;repeat' first|simp only[go_sem,seval]|refine cP hv ?_|refine cP hs ?_|refine oE ?_|apply xX<;>intro hc
 all_goals (simp_all<;>omega)
def jD (a:Bytes):Int:=if aa a then(if a.length<=8 then 0 else 5)else 3
theorem BJ (a:Bytes):aE 62 [.s a] (.tup [.b (aa a&&decide (a.length<=8)&&eY (num a)),E (jD a)]):=by
 have hs:=G1 a
 by_cases h:aa a=true/\a.length<=8
 ·obtain⟨h1,h2⟩:=h;have e:jD a=0:=by simp[jD,h1,h2]
  rw[h1,aJ h2]at hs;have hi:=RE (eR h2);rw[h1,aJ h2,e];refine eW call62 func62 ?_;repeat' first|simp only[go_sem,seval,ax,ah h2]|refine cP hs ?_|refine cP hi ?_|refine oE ?_|apply xX<;>intro hc
  all_goals skip
 ·have h0:(aa a&&decide (a.length<=8))=false:=by
   rw[fz];intro g;simp at g;exact h g
  have e:jD a≠0:=by
   unfold jD;split
   ·rename_i g;rw[ae (fun g2=>h ⟨g,g2⟩)];decide
   ·decide
  rw[h0]at hs⊢;have e2:(if aa a then(if a.length<=8 then(0:Int)else 5)else 3)=jD a:=rfl
  rw[e2]at hs;refine eW call62 func62 ?_;repeat' first|simp only[go_sem,seval]|refine cP hs ?_|refine oE ?_|apply xX<;>intro hc
  all_goals skip

abbrev G (m o:Bytes):PV:= .agg [.s m, .s o]
theorem eH {a:Bytes} (h:aa a=true):N (num a)= .s a:=congrArg PV.s (iu h)
def jg (m o:Bytes):Bool:=aa m&&o==[]&&(num m).testBit 0&&decide (8<num m)
theorem Of8:aE 63 [.i .u64 8] (.s [8]):=lH 8 oC
theorem sO:aE 63 [.i .u64 1] (.s [1]):=lH 1 oC
theorem WU:aE 63 [.i .u64 2] (.s [2]):=lH 2 oC
theorem Q1 (m o:Bytes):aE 361 [G m o] (.b (jg m o)):=by
 have hv:=aT m
 by_cases h:aa m=true
 ·have hb:=yd h 0 oC;have hcm:=mK m [8];rw[h]at hv;rw[h,show aa [8]=true from rfl,show num [8]=8 from rfl]at hcm
  have he:bc (num m) 8>0↔8<num m:=by unfold bc;split<;>(try split)<;>omega
  refine eW call361 func361 ?_;repeat' first|simp only[go_sem,seval]|refine cP hv ?_|refine cP hb ?_|refine cP Of8 ?_|refine cP hcm ?_|refine oE ?_|apply xX<;>intro hc
  all_goals simp_all[jg]
 ·have h:aa m=false:=by simpa using h
  rw[h]at hv;have e:jg m o=false:=by simp[jg,h]
  rw[e];refine eW call361 func361 ?_;exact z1 @hv
theorem R8:aE 363 [] (N 1):=by
 refine eW call363 func363 ?_;exact z1 @sO
def zX (m o x:Bytes):Bool:=jg m o&&aa x&& !(x==[])&&decide (num x<num m)&&decide (Nat.gcd (num x) (num m)=1)
theorem yD (a b:Nat):(bc a b>=0)=(b<=a):=by
 unfold bc;rw[eq_iff_iff];split<;>(try split)<;>omega
theorem RS {m:Bytes} (lm:m.length<=8) (o x:Bytes):aE 241 [G m o, .s x] (.b (zX m o x)):=by
 have hg:=Q1 m o;have hv:=aT x
 by_cases h:jg m o=true/\aa x=true/\x≠[]/\num x<num m
 ·obtain⟨h1,h2,h3,h4⟩:=h;have hm:aa m=true:=by simp[jg]at h1;exact h1.1.1.1
  have hcm:=mK x m;rw[h2,hm]at hcm;have hnm:=eR lm;have hgc:=Zs (a:=num x) (b:=num m) oO hnm;rw[eH h2,eH hm]at hgc;rw[h1]at hg;rw[h2]at hv;have hx:(x==([]:Bytes))=false:=by simpa using h3
  have hlt: ¬bc (num x) (num m)>=0:=by rw[yD];omega
  have e:zX m o x=decide (Nat.gcd (num x) (num m)=1):=by simp[zX,h1,h2,h4];intro;exact h3
  rw[e];refine eW call241 func241 ?_;repeat' first|simp only[go_sem,seval,hx,we]|refine cP hg ?_|refine cP hv ?_|refine cP hcm ?_|refine cP hgc ?_|refine cP R8 ?_|refine oE ?_|apply xX<;>intro hc
  all_goals skip
 ·have e:zX m o x=false:=by
   rw[fz];intro g;simp[zX]at g;exact h ⟨g.1.1.1.1,g.1.1.1.2,g.1.1.2,g.1.2⟩
  have hcm:=mK x m;rw[e]
  by_cases h1:jg m o=true
  ·have hm:aa m=true:=by simp[jg]at h1;exact h1.1.1.1
   rw[h1]at hg
   by_cases h2:aa x=true
   ·rw[h2]at hv;rw[h2,hm]at hcm
    by_cases h3:x=[]
    ·subst h3;refine eW call241 func241 ?_;exact B8 @nn @hg @hv
    ·have hx:(x==([]:Bytes))=false:=by simpa using h3
     have hge:bc (num x) (num m)>=0:=by rw[yD];exact Nat.le_of_not_lt fun g=>h ⟨h1,h2,h3,g⟩
     refine eW call241 func241 ?_;repeat' first|simp only[go_sem,seval,hx]|refine cP hg ?_|refine cP hv ?_|refine cP hcm ?_|refine oE ?_|apply xX<;>intro hc
     all_goals skip
   ·have h2:aa x=false:=by simpa using h2
    rw[h2]at hv;refine eW call241 func241 ?_;exact z2 @hg @hv
  ·have h1:jg m o=false:=by simpa using h1
   rw[h1]at hg;refine eW call241 func241 ?_;exact z1 @hg
structure abd (m o p q:Bytes):Prop where
 vm:aa m=true
 vp:aa p=true
 vq:aa q=true
 lp:p.length<=8
 lq:q.length<=8
 o:o=[]
 mul:num m=num p*num q
 odd:num m%2=1
 sp:Ng (num p)=true
 sq:Ng (num q)=true
 ne:num p≠num q
theorem xl (n:Bool) (a:Bytes):aE 67 [.b n, .s a] (.agg [.b (n&& !(a==[])), .s a]):=by
 refine eW call67 func67 ?_;exact Y6
theorem hO (n:Bool) (a:Bytes):aE 138 [.agg [.b n, .s a]] (.b (aa a&& !(n&&a==[]))):=by
 have hv:=aT a;refine eW call138 func138 ?_;exact Zh @hv
theorem qD {a:Bytes} (h:aa a=true):aE 28 [.s a] (.agg [.b false, .s a]):=by
 have hv:=aT a;rw[h]at hv;refine eW call28 func28 ?_;repeat' first|simp only[go_sem,seval]|refine cP hv ?_|refine cP (xl _ _) ?_|refine oE ?_|apply xX<;>intro hc
 all_goals simp_all
theorem J4 (m o:Bytes):aE 359 [G m o] (.b (aa m&&aa o)):=by
 have v1:=aT m;have v2:=aT o;refine eW call359 func359 ?_;exact Wq @v1 @v2
theorem Zy {a b:Nat} (ha:a<(2^64)) (hb:b<(2^64)):aE 121 [N a,N b] (.tup [if b<=a then N (a-b)else .s [],E (if b<=a then 0 else 2)]):=by
 have:=LC (aY a) (aY b);simp only[vT,vN ha,vN hb,dt,ax,aQ]at this
 by_cases h:b<=a
 ·simp only[h,ax]at this⊢;exact this
 ·simp only[h,aq]at this⊢;exact this
def nK (m o x:Bytes):Bool:=aa m&&aa o&&aa x&& !(o==[])&& !(x==[])&&decide (num x<num m)&&decide (num x^num o%num m=1%num m)
theorem NW {m:Bytes} (lm:m.length<=8) (o x:Bytes):aE 240 [G m o, .s x] (.b (nK m o x)):=by
 have hf:=J4 m o;have vx:=aT x;have hcm:=mK x m
 by_cases h:aa m=true/\aa o=true/\aa x=true/\o≠[]/\x≠[]/\num x<num m
 ·obtain⟨v1,v2,v3,h4,h5,h6⟩:=h;have e4:(o==([]:Bytes))=false:=by simpa using h4
  have e5:(x==([]:Bytes))=false:=by simpa using h5
  have hn:=eR lm;have hE:=WR (a:=num x) (m:=num m) (e:=o) oO v2 hn oO;have hE0:=WR (a:=num x) (m:=num m) (e:=[]) oO rfl hn oO;rw[eH v3,eH v1]at hE hE0;rw[show num ([]:Bytes)=0 from rfl,Nat.pow_zero]at hE0
  rw[v1,v2]at hf;rw[v3]at vx;rw[v3,v1]at hcm;have hlt: ¬bc (num x) (num m)>=0:=by rw[yD];omega
  have e:nK m o x=decide (num x^num o%num m=1%num m):=by simp[nK,v1,v2,v3,e4,e5,h6]
  rw[e];generalize num x^num o%num m=z1 at*;generalize 1%num m=z2 at*;refine eW call240 func240 ?_;exact Pl (aN @e4 (aN @e5 @we)) @hf @vx @hcm @hE @hE0 oT oT
 ·have e:nK m o x=false:=by
   rw[fz];intro g;simp[nK]at g;exact h ⟨g.1.1.1.1.1.1,g.1.1.1.1.1.2,g.1.1.1.1.2,g.1.1.1.2,g.1.1.2,g.1.2⟩
  rw[e]
  by_cases v1:aa m=true<;>by_cases v2:aa o=true<;>by_cases v3:aa x=true
  ·rw[v1,v2]at hf;rw[v3]at vx;rw[v3,v1]at hcm
   by_cases h4:o=[]
   ·subst h4;refine eW call240 func240 ?_;exact B8 @nn @hf @vx
   ·have e4:(o==([]:Bytes))=false:=by simpa using h4
    by_cases h5:x=[]
    ·subst h5;refine eW call240 func240 ?_;exact B8 (aN @nn @e4) @hf @vx
    ·have e5:(x==([]:Bytes))=false:=by simpa using h5
     have hge:bc (num x) (num m)>=0:=by rw[yD];exact Nat.le_of_not_lt fun g=>h ⟨v1,v2,v3,h4,h5,g⟩
     refine eW call240 func240 ?_;exact wJ (aN @e4 @e5) @hf @vx @hcm oT
  all_goals simp only[Bool.not_eq_true]at v1 v2 v3
  all_goals simp only[v1,v2,jK,ur,dt,cr,dK]at hf
  all_goals simp only[v3]at vx
  ·refine eW call240 func240 ?_;exact z2 @hf @vx
  ·refine eW call240 func240 ?_;exact z2 @hf @vx
  ·refine eW call240 func240 ?_;exact z2 @hf @vx
  ·refine eW call240 func240 ?_;exact z2 @hf @vx
  ·refine eW call240 func240 ?_;exact z2 @hf @vx
  ·refine eW call240 func240 ?_;exact z2 @hf @vx
  ·refine eW call240 func240 ?_;exact z2 @hf @vx
end Go.Proofs.Tryz
namespace Go.Dom
noncomputable def jZ (m x:Nat) (z:Int):Nat:=de m x (decide (z<0)) z.natAbs
theorem ph {m x y:Nat} (h:x*y%m=1%m) (n k:Nat):x^(n+k)*y^k%m=x^n%m:=by
 rw[cY,cM,<-xJ,du,kW (x*y) k m,h,<-kW,qY,<-du,db]
theorem nL (m x:Nat) (n:Nat):jZ m x (n:Int)=x^n%m:=by
 unfold jZ de;rw[aG (by omega)];simp
theorem j7 {m x:Nat} (n:Nat):jZ m x (-(n:Int))=fR x m^n%m:=by
 unfold jZ de
 by_cases h:n=0
 ·subst h;simp
 ·rw[aJ (by omega)];simp
theorem Ff {m x:Nat} (h:fD m x) (hm:0<m) (a b:Int):jZ m x a*jZ m x b%m=jZ m x (a+b):=by
 obtain⟨h1,h2⟩:=h.inv;have h3:fR x m*x%m=1%m:=by rw[bO];exact h2
 rcases Int.eq_nat_or_neg a with⟨n,rfl|rfl⟩<;>rcases Int.eq_nat_or_neg b with⟨k,rfl|rfl⟩
 ·rw[nL,nL,<-du,<-cY,<-nL];simp
 ·rw[nL,j7,<-du];rcases Nat.le_total k n with hk|hk
  ·obtain⟨d,rfl⟩:=xG hk;rw[ij k d,ph h2,<-nL];congr 1;omega
  ·obtain⟨d,rfl⟩:=xG hk;rw[bO,ij n d,ph h3,<-j7];congr 1;omega
 ·rw[nL,j7,<-du];rcases Nat.le_total k n with hk|hk
  ·obtain⟨d,rfl⟩:=xG hk;rw[ij k d,ph h3,<-j7];congr 1;omega
  ·obtain⟨d,rfl⟩:=xG hk;rw[bO,ij n d,ph h2,<-nL];congr 1;omega
 ·rw[j7,j7,<-du,<-cY,<-j7];congr 1;omega
theorem NZ {m x:Nat} (h:fD m x) (hm:0<m) (w c:Nat):jZ m (x^w%m) (-(c:Int))=jZ m x (-((c*w:Nat):Int)):=by
 rw[j7,j7,(h.pow hm w).2,l7,bO c w]
theorem Fu {m x:Nat} (h:fD m x) (hm:0<m) (a:Int) (w c:Nat):jZ m (x^w%m) (-(c:Int))*jZ m x (a+(c*w:Nat))%m=jZ m x a:=by
 rw[NZ h hm,Ff h hm];congr 1;omega
theorem Ky (m x:Nat):jZ m x 0=1%m:=oL _ _ _
theorem BG {m x:Nat} (h:fD m x) (hm:0<m) (a b:Int):jZ m (jZ m x a) b=jZ m x (a*b):=by
 unfold jZ;rw[BI h hm,mC]
 by_cases h0:a.natAbs*b.natAbs=0
 ·rw[h0,oL,oL]
 ·congr 1;have ha:a≠0:=fun e=>h0 (by simp[e])
  have hb:b≠0:=fun e=>h0 (by simp[e])
  rw[ew];simp only[bne_iff_ne,ne_eq,mD,cK];rcases Int.lt_or_gt_of_ne ha with h1|h1<;>rcases Int.lt_or_gt_of_ne hb with h2|h2
  ·have:=Int.mul_pos_of_neg_of_neg h1 h2;generalize a*b=c at*;omega
  ·have:=Int.mul_neg_of_neg_of_pos h1 h2;generalize a*b=c at*;omega
  ·have:=Int.mul_neg_of_pos_of_neg h1 h2;generalize a*b=c at*;omega
  ·have:=Int.mul_pos h1 h2;generalize a*b=c at*;omega
theorem NX (m x:Nat) (z:Int):jZ m x z%m=jZ m x z:=dY _ _
theorem O6 {m:Nat} (hm:0<m):fD m (1%m):=⟨1%m,aL _ hm,by rw[<-du,jL]⟩
variable {α:Type} {m:Nat} (b:α->Nat)
theorem NY {x o:Nat} (hx:fD m x) (hm:0<m) (ho:x^o%m=1%m) {a c:Int} (h:(o:Int)∣a-c):jZ m x a=jZ m x c:=by
 obtain⟨k,hk⟩:=h;have e:a=c+o*k:=by omega
 have h1:jZ m x (o*k)=1%m:=by
  rw[<-BG hx hm,nL,ho];have:=BG (O6 hm) hm 0 k
  rwa[Int.zero_mul,Ky]at this
 rw[e,<-Ff hx hm,h1,jx,db,NX]
end Go.Dom
namespace Go.Dom
def Cg (q a b:Int):Prop:= ∃k,a-b=q*k
namespace Cg
variable {q a b c d:Int}
theorem Ot (a:Int):Cg q a a:=⟨0,by grind⟩
theorem of_eq (h:a=b):Cg q a b:=h▸Ot a
theorem symm (h:Cg q a b):Cg q b a:=by obtain⟨k,h⟩:=h;exact⟨-k,by grind⟩
theorem trans (h:Cg q a b) (g:Cg q b c):Cg q a c:=by
 obtain⟨k,h⟩:=h;obtain⟨l,g⟩:=g;exact⟨k+l,by grind⟩
theorem add (h:Cg q a b) (g:Cg q c d):Cg q (a+c) (b+d):=by
 obtain⟨k,h⟩:=h;obtain⟨l,g⟩:=g;exact⟨k+l,by grind⟩
theorem sub (h:Cg q a b) (g:Cg q c d):Cg q (a-c) (b-d):=by
 obtain⟨k,h⟩:=h;obtain⟨l,g⟩:=g;exact⟨k-l,by grind⟩
theorem mul (h:Cg q a b) (g:Cg q c d):Cg q (a*c) (b*d):=by
 obtain⟨k,h⟩:=h;obtain⟨l,g⟩:=g;exact⟨k*c+b*l,by grind⟩
theorem emod (q a:Int):Cg q (a%q) a:=⟨-(a/q),by have:=Int.mul_ediv_add_emod a q;grind⟩
end Cg
variable {a b q:Int}
def Iv (q a:Int):Prop:= ∃b,Cg q (a*b) 1
theorem Iv.mul (h:Iv q a) (g:Iv q b):Iv q (a*b):=by
 obtain⟨x,h⟩:=h;obtain⟨y,g⟩:=g;exact⟨x*y,(Cg.of_eq (by grind)).trans (h.mul g)⟩
theorem Iv.one (q:Int):Iv q 1:=⟨1,Cg.of_eq rfl⟩
theorem Iv.neg (h:Iv q a):Iv q (-a):=by
 obtain⟨x,h⟩:=h;exact⟨-x,(Cg.of_eq (by grind)).trans h⟩
theorem Iv.cg (h:Iv q a) (g:Cg q a b):Iv q b:=by
 obtain⟨x,h⟩:=h;exact⟨x,(g.symm.mul (Cg.Ot x)).trans h⟩
def evP:List Int->Int->Int
 |[],_=>0
 |a::p,x=>a+x*evP p x
def quo (a:Int):List Int->List Int
 |[]=>[]
 | _::p=>match p with
  |[]=>[]
  |b::r=>evP (b::r) a::quo a (b::r)
def Ww (q:Int):List Int->Prop
 |[]=>True
 |a::l=>(∀x∈l,Iv q (x-a))/\Ww q l
def Pq:List Int->List Int->List Int
 |[],b=>b
 |a,[]=>a
 |a::p,b::r=>(a+b)::Pq p r
theorem IK: ∀p r:List Int,(Pq p r).length=max p.length r.length
 |[],r=>by simp[Pq]
 |a::p,[]=>by simp[Pq]
 |a::p,b::r=>by
  have:=IK p r;simp only[Pq,List.length_cons];omega
def VB (l:List Int) (x:Int):Int:=(l.map fun a=>x-a).prod
theorem Fg (a:Int) (l:List Int) (x:Int):VB (a::l) x=(x-a)*VB l x:=by simp[VB]
theorem VC {l:List Int} {x:Int} (h: ∀a∈l,Iv q (x-a)):Iv q (VB l x):=by
 induction l with
 |nil=>exact Iv.one q
 |cons a l ih=>rw[Fg];exact(h a (.head _)).mul (ih fun b hb=>h b (.tail _ hb))
theorem Ww.iv: ∀{l:List Int} {i:Nat},Ww q l->i<l.length-> ∀a∈l.eraseIdx i,Iv q (l.getD i 0-a)
 |[],_,_,hi,_,_=>by simp at hi
 |b::l,0,h,_,a,ha=>by
  have:=(h.1 a (by simpa using ha)).neg
  exact this.cg (Cg.of_eq (by simp only[fY];omega))
 |b::l,i+1,h,hi,a,ha=>by
  have hi':i<l.length:=by simpa using hi
  rw[eF];rw[List.eraseIdx_cons_succ]at ha;rcases cb.1 ha with rfl|ha
  ·refine h.1 _ ?_;rw[br,bw hi'];exact ku hi'
  ·exact Ww.iv h.2 hi' a ha
variable {q:Int} {l:List Int} {w:Nat->Int}
end Go.Dom
namespace Go.Dom
def Ze (q:Int) (p:List Int):List Int:=p.map (·%q)
theorem Rj (q:Int) (p:List Int):(Ze q p).length=p.length:=aC ..
def mc (q:Int) (p:List Int) (a:Int):List Int:=Ze q (Pq (0::p) (p.map (-a* ·)))
theorem qN (q a:Int) (p:List Int):(mc q p a).length=p.length+1:=by
 rw[mc,Rj,IK,aC,List.length_cons];omega
def AK (q:Int) (l:List Int):List Int:=l.foldl (mc q) [1]
theorem IH (q:Int): ∀(l:List Int) (p:List Int),(l.foldl (mc q) p).length=p.length+l.length
 |[],p=>rfl
 |a::l,p=>by rw[List.foldl_cons,IH q l,qN,List.length_cons];omega
theorem CN (q:Int) (l:List Int):(AK q l).length=l.length+1:=by rw[AK,IH];simp;omega
def wH (q x:Int) (l:List Int):Int:=l.foldl (fun s a=>s*((x-a)%q)%q) 1
theorem OH (q x:Int): ∀(l:List Int) (s:Int),Cg q (l.foldl (fun s a=>s*((x-a)%q)%q) s) (s*VB l x)
 |[],s=>Cg.of_eq (by simp[VB])
 |a::l,s=>by
  rw[List.foldl_cons,Fg];exact(OH q x l _).trans ((((Cg.emod q _).trans ((Cg.Ot s).mul (Cg.emod q _))).mul (Cg.Ot _)).trans (Cg.of_eq (by grind)))
theorem V6 (q x:Int) (l:List Int):Cg q (wH q x l) (VB l x):=(OH q x l 1).trans (Cg.of_eq (by grind))
theorem zJ: ∀(p r:List Int) (j:Nat),(Pq p r).getD j 0=p.getD j 0+r.getD j 0
 |[],r,j=>by simp[Pq]
 |a::p,[],j=>by simp[Pq]
 |a::p,b::r,0=>rfl
 |a::p,b::r,j+1=>by
  simp only[Pq,eF];exact zJ p r j
theorem qK (f:Int->Int) (h:f 0=0): ∀(p:List Int) (j:Nat),(p.map f).getD j 0=f (p.getD j 0)
 |[],j=>by simp[h]
 |a::p,0=>rfl
 |a::p,j+1=>by simp only[bC,eF];exact qK f h p j
theorem zr (q:Int) (p:List Int) (j:Nat):(Ze q p).getD j 0=p.getD j 0%q:=qK _ (Int.zero_emod q) p j
theorem Nz (q a:Int) (p:List Int):(mc q p a).getD 0 0=(-a*p.getD 0 0)%q:=by
 rw[mc,zr,zJ,qK (-a* ·) (by grind),fY,xT]
theorem EV (q a:Int) (p:List Int) (j:Nat):(mc q p a).getD (j+1) 0=(p.getD j 0+ -a*p.getD (j+1) 0)%q:=by
 rw[mc,zr,zJ,qK (-a* ·) (by grind),eF]
theorem Cz {α:Type} (d:α): ∀(l:List α) (j:Nat),l.length<=j->l.getD j d=d
 |[],j,_=>rfl
 |a::l,0,h=>by simp at h
 |a::l,j+1,h=>by rw[eF];exact Cz d l j (by simpa using h)
def AB (q:Int) (P:Nat->List Int) (f:Nat->Int) (j:Nat):Nat->Int
 |0=>0
 |i+1=>(AB q P f j i+(P i).getD j 0*f i%q)%q
def xf (q:Int) (p:List Int) (x:Int):Int:=p.foldr (fun a y=>(y*x%q+a)%q) 0
variable {m:Nat}
variable {q:Nat} {l:List Int} {w:Nat->Int}
end Go.Dom
namespace Go.Dom
def Li (q:Int) (l:List Int) (f:Nat->Int):List Int:=(List.range l.length).map fun j=>AB q (fun k=>AK q (l.eraseIdx k)) f j l.length
theorem yW {q:Int} (hq:0<q) (x:Int): ∀p:List Int,0<=xf q p x/\xf q p x<q
 |[]=>⟨mB _,hq⟩
 |a::p=>⟨gU _ (by omega),ig _ hq⟩
theorem rO {q:Int} (hq:0<q) (P:Nat->List Int) (f:Nat->Int) (j:Nat): ∀n,0<=AB q P f j n/\AB q P f j n<q
 |0=>⟨mB _,hq⟩
 |n+1=>⟨gU _ (by omega),ig _ hq⟩
theorem Iv.Vb {q a b:Nat} (h:a*b%q=1%q):Iv q a:=by
 refine⟨b,?_⟩;have h1:Cg q (((a*b%q:Nat):Int)) ((a*b:Nat):Int):=by rw[Int.natCast_emod];exact Cg.emod _ _
 have h2:Cg q (((1%q:Nat):Int)) ((1:Nat):Int):=by rw[Int.natCast_emod];exact Cg.emod _ _
 rw[<-Int.natCast_mul];exact h1.symm.trans ((Cg.of_eq (by rw[h])).trans h2)
end Go.Dom
namespace Go.Dom
open Go.Num
variable {a q:Nat}
theorem r5 (h:eY q=true):2<=q/\(q∈cf\/ ∀p∈cf,¬q%p=0):=by
 unfold eY at h
 split at h
 ·exact aM h (by decide)
 ·rename_i h2;refine⟨by omega,?_⟩
  split at h
  ·rename_i p hf;have:=List.mem_of_find?_eq_some hf;exact .inl (by rw[show q=p by simpa using h];exact this)
  ·rename_i hf;exact .inr fun p hp hz=>by
    have:=List.find?_eq_none.1 hf p hp;simp[hz]at this
theorem QR (h:eY q=true) (a0:0<a) (a8:a<=8) (hq:a<q):Nat.gcd a q=1:=by
 obtain⟨h2,h|h⟩:=r5 h
 ·have hd: ∀q∈cf,∀a,a<=8->0<a->a<q->Nat.gcd a q=1:=by decide
  exact hd q h a a8 a0 hq
 ·have e2:=h 2 (by decide)
  have e3:=h 3 (by decide)
  have e5:=h 5 (by decide)
  have e7:=h 7 (by decide)
  rw[mA];obtain⟨r,hr⟩: ∃r,r=q%a:=⟨_,rfl⟩;rw[<-hr];have hd: ∀a:Fin 9,∀r:Fin 9,r.1<a.1->(a.1%2=0/\r.1%2=0)\/(a.1%3=0/\r.1%3=0)\/(a.1%5=0/\r.1%5=0)\/(a.1%7=0/\r.1%7=0)\/Nat.gcd r.1 a.1=1:=by decide
  have hra:r<a:=hr▸aL _ a0;have hm: ∀p,a%p=0->q%p≠0->r%p≠0:=fun p hp hq hz=>by
   rw[hr,uz _ (Nat.dvd_of_mod_eq_zero hp)]at hz;exact hq hz
  rcases hd ⟨a,by omega⟩ ⟨r,by omega⟩ hra with⟨e,f⟩|⟨e,f⟩|⟨e,f⟩|⟨e,f⟩|e
  ·exact aM f (hm 2 e e2)
  ·exact aM f (hm 3 e e3)
  ·exact aM f (hm 5 e e5)
  ·exact aM f (hm 7 e e7)
  ·exact e
theorem MI (h:eY q=true) (a0:0<a) (a8:a<=8) (hq:a<q):fD q a:=gL (by omega) (QR h a0 a8 hq)
theorem MH (h:eY q=true) (a0:0<a) (a8:a<=8) (hq:a<q):Iv q a:=by
 obtain⟨b,-,hb⟩:=MI h a0 a8 hq;exact Iv.Vb hb
theorem QS {b:Nat} (h:eY q=true) (hn:a≠b) (ha:a<=8) (hb:b<=8) (qa:a<q) (qb:b<q):Iv q ((a:Int)-b):=by
 rcases Nat.lt_or_gt_of_ne hn with g|g
 ·have:=(MH h (a:=b-a) (by omega) (by omega) (by omega)).neg
  exact this.cg (Cg.of_eq (by omega))
 ·have:=MH h (a:=a-b) (by omega) (by omega) (by omega)
  exact this.cg (Cg.of_eq (by omega))
theorem Ij (h:eY q=true): ∀{l:List Nat},l.Nodup->(∀a∈l,a<=8/\a<q)->Ww q (l.map fun a:Nat=>(a:Int))
 |[],_,_=>trivial
 |a::l,hd,hb=>by
  have hd:=ri.1 hd;refine⟨fun x hx=> ?_,Ij h hd.2 fun b hb'=>hb b (.tail _ hb')⟩
  obtain⟨b,hb',rfl⟩:=bm.1 hx;have ha:=hb a (.head _);have hbb:=hb b (.tail _ hb');exact QS h (fun e=>hd.1 (e▸hb')) hbb.1 ha.1 hbb.2 ha.2
end Go.Dom
namespace Go.Dom
open Go.RowKit Go.Num
variable {a q:Int} {i j k n:Nat} {p:List Int}
def nI (l:List Nat):List Int:=l.map fun a:Nat=>(a:Int)
def tN (l:List Int):List Nat:=l.map Int.toNat
theorem sf (l:List Nat):(nI l).length=l.length:=aC ..
theorem jH (l:List Int):(tN l).length=l.length:=aC ..
theorem j8: ∀(l:List Int) (j:Nat),(tN l).getD j 0=(l.getD j 0).toNat
 |[],j=>rfl
 |a::l,0=>rfl
 |a::l,j+1=>by simp only[tN,bC,eF];exact j8 l j
theorem tx: ∀(l:List Nat) (j:Nat),(nI l).getD j 0=(l.getD j 0:Nat)
 |[],j=>rfl
 |a::l,0=>rfl
 |a::l,j+1=>by simp only[nI,bC,eF];exact tx l j
def Lv (q:Int) (l:List Int):Prop:= ∀j,0<=l.getD j 0/\l.getD j 0<q
theorem U4 (hq:0<q) (p:List Int):Lv q (Ze q p):=fun j=>by
 rw[zr];exact⟨gU _ (by omega),ig _ hq⟩
theorem U5 (hq:0<q) (p:List Int) (a:Int):Lv q (mc q p a):=U4 hq _
theorem NR (hq:1<q):Lv q [1]:=fun j=>by
 cases j with
 |zero=>exact⟨by decide,hq⟩
 |succ j=>simp only[eF,List.getD_nil];omega
theorem Ny (hq:0<q): ∀(l p:List Int),Lv q p->Lv q (l.foldl (mc q) p)
 |[],p,h=>h
 |a::l,p,_=>Ny hq l _ (U5 hq p a)
theorem CM (hq:1<q) (l:List Int):Lv q (AK q l):=Ny (by omega) l _ (NR hq)
theorem EU (q:Int) (l:List Int) (a:Int):AK q (l++[a])=mc q (AK q l) a:=by simp[AK]
theorem FG (q x:Int) (l:List Int) (a:Int):wH q x (l++[a])=wH q x l*((x-a)%q)%q:=by simp[wH]
theorem vO (hq:1<q) (x:Int) (l:List Int):0<=wH q x l/\wH q x l<q:=by
 unfold wH;have: ∀(l:List Int) (s:Int),0<=s/\s<q->0<=l.foldl (fun s a=>s*((x-a)%q)%q) s/\l.foldl (fun s a=>s*((x-a)%q)%q) s<q:=by
  intro l
  induction l with
  |nil=>intro s h;exact h
  |cons a l ih=>intro s _;exact ih _ ⟨gU _ (by omega),ig _ (by omega)⟩
 exact this l 1 ⟨by decide,hq⟩
theorem Qy {b:Int} (h:Cg q a b):a%q=b%q:=by
 obtain⟨k,hk⟩:=h;rw[show a=b+q*k by omega,rj]
theorem Lf (x y q:Int):(x-y%q)%q=(x-y)%q:=Qy ((Cg.Ot x).sub (Cg.emod q y))
theorem GM (q a:Int) (p:List Int) (j:Nat):(mc q p a).getD j 0=((0::p).getD j 0-p.getD j 0*a%q)%q:=by
 rw[Lf]
 cases j with
 |zero=>rw[Nz,fY];congr 1;grind
 |succ j=>rw[EV,eF];congr 1;grind
theorem cF {α:Type} (d:α) {l:List α} (h:k<l.length):l.take (k+1)=l.take k++[l.getD k d]:=by
 rw[List.take_succ,bw h];simp[br,bw h]
def jF (q:Int) (p:List Int) (a:Int) (j:Nat):List Int:=(mc q p a).take j++(0::p).getD j 0::List.replicate (p.length-j) 0
theorem Fz (h:j<=p.length):(jF q p a j).length=p.length+1:=by
 have:=qN q a p;simp[jF];omega
theorem Ow (q a:Int) (p:List Int):jF q p a 0=List.replicate (p.length+1) 0:=by
 simp[jF,List.replicate_succ]
theorem I4 (h:j<=p.length):(jF q p a j).getD j 0=(0::p).getD j 0:=by
 have hl:((mc q p a).take j).length=j:=by rw[bL,qN];omega
 unfold jF;rw[br,ux (by omega),hl,fC];rfl
theorem BT (h:j<p.length):(jF q p a j).getD (j+1) 0=0:=by
 have hl:((mc q p a).take j).length=j:=by rw[bL,qN];omega
 unfold jF;rw[br,ux (by omega),hl,show j+1-j=1 by omega,List.getElem?_cons_succ,xS]
 split<;>rfl
theorem BU (h:j<p.length):((jF q p a j).set (j+1) (p.getD j 0)).set j ((mc q p a).getD j 0)=jF q p a (j+1):=by
 have hm:=qN q a p;have hl:((mc q p a).take j).length=j:=by rw[bL,hm];omega
 unfold jF;rw[DN _ _ (by omega),DN _ _ (by omega),hl,fC,show j+1-j=1 by omega,show p.length-j=(p.length-(j+1))+1 by omega,List.replicate_succ]
 simp only[List.set_cons_succ,List.set_cons_zero];rw[cF 0 (show j<(mc q p a).length by omega),eF];simp only[fI,List.cons_append,List.nil_append]
theorem Fy (hp:p≠[]) (hq:Lv q p):jF q p a p.length=mc q p a:=by
 have hm:=qN q a p;obtain⟨n,hn⟩: ∃n,p.length=n+1:=⟨p.length-1,by have:=iX.2 hp;omega⟩
 have h1:(mc q p a).getD (n+1) 0=p.getD n 0:=by
  rw[EV,Cz 0 p (n+1) (by omega),xE,Int.add_zero]
  exact Int.emod_eq_of_lt (hq n).1 (hq n).2
 unfold jF;rw[fC,List.replicate_zero,hn,eF,<-h1];have e:mc q p a=(mc q p a).take (n+1)++[(mc q p a).getD (n+1) 0]:=by
  conv=>lhs;rw[<-ug (n+1) (mc q p a)]
  congr 1;rw[jw (by omega),il (by omega)]
  simp[br,bw (show n+1<(mc q p a).length by omega)]
 exact e.symm
def pV (l:List Int) (i k:Nat):List Int:=(l.take k).eraseIdx i
theorem MD (l:List Int) (i:Nat):pV l i 0=[]:=by simp[pV]
theorem MF {l:List Int} (hk:k<l.length) (h:k≠i):pV l i (k+1)=pV l i k++[l.getD k 0]:=by
 have hl:(l.take k).length=k:=by rw[bL];omega
 unfold pV;rw[cF 0 hk];rcases Nat.lt_or_gt_of_ne h with g|g
 ·rw[Dx (by simp;omega),Dx (by omega)]
 ·rw[List.eraseIdx_append_of_lt_length (by omega)]
theorem ME {l:List Int} (hk:i<l.length):pV l i (i+1)=pV l i i:=by
 have hl:(l.take i).length=i:=by rw[bL];omega
 unfold pV;have r:(l.take i).eraseIdx i=l.take i:=Dx (by omega)
 rw[cF 0 hk,List.eraseIdx_append_of_length_le (by omega),hl,fC,r]
 simp
theorem Ig (l:List Int) (i:Nat):pV l i l.length=l.eraseIdx i:=by rw[pV,cd]
def fg (q:Int) (P:Nat->List Int) (f:Nat->Int) (n i j:Nat):List Int:=(List.range n).map fun t=>if t<j then AB q P f t (i+1)else AB q P f t i
theorem lZ (q:Int) (P:Nat->List Int) (f:Nat->Int) (n i j:Nat):(fg q P f n i j).length=n:=by simp[fg]
theorem CU {P:Nat->List Int} {f:Nat->Int} (h:j<n):(fg q P f n i j).getD j 0=AB q P f j i:=by
 rw[fg,br,dG,jI h];simp
theorem vE {P:Nat->List Int} {f:Nat->Int} (h:j<n):(fg q P f n i j).set j (AB q P f j (i+1))=fg q P f n i (j+1):=by
 refine nU fun t=> ?_
 by_cases ht:t<n
 ·by_cases e:j=t
  ·subst e;rw[List.getElem?_set_self (by rw[lZ];exact h),fg,dG,jI h];simp
  ·rw[DA e,fg,fg,dG,dG,jI ht];simp only[Option.map_some,aj]
   by_cases g:t<j
   ·rw[ah g,ah (by omega)]
   ·rw[ae g,ae (by omega)]
 ·rw[jJ (by rw[fA,lZ];omega),jJ (by rw[lZ];omega)]
theorem vD (q:Int) (P:Nat->List Int) (f:Nat->Int) (n i:Nat):fg q P f n i n=fg q P f n (i+1) 0:=by
 unfold fg;refine nS fun t ht=> ?_
 rw[ah (dW.1 ht),ae (pE _)]
theorem NS (q:Int) (P:Nat->List Int) (f:Nat->Int) (n:Nat):fg q P f n 0 0=List.replicate n 0:=by
 unfold fg;refine nU fun t=> ?_
 by_cases ht:t<n
 ·rw[dG,jI ht,xS,ah ht];simp[AB]
 ·rw[jJ (by simp;omega),jJ (by simp;omega)]
theorem Fb (q:Int) (l:List Int) (f:Nat->Int):fg q (fun k=>AK q (l.eraseIdx k)) f l.length l.length 0=Li q l f:=by
 unfold fg Li;refine nS fun t ht=> ?_
 rw[ae (pE _)]
theorem MW {x:Int} (h:i<p.length):xf q (p.drop i) x=(xf q (p.drop (i+1)) x*x%q+p.getD i 0)%q:=by
 rw[jw h,br,bw h];rfl
theorem US {q a:Nat} (h:Iv q a):Nat.gcd a q=1:=by
 obtain⟨b,k,hk⟩:=h;have h1:((Nat.gcd a q:Nat):Int)∣a:=DI.2 (DL a q);have h2:((Nat.gcd a q:Nat):Int)∣q:=DI.2 (DD a q);have h3:((Nat.gcd a q:Nat):Int)∣(a:Int)*b-(q:Int)*k:=Int.dvd_sub (Int.dvd_mul_of_dvd_left h1) (Int.dvd_mul_of_dvd_left h2);rw[show(a:Int)*b-(q:Int)*k=1 by omega]at h3
 exact Nat.dvd_one.1 (DI.1 (by simpa using h3))
theorem I9 {q:Nat} (hp:eY q=true) {pts:List Nat} (hd:pts.Nodup) (hb: ∀a∈pts,a<=8/\a<q) (hi:i<pts.length):Nat.gcd (wH q (pts.getD i 0:Nat) ((nI pts).eraseIdx i)).toNat q=1:=by
 have h2:=(r5 hp).1;have h1:Ww q (nI pts):=Ij hp hd hb;have h3:=h1.iv (i:=i) (by rw[sf];exact hi)
 rw[tx]at h3;have h4:=(VC h3).cg (V6 q _ _).symm;have h5:=vO (q:=(q:Int)) (by omega) (pts.getD i 0:Nat) ((nI pts).eraseIdx i)
 refine US ?_;rw[lD h5.1];exact h4
section
variable {α:Type} [DecidableEq α] {st:Bool} {κ:α->PV}
def l9 (κ:α->PV) (l:List α):List AV:=l.flatMap fun x=>[.v (κ x), .v (.b true)]
theorem FK (κ:α->PV):l9 κ []=[]:=rfl
theorem qm (hk: ∀a b,iS st (κ a) (κ b)=some (decide (a=b))) (x:α): ∀l:List α,Nw st (κ x) (l9 κ l)=True
 |[]=>by simp[l9,Nw,hk]
 |a::l=>by
  have:=qm hk x l;simp only[l9,eu,List.cons_append,List.nil_append,Nw,hk,Option.isSome_some,rp]at this⊢;exact this
theorem qM (hk: ∀a b,iS st (κ a) (κ b)=some (decide (a=b))) (x:α): ∀l:List α,oJ st (.b false) (κ x) (l9 κ l)= .b (decide (x∈l))
 |[]=>rfl
 |a::l=>by
  have:=qM hk x l;simp only[l9,eu,List.cons_append,List.nil_append,oJ,hk,aj,cK]at this⊢
  by_cases e:x=a
  ·subst e;simp
  ·rw[ae e,this];simp[e]
theorem qL (hk: ∀a b,iS st (κ a) (κ b)=some (decide (a=b))) {x:α}: ∀{l:List α},x∉l->vn st (κ x) (.b true) (l9 κ l)=l9 κ (l++[x])
 |[],_=>rfl
 |a::l,h=>by
  simp only[cb,not_or]at h;have:=qL hk h.2;simp only[l9,eu,List.cons_append,List.nil_append,vn,hk,aj,cK,ae h.1]at this⊢;rw[this]
theorem xy (κ:α->PV) (l:List α) (n:Nat):(∀y,y∈l9 κ l->y.bd n=true)=True:=by
 simp only[eq_iff_iff,iff_true];intro y hy;obtain⟨a,-,hy⟩:=kq.1 hy;simp only[cb,iD,or_false]at hy;rcases hy with rfl|rfl<;>rfl
end
theorem Ni (a b:Bytes):iS true (.s a) (.s b)=some (decide (a=b)):=by
 by_cases h:a=b<;>simp[iS,h]
theorem S5 (a b:Int):iS false (.i .i64 a) (.i .i64 b)=some (decide (a=b)):=by
 by_cases h:a=b<;>simp[iS,h]
