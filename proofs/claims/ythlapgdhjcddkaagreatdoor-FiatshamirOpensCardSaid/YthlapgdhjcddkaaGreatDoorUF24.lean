/- Part of the proof. -/
import Derived.Test.YthlapgdhjcddkaaGreatDoorUF23
set_option linter.all false
set_option maxHeartbeats 16000000
set_option maxRecDepth 100000
namespace Go.Proofs.Tryz
open Go Go.Dom Go.Num
variable {a b x:Nat} {e o:Bytes}
def gE (m o:Bytes):Int:=if !(ae m&&ae o)then 3 else if o==[]then(if jE m []then 0 else 13)else if num m<=1\/num o<=1\/(num m-1)%num o≠0 then 13 else 0
def nU (m o x:Bytes):Bool:=if o==[]then Bb m [] x else oz m o x
def vX (m o x:Bytes):Bool:=decide (gE m o=0)&&nU m o x
structure GP (m o:Bytes) (n:Nat):Prop where
 lt:n<num m
 UN:Nat.gcd n (num m)=1
 ord:o=[]\/n^num o%num m=1%num m
theorem nD {m o:Bytes} (h:gE m o=0):ae m=true/\ae o=true/\1<num m/\(o=[]->jE m []=true)/\(o≠[]->1<num o/\(num m-1)%num o=0):=by
 unfold gE at h
 split at h
 ·cases h
 ·rename_i h1;have h1:ae m=true/\ae o=true:=by simpa using h1
  split at h
  ·rename_i h2
   split at h
   ·rename_i h3;have h4:8<num m:=by simp only[jE,bc,a8]at h3;exact h3.2
    exact⟨h1.1,h1.2,oO,fun _=>h3,fun g=>aJ (by simpa using h2) g⟩
   ·cases h
  ·rename_i h2
   split at h
   ·cases h
   ·rename_i h3;exact⟨h1.1,h1.2,oO,fun g=>aJ g (by simpa using h2),fun _=>oO⟩
theorem Ae {x i m:Nat} (hm:1<m) (h:x*i%m=1%m):Nat.gcd x m=1:=by
 have h1:Nat.gcd x m∣x*i%m:=by
  have d1:Nat.gcd x m∣x*i:=Nat.dvd_trans (ED x m) (Nat.dvd_mul_right x i);exact(Nat.dvd_mod_iff (EM x m)).2 d1
 rw[h,bV hm]at h1;exact Nat.dvd_one.1 h1
theorem dH {m o x:Bytes} (h:gE m o=0):nU m o x=true↔ae x=true/\GP m o (num x):=by
 obtain⟨vm,vo,m1,hr,hp⟩:=nD h;unfold nU
 by_cases ho:o=[]
 ·subst ho;have hb:=hr rfl;simp only[eY,aC,Bb,hb,bc,a8,fW,du,sF];constructor
  ·rintro⟨⟨⟨h1,h2⟩,h3⟩,h4⟩;exact⟨h1,h3,h4, .inl rfl⟩
  ·rintro⟨h1,h3,h4,-⟩;refine⟨⟨⟨h1,?_⟩,h3⟩,h4⟩;intro e;subst e;simp[num]at h4;omega
 ·have hb:(o==([]:Bytes))=false:=by simpa using ho
  obtain⟨o1,od⟩:=hp ho;simp only[hb,cE,aB,oz,vm,vo,bc,a8,fW,du,sF,dW,and_true];constructor
  ·rintro⟨⟨⟨h1,h2⟩,h3⟩,h4⟩;have:num x^num o=num x*num x^(num o-1):=by rw[<-yY];congr 1;omega
   rw[this]at h4;exact⟨h1,h3,Ae m1 h4, .inr (by rw[this];exact h4)⟩
  ·rintro⟨h1,h3,h4,h5⟩;refine⟨⟨⟨h1,?_⟩,h3⟩,h5.resolve_left ho⟩;intro e;subst e;simp[num]at h4;omega
theorem FJ (a b:Nat):Nat.gcd (a%b) b=Nat.gcd a b:=by rw[<-mQ,lB]
theorem GP.unit {m o:Bytes} {n:Nat} (h:GP m o n):eK (num m) n:=ky (by have:=h.lt;omega) h.UN
theorem GP.mul {m o:Bytes} (ha:GP m o a) (hb:GP m o b):GP m o (a*b%num m):=by
 have h0:0<num m:=by have:=ha.lt;omega
 refine⟨aV _ h0,?_,?_⟩
 ·rw[FJ];exact Nat.Coprime.mul_left ha.UN hb.UN
 ·rcases ha.ord with h|h
  ·exact .inl h
  ·rcases hb.ord with g|g
   ·exact .inl g
   ·refine .inr ?_;rw[<-j8,sy,db,h,g,<-db,iL]
theorem GP.pow {m o:Bytes} (ha:GP m o a) (e:Nat):GP m o (a^e%num m):=by
 have h0:0<num m:=by have:=ha.lt;omega
 refine⟨aV _ h0,?_,?_⟩
 ·rw[FJ];exact Nat.Coprime.pow_left e ha.UN
 ·rcases ha.ord with h|h
  ·exact .inl h
  ·refine .inr ?_;rw[<-j8,<-kR,cv,kR,j8,h,<-j8,yW]
theorem GP.inv {m o:Bytes} (ha:GP m o a) (m1:1<num m):GP m o (gV a (num m)):=by
 have h0:0<num m:=oO;obtain⟨g1,g2⟩:=ha.unit.inv;refine⟨g1,Ae (i:=a) m1 (by rw[cv];exact g2),?_⟩
 rcases ha.ord with h|h
 ·exact .inl h
 ·refine .inr ?_;have e1:(a*gV a (num m))^num o%num m=1%num m:=by rw[j8,g2,<-j8,yW]
  rw[sy,db,h,<-db,iL]at e1;exact e1
theorem GP.dM {m o:Bytes} (ha:GP m o a) (m1:1<num m) (ng:Bool) (e:Nat):GP m o (Dom.dM (num m) a ng e):=by
 unfold Dom.dM;cases ng
 ·exact ha.pow e
 ·exact(ha.inv m1).pow e
theorem GP.has {m o:Bytes} {n:Nat} (h:GP m o n) (hE:gE m o=0) (lm:m.length<=8):nU m o (b7 n)=true:=by
 have:=ga lm;exact(dH hE).2 ⟨vN (by have:=h.lt;omega),by rw[bG];exact h⟩
theorem pw {m:Bytes} (lm:m.length<=8) (lo:o.length<=8):aH 273 [G m o] (E (gE m o)):=by
 by_cases ho:o=[]
 ·subst ho;have:=H8 m;have e:gE m []=X7 m:=by
   unfold gE X7;have hv0:ae []=true:=rfl
   cases ae m<;>simp[hv0]
  rw[e];exact this
 have hb:(o==([]:Bytes))=false:=by simpa using ho
 have v1:=aX m;have v2:=aX o;unfold gE
 by_cases hv:ae m=true/\ae o=true
 case neg=>
  have:(ae m&&ae o)=false:=by rw[dR];intro g;simp at g;exact hv g
  rw[this];generalize ae m=b1 at*;generalize ae o=b2 at*;refine eW call273 func273 ?_;exact Ut @v1 @v2
 obtain⟨vm,vo⟩:=hv;have nm:=ga lm;have no:=ga lo;have hop:num o≠0:=fun e=>ho ((uL vo).1 e)
 rw[vm]at v1;rw[vo]at v2;rw[vm,vo,hb];have hs:=abY (a:=num m) (b:=1) nm oC;have hcm:=nk o [2];rw[vo,show ae [2]=true from rfl,show num [2]=2 from rfl]at hcm
 simp only[dF,aC]at hcm;have hcl: ∀ _:True,decide (a7 (num o) 2<0)=decide (num o<2):=fun _=>by
  rw[cu];simp[fZ]
 have e1:N (num m)= .s m:=congrArg PV.s (jr vm);have e2:N (num o)= .s o:=congrArg PV.s (jr vo);rw[e1]at hs;generalize a7 (num o) 2=cm at*
 by_cases m0:num m=0
 ·rw[aa oO,aa oO]at hs;have:(if num m<=1\/num o<=1\/(num m-1)%num o≠0 then(13:Int)else 0)=13:=af oO
  simp only[dF,dy,cE,aB,this];refine eW call273 func273 ?_;simp only[go_sem,seval,fS];exact YJ (aN @hb @fS) @v1 @v2 @Da @hs
 rw[af oO,af oO]at hs
 by_cases m1:num m=1
 ·have:(if num m<=1\/num o<=1\/(num m-1)%num o≠0 then(13:Int)else 0)=13:=af oO
  simp only[dF,dy,cE,aB,this];rw[m1]at hs;refine eW call273 func273 ?_;simp only[go_sem,seval,fS];exact YJ (aN @hb (aN @fS @HV)) @v1 @v2 @Da @hs
 have en:=tF (n:=num m-1) oO;have hd:=tY (a:=num m-1) (b:=num o) oO no oO;rw[e2]at hd;have hz: ∀ _:True,(b7 ((num m-1)%num o)==([]:Bytes))=decide ((num m-1)%num o=0):=fun _=>by
  rw[cu];simp[jh]
 by_cases o1:num o<2
 ·have:(if num m<=1\/num o<=1\/(num m-1)%num o≠0 then(13:Int)else 0)=13:=af oO
  simp only[dF,dy,cE,aB,this];rw[aQ o1]at hcl;refine eW call273 func273 ?_;simp only[go_sem,seval,fS];exact QR (aN @hb (aN @fS (aN @en (hcl oT)))) @v1 @v2 @Da @VM @hs @hcm oT
 rw[aS o1]at hcl
 by_cases hd0:(num m-1)%num o=0
 ·have:(if num m<=1\/num o<=1\/(num m-1)%num o≠0 then(13:Int)else 0)=0:=aa oO
  simp only[dF,dy,cE,aB,this];rw[hd0]at hd;refine eW call273 func273 ?_;simp only[go_sem,seval,fS];exact QR (aN @hb (aN @fS (aN @en (aN (hcl oT) @HV)))) @v1 @v2 @Da @VM @hs @hcm @hd
 ·have:(if num m<=1\/num o<=1\/(num m-1)%num o≠0 then(13:Int)else 0)=13:=af oO
  simp only[dF,dy,cE,aB,this];have en2:=tF hd0;refine eW call273 func273 ?_;simp only[go_sem,seval,fS];exact QR (aN @hb (aN @fS (aN @en (aN (hcl oT) @en2)))) @v1 @v2 @Da @VM @hs @hcm @hd
theorem uC {m:Bytes} (lm:m.length<=8) (o x:Bytes):aH 274 [G m o, .s x] (.b (nU m o x)):=by
 by_cases ho:o=[]
 ·subst ho;exact Pu lm x
 ·have hb:(o==([]:Bytes))=false:=by simpa using ho
  have h:=Pg lm o x;unfold nU;rw[hb];simp only[cE,aB];refine eW call274 func274 ?_;exact iE @hb @h
theorem HG {m:Bytes} (lm:m.length<=8) (lo:o.length<=8) (x:Bytes):aH 190 [G m o, .s x] (.b (vX m o x)):=by
 have h1:=pw lm lo;have h2:=uC lm o x;unfold vX;generalize gE m o=z at*;generalize nU m o x=b at*;refine eW call190 func190 ?_;exact Ut @h1 @h2
theorem Dy {m:Bytes} (lm:m.length<=8) (lo:o.length<=8) (hE:gE m o=0) (ha:GP m o a) (hb:GP m o b):aH 192 [G m o,N a,N b] (.tup [N (a*b%num m),E 0]):=by
 obtain⟨vm,vo,m1,-,-⟩:=nD hE;have hn:=ga lm;have la:=ha.lt;have lb:=hb.lt;have hm:=qY (a:=a) (b:=b) (m:=num m) oO oO hn oO;have e1:N (num m)= .s m:=congrArg PV.s (jr vm);rw[e1]at hm;have c1:=aX (b7 a);have c2:=aX (b7 b);rw[vN (show a<(2^64) by omega)]at c1
 rw[vN (show b<(2^64) by omega)]at c2
 have c3:=pw lm lo;rw[hE]at c3;have c4:=uC lm o (b7 a);have c5:=uC lm o (b7 b);rw[ha.has hE lm]at c4;rw[hb.has hE lm]at c5;have hch:aH 276 [G m o, .sl [N a,N b], .sl [], .b true] (E 0):=by
  refine eW call276 func276 ?_;exact zu5 @c1 @c2 @c3 @c4 @c5
 refine eW call192 func192 ?_;exact z2 @hch @hm
theorem NS {m:Bytes} (lm:m.length<=8) (lo:o.length<=8) {ng:Bool} (hE:gE m o=0) (hx:GP m o x) (he:ae e=true) (hz:(ng&&e==[])=false):aH 275 [G m o, .sl [N x], .sl [.agg [.b ng, .s e]]] (.tup [N (dM (num m) x ng (num e)),E 0]):=by
 obtain⟨vm,vo,m1,-,-⟩:=nD hE;have hn:=ga lm;have lx:=hx.lt;have c1:=aX (b7 x);rw[vN (show x<(2^64) by omega)]at c1
 have c2:=gY ng e;rw[he,hz]at c2;have c3:=pw lm lo;rw[hE]at c3;have c4:=uC lm o (b7 x);rw[hx.has hE lm]at c4;have hch:aH 276 [G m o, .sl [N x], .sl [.agg [.b ng, .s e]], .b true] (E 0):=by
  refine eW call276 func276 ?_;exact zu4 @c1 @c2 @c3 @c4
 have hbt:=yf he;have hbi:=fun i hi=>zp he i hi
 have hinv:=sY (a:=x) (m:=num m) oO hn oO hx.UN;have hil:=hx.unit.inv.1;clear c1 c2 c3 c4;unfold dM;obtain⟨n,hnn⟩: ∃n,n=num e:=⟨_,rfl⟩;obtain⟨M,hM⟩: ∃M,M=num m:=⟨_,rfl⟩;have eG:G m o= .agg [N M, .s o]:=by rw[hM,show N (num m)= .s m from congrArg PV.s (jr vm)]
 rw[eG]at hch⊢;rw[<-hM]at lx hn m1 hinv hil;rw[<-hnn]at hbt hbi;rw[<-hnn,<-hM];clear hx;have hbl:dG n<1000000:=by
  have h1:n<2^1024:=by
   rw[hnn];refine bM (cO e) ?_;have le:e.length<=128:=by simp[ae]at he;exact he.1
   exact fw (dp oC le) (by decide+kernel)
  unfold dG;split
  ·decide
  ·rename_i h;have:=(yV h).2 h1;omega
 have hmx: ∀ _:True,(if(dG n:Int)>0 then(dG n:Int)else 0)=(dG n:Int):=fun _=>by split<;>omega
 have hM1:1%M=1:=bV oO;have hw1: ∀ _:True,IntKind.i64.wrap ((dG n:Int)-1)=(dG n:Int)-1:=fun _=>IntWalk.i64_in _ oO
 cases ng
 ·simp only[cE,aB];obtain⟨xm,hxm⟩: ∃xm,xm=x:=⟨_,rfl⟩;rw[<-hxm]at hch lx⊢;refine eW call275 func275 ?_;refine mK (aN @K7 (aN @Ci (aN @rq (aN @LJ (aN (hmx oT) (aN (hw1 oT) @fS)))))) @hch @hbt @Da oT ?_;refine aq ?_;refine mK (aN @K7 (aN @Ci (aN @rq (aN @LJ (aN (hmx oT) (aN (hw1 oT) @fS)))))) @hch @hbt @Da oT ?_;refine aq ?_;refine mK (aN @K7 (aN @Ci (aN @rq (aN @LJ (aN (hmx oT) (aN (hw1 oT) @fS)))))) @hch @hbt @Da oT ?_;refine ah (α:=Nat) (fun k=>k) (fun k=>⟨[(2, .v (.sl [.agg [.b false, .s e]])),(9, .rs 1017 0 0 1 1),(15, .p 1052 0 0),(16, .fn (.func 343) [] [.p 1052 0 0, .p 1000 0 0]),(17, .v (.i .i64 ((k:Int)-1)))],[(1052,⟨0,[.v (N (xm^(n/2^k)%M))],false,some 22⟩),(1017,⟨0,[.v (N xm)],false,none⟩),(1000,⟨0,[.v (N M), .v (.s o)],false,none⟩)],_⟩) (fun k=>k<=dG n) (dG n) (fun _=>aA _) (aA _) ?_ ?_
  ·(refine AS.Le.of (by first|decide|omega) ?_ ?_<;>simp[cU,cT,aO,az,AV.bd,AV.bd.bdL,u8,aj,ak,an])
   rw[UH,Nat.pow_zero,hM1]
  ·intro k hk R hR
   cases k with
   |zero=>
    refine ye ?_;rw[jx]
   |succ k=>
    obtain⟨z,hz⟩: ∃z,z=xm^(n/2^(k+1))%M:=⟨_,rfl⟩;have hzm:z<M:=by rw[hz];exact aV _ oO
    have e1: ∀ _:True,((k+1:Nat):Int)-1=(k:Int):=fun _=>oO
    have hge: ∀ _:True,decide ((k:Int)>=0)=true:=fun _=>by simp
    have hbit:=hbi k oO;have hdec:n.testBit k=decide (n/2^k%2=1):=l9;rw[hdec]at hbit;have hwk: ∀ _:True,IntKind.i64.wrap ((k:Int)-1)=(k:Int)-1:=fun _=>IntWalk.i64_in _ oO
    have hdd:n/2^(k+1)=n/2^k/2:=by rw[Nat.pow_succ,ff]
    have hzz:z*z%M<M:=aV _ oO;rw[<-hz];have hx1:=fun nm=>nj 1052 1000 nm oC o (some 22) none (a:=z) (b:=z) (m:=M) oO oO oO oO
    have hx2:=fun nm=>nj 1052 1000 nm oC o (some 22) none (a:=z*z%M) (b:=xm) (m:=M) oO oO oO oO
    repeat' first|simp only[go_sem,seval,e1 oT,hge oT,kO,gA,rq]|(refine bK (hx1 _) (by simp[az]) ?_)|refine oE ?_|apply xX<;>intro hc
    refine aq ?_;repeat' first|simp only[go_sem,seval,hge oT,hwk oT,kO,gA,rq]|refine cP hbit ?_|(refine bK (hx2 _) (by simp[az]) ?_)|(refine aq ?_)|refine oE ?_|apply xX<;>intro hc
    ·have hb2:n/2^k=2*(n/2^(k+1))+1:=oO;refine hR k oO oO _ ?_;have ez:z*z%M*xm%M=xm^(n/2^k)%M:=by
      have e3:z*z%M=xm^(n/2^(k+1))*xm^(n/2^(k+1))%M:=by rw[hz,<-db]
      rw[hb2,Nat.pow_succ,sw,dD,e3,jt]
     rw[<-ez];exact lE
    ·have hb2:n/2^k=2*(n/2^(k+1)):=oO;refine hR k oO oO _ ?_;have ez:z*z%M=xm^(n/2^k)%M:=by
      rw[hb2,sw,dD,hz,<-db]
     rw[<-ez];exact lE
 ·simp only[aC];obtain⟨xm,hxm⟩: ∃xm,xm=gV x M:=⟨_,rfl⟩;rw[<-hxm]at hinv hil⊢;refine eW call275 func275 ?_;refine mK (aN @K7 (aN @Ci (aN @rq (aN @LJ (aN (hmx oT) (aN (hw1 oT) @fS)))))) @hch @hbt @Da @hinv ?_;refine aq ?_;refine mK (aN @K7 (aN @Ci (aN @rq (aN @LJ (aN (hmx oT) (aN (hw1 oT) @fS)))))) @hch @hbt @Da @hinv ?_;refine aq ?_;refine mK (aN @K7 (aN @Ci (aN @rq (aN @LJ (aN (hmx oT) (aN (hw1 oT) @fS)))))) @hch @hbt @Da @hinv ?_;refine ah (α:=Nat) (fun k=>k) (fun k=>⟨[(2, .v (.sl [.agg [.b true, .s e]])),(9, .rs 1017 0 0 1 1),(15, .p 1068 0 0),(16, .fn (.func 343) [] [.p 1068 0 0, .p 1000 0 0]),(17, .v (.i .i64 ((k:Int)-1)))],[(1068,⟨0,[.v (N (xm^(n/2^k)%M))],false,some 22⟩),(1017,⟨0,[.v (N xm)],false,none⟩),(1000,⟨0,[.v (N M), .v (.s o)],false,none⟩)],_⟩) (fun k=>k<=dG n) (dG n) (fun _=>aA _) (aA _) ?_ ?_
  ·(refine AS.Le.of (by first|decide|omega) ?_ ?_<;>simp[cU,cT,aO,az,AV.bd,AV.bd.bdL,u8,aj,ak,an])
   rw[UH,Nat.pow_zero,hM1]
  ·intro k hk R hR
   cases k with
   |zero=>
    refine ye ?_;rw[jx]
   |succ k=>
    obtain⟨z,hz⟩: ∃z,z=xm^(n/2^(k+1))%M:=⟨_,rfl⟩;have hzm:z<M:=by rw[hz];exact aV _ oO
    have e1: ∀ _:True,((k+1:Nat):Int)-1=(k:Int):=fun _=>oO
    have hge: ∀ _:True,decide ((k:Int)>=0)=true:=fun _=>by simp
    have hbit:=hbi k oO;have hdec:n.testBit k=decide (n/2^k%2=1):=l9;rw[hdec]at hbit;have hwk: ∀ _:True,IntKind.i64.wrap ((k:Int)-1)=(k:Int)-1:=fun _=>IntWalk.i64_in _ oO
    have hdd:n/2^(k+1)=n/2^k/2:=by rw[Nat.pow_succ,ff]
    have hzz:z*z%M<M:=aV _ oO;rw[<-hz];have hx1:=fun nm=>nj 1068 1000 nm oC o (some 22) none (a:=z) (b:=z) (m:=M) oO oO oO oO
    have hx2:=fun nm=>nj 1068 1000 nm oC o (some 22) none (a:=z*z%M) (b:=xm) (m:=M) oO oO oO oO
    repeat' first|simp only[go_sem,seval,e1 oT,hge oT,kO,gA,rq]|(refine bK (hx1 _) (by simp[az]) ?_)|refine oE ?_|apply xX<;>intro hc
    refine aq ?_;repeat' first|simp only[go_sem,seval,hge oT,hwk oT,kO,gA,rq]|refine cP hbit ?_|(refine bK (hx2 _) (by simp[az]) ?_)|(refine aq ?_)|refine oE ?_|apply xX<;>intro hc
    ·have hb2:n/2^k=2*(n/2^(k+1))+1:=oO;refine hR k oO oO _ ?_;have ez:z*z%M*xm%M=xm^(n/2^k)%M:=by
      have e3:z*z%M=xm^(n/2^(k+1))*xm^(n/2^(k+1))%M:=by rw[hz,<-db]
      rw[hb2,Nat.pow_succ,sw,dD,e3,jt]
     rw[<-ez];exact lE
    ·have hb2:n/2^k=2*(n/2^(k+1)):=oO;refine hR k oO oO _ ?_;have ez:z*z%M=xm^(n/2^k)%M:=by
      rw[hb2,sw,dD,hz,<-db]
     rw[<-ez];exact lE
theorem pW {m:Bytes} (lm:m.length<=8) (lo:o.length<=8) {ng:Bool} (hE:gE m o=0) (hx:GP m o x) (he:ae e=true) (hz:(ng&&e==[])=false):aH 191 [G m o,N x, .agg [.b ng, .s e]] (.tup [N (dM (num m) x ng (num e)),E 0]):=by
 have hp:=NS lm lo hE hx he hz;refine eW call191 func191 ?_;exact z1 @hp
end Go.Proofs.Tryz
namespace Go.Proofs.Tryz
open Go Go.Dom Go.Num
structure dx where
 (base:Bytes) (var:Int) (neg:Bool) (abs:Bytes)
def dx.pv:dx->PV
 |⟨b,v,n,a⟩=> .agg [.s b, .i .i64 v, .b n, .s a]
structure bZ where
 (ig:Int) (tgt:Bytes) (terms:List dx)
def bZ.pv:bZ->PV
 |⟨g,t,l⟩=> .agg [.i .i64 g, .s t, .sl (l.map dx.pv)]
def cz:Bytes×Bytes->PV
 |(m,o)=> .agg [.s m, .s o]
def bO (b:Bytes):PV:= .agg [.s b]
def ca:Bool×Bytes->PV
 |(n,a)=> .agg [.b n, .s a]
structure aT where
 (groups:List (Bytes×Bytes)) (vars:List Bytes) (eqs:List bZ)
def aT.pv (s:aT):PV:= .agg [.sl (s.groups.map cz), .sl (s.vars.map bO), .sl (s.eqs.map bZ.pv)]
def iB (z:Int):Bool×Bytes:=(zs z,zb z)
theorem SS (z:Int):ca (iB z)=Z z:=rfl
def Zp (z:Int):PV:=ca (iB z)
def cr (x:Bool×Bytes):Bool:=ae x.2&& !(x.1&&x.2==[])
def dN:dx:=⟨[],0,false,[]⟩
def dU:bZ:=⟨0,[],[]⟩
def dL:Bytes×Bytes:=([],[])
def eT:Bool×Bytes:=(false,[])
structure Zi (s:aT):Prop where
 g: ∀p∈s.groups,gE p.1 p.2=0/\p.1.length<=8/\p.2.length<=8
 v: ∀b∈s.vars,ae b=true/\b≠[]/\b.length<=16
 q: ∀q∈s.eqs,0<=q.ig/\q.ig<s.groups.length/\nU (s.groups.getD q.ig.toNat dL).1 (s.groups.getD q.ig.toNat dL).2 q.tgt=true/\q.terms.length<=64/\
  ∀t∈q.terms,0<=t.var/\t.var<s.vars.length/\nU (s.groups.getD q.ig.toNat dL).1 (s.groups.getD q.ig.toNat dL).2 t.base=true/\cr (t.neg,t.abs)=true
 ng:s.groups.length<=8
 nv:s.vars.length<=64
 ne:s.eqs.length<=64
structure UB (s:aT):Prop where
 g: ∀p∈s.groups,gE p.1 p.2=0/\p.1.length<=8/\p.2.length<=8
 q: ∀q∈s.eqs,0<=q.ig/\q.ig<s.groups.length/\nU (s.groups.getD q.ig.toNat dL).1 (s.groups.getD q.ig.toNat dL).2 q.tgt=true/\q.terms.length<=64/\
  ∀t∈q.terms,0<=t.var/\t.var<s.vars.length/\nU (s.groups.getD q.ig.toNat dL).1 (s.groups.getD q.ig.toNat dL).2 t.base=true/\cr (t.neg,t.abs)=true
 ng:s.groups.length<=8
 nv:s.vars.length<=64
 ne:s.eqs.length<=64
theorem Zi.m {s:aT} (h:Zi s):UB s:=⟨h.g,h.q,h.ng,h.nv,h.ne⟩
theorem getD_map {α:Type} (f:α->PV) (l:List α) (d:α) {i:Nat} (h:i<l.length):(l.map f).getD i .fn0=f (l.getD i d):=by
 simp[bu,h]
theorem aE {α:Type} {l:List α} {i:Nat} (d:α) (h:i<l.length):l.drop i=l.getD i d::l.drop (i+1):=by
 rw[kJ h,bu,bC h];rfl
theorem ai {α:Type} {l:List α} {i:Nat} (d:α) (h:i<l.length):l.getD i d∈l:=by
 rw[bu,bC h];exact j7 h
theorem fP {m o x:Bytes} (hE:gE m o=0) (h:nU m o x=true):ae x=true:=((dH hE).1 h).1
theorem Bx (l:List (Bool×Bytes)) (f:FuncId) (p:(Bool×Bytes)->Bool) (hl:l.length<4611686018427387904) (h: ∀x,aH f [ca x] (.b (p x))):aH 213 [.sl (l.map ca), .fn (.func f)] (E (dk p 0 l)):=by
 have hlm:(l.map ca).length=l.length:=au ..;refine eW call213 func213 ?_;refine dh @hlm ?_;refine ah (α:=Nat) (fun i=>l.length-i) (fun i=>⟨[(0, .v (.sl (l.map ca))),(1, .v (.fn (.func f))),(7, .v (.i .i64 l.length)),(8, .v (.i .i64 (i:Nat)))],[],_⟩) (fun i=>i<=l.length/\dk p i (l.drop i)=dk p 0 l) 0 (fun _=>aA _) ⟨aD _,rfl⟩ ?_ ?_
 ·exact lE
 ·rintro i ⟨hi,hx⟩ R hR;rw[<-hx]
  by_cases hlt:i<l.length
  ·have e1:=getD_map ca l eT hlt;have hf:=h (l.getD i eT);have hgo:=hR (i+1);rw[<-hx,aE eT hlt]at hgo;rw[aE eT hlt];simp only[dk]at hgo⊢;clear hx hR h;obtain⟨b,hb⟩: ∃b,b=p (l.getD i eT):=⟨_,rfl⟩;rw[<-hb]at hf hgo⊢;clear hb;obtain⟨x,hxx⟩: ∃x,x=l.getD i eT:=⟨_,rfl⟩;rw[<-hxx]at e1 hf;clear hxx;cases x;simp only[ca]at e1 hf;cases b
   ·have hgo:=hgo ⟨oO,rfl⟩ oO;exact gi (aN @hlm @e1) @hgo @hf
   ·exact iE (aN @hlm @e1) @hf
  ·obtain rfl:i=l.length:=oO;rw[bw];repeat' first|simp only[go_sem,seval,hlm]|refine oE ?_|apply xX<;>intro hc
   all_goals simp[dk]
theorem fL (l:List (Bool×Bytes)) (f:FuncId) (p:(Bool×Bytes)->Bool) (hl:l.length<4611686018427387904) (h: ∀x,aH f [ca x] (.b (p x))):aH 123 [.sl (l.map ca), .fn (.func f)] (.b (l.any p)):=by
 have hi:=Bx l f p hl h;have e:decide (dk p 0 l>=0)=l.any p:=by
  rw[cu,decide_eq_true_iff];exact gZ
 refine eW call123 func123 ?_;exact iE @e @hi
theorem BA (l:List bZ) (f:FuncId) (p:bZ->Bool) (hl:l.length<4611686018427387904) (h: ∀x,aH f [bZ.pv x] (.b (p x))):aH 353 [.sl (l.map bZ.pv), .fn (.func f)] (E (dk p 0 l)):=by
 have hlm:(l.map bZ.pv).length=l.length:=au ..;refine eW call353 func353 ?_;refine dh @hlm ?_;refine ah (α:=Nat) (fun i=>l.length-i) (fun i=>⟨[(0, .v (.sl (l.map bZ.pv))),(1, .v (.fn (.func f))),(7, .v (.i .i64 l.length)),(8, .v (.i .i64 (i:Nat)))],[],_⟩) (fun i=>i<=l.length/\dk p i (l.drop i)=dk p 0 l) 0 (fun _=>aA _) ⟨aD _,rfl⟩ ?_ ?_
 ·exact lE
 ·rintro i ⟨hi,hx⟩ R hR;rw[<-hx]
  by_cases hlt:i<l.length
  ·have e1:=getD_map bZ.pv l dU hlt;have hf:=h (l.getD i dU);have hgo:=hR (i+1);rw[<-hx,aE dU hlt]at hgo;rw[aE dU hlt];simp only[dk]at hgo⊢;clear hx hR h;obtain⟨b,hb⟩: ∃b,b=p (l.getD i dU):=⟨_,rfl⟩;rw[<-hb]at hf hgo⊢;clear hb;obtain⟨x,hxx⟩: ∃x,x=l.getD i dU:=⟨_,rfl⟩;rw[<-hxx]at e1 hf;clear hxx;cases x;simp only[bZ.pv]at e1 hf;cases b
   ·have hgo:=hgo ⟨oO,rfl⟩ oO;exact gi (aN @hlm @e1) @hgo @hf
   ·exact iE (aN @hlm @e1) @hf
  ·obtain rfl:i=l.length:=oO;rw[bw];repeat' first|simp only[go_sem,seval,hlm]|refine oE ?_|apply xX<;>intro hc
   all_goals simp[dk]
theorem wa (l:List bZ) (f:FuncId) (p:bZ->Bool) (hl:l.length<4611686018427387904) (h: ∀x,aH f [bZ.pv x] (.b (p x))):aH 303 [.sl (l.map bZ.pv), .fn (.func f)] (.b (l.any p)):=by
 have hi:=BA l f p hl h;have e:decide (dk p 0 l>=0)=l.any p:=by
  rw[cu,decide_eq_true_iff];exact gZ
 refine eW call303 func303 ?_;exact iE @e @hi
theorem BB (l:List dx) (f:FuncId) (c:List PV) (p:dx->Bool) (hl:l.length<4611686018427387904) (h: ∀x,aH f (x.pv::c) (.b (p x))):aH 354 [.sl (l.map dx.pv), .fc f [] c] (E (dk p 0 l)):=by
 have hlm:(l.map dx.pv).length=l.length:=au ..;refine eW call354 func354 ?_;refine dh @hlm ?_;refine ah (α:=Nat) (fun i=>l.length-i) (fun i=>⟨[(0, .v (.sl (l.map dx.pv))),(1, .v (.fc f [] c)),(7, .v (.i .i64 l.length)),(8, .v (.i .i64 (i:Nat)))],[],_⟩) (fun i=>i<=l.length/\dk p i (l.drop i)=dk p 0 l) 0 (fun _=>aA _) ⟨aD _,rfl⟩ ?_ ?_
 ·exact lE
 ·rintro i ⟨hi,hx⟩ R hR;rw[<-hx]
  by_cases hlt:i<l.length
  ·have e1:=getD_map dx.pv l dN hlt;have hf:=h (l.getD i dN);have hgo:=hR (i+1);rw[<-hx,aE dN hlt]at hgo;rw[aE dN hlt];simp only[dk]at hgo⊢;clear hx hR h;obtain⟨b,hb⟩: ∃b,b=p (l.getD i dN):=⟨_,rfl⟩;rw[<-hb]at hf hgo⊢;clear hb;obtain⟨x,hxx⟩: ∃x,x=l.getD i dN:=⟨_,rfl⟩;rw[<-hxx]at e1 hf;clear hxx;cases x;simp only[dx.pv]at e1 hf;cases b
   ·have hgo:=hgo ⟨oO,rfl⟩ oO;repeat' first|simp only[go_sem,seval,hlm,e1]|(refine fX hf (iO _ _) ?_)|refine oE ?_|apply xX<;>intro hc
    refine hgo _ ?_;exact lE
   ·repeat' first|simp only[go_sem,seval,hlm,e1]|(refine fX hf (iO _ _) ?_)|refine oE ?_|apply xX<;>intro hc
    all_goals rfl
  ·obtain rfl:i=l.length:=oO;rw[bw];repeat' first|simp only[go_sem,seval,hlm]|refine oE ?_|apply xX<;>intro hc
   all_goals simp[dk]
theorem wb (l:List dx) (f:FuncId) (c:List PV) (p:dx->Bool) (hl:l.length<4611686018427387904) (h: ∀x,aH f (x.pv::c) (.b (p x))):aH 305 [.sl (l.map dx.pv), .fc f [] c] (.b (l.any p)):=by
 have hi:=BB l f c p hl h;have e:decide (dk p 0 l>=0)=l.any p:=by
  rw[cu,decide_eq_true_iff];exact gZ
 refine eW call305 func305 ?_;exact iE @e @hi
theorem BC (l:List Bytes) (f:FuncId) (p:Bytes->Bool) (hl:l.length<4611686018427387904) (h: ∀x,aH f [bO x] (.b (p x))):aH 310 [.sl (l.map bO), .fn (.func f)] (E (dk p 0 l)):=by
 have hlm:(l.map bO).length=l.length:=au ..;refine eW call310 func310 ?_;refine dh @hlm ?_;refine ah (α:=Nat) (fun i=>l.length-i) (fun i=>⟨[(0, .v (.sl (l.map bO))),(1, .v (.fn (.func f))),(7, .v (.i .i64 l.length)),(8, .v (.i .i64 (i:Nat)))],[],_⟩) (fun i=>i<=l.length/\dk p i (l.drop i)=dk p 0 l) 0 (fun _=>aA _) ⟨aD _,rfl⟩ ?_ ?_
 ·exact lE
 ·rintro i ⟨hi,hx⟩ R hR;rw[<-hx]
  by_cases hlt:i<l.length
  ·have e1:=getD_map bO l [] hlt;have hf:=h (l.getD i []);have hgo:=hR (i+1);rw[<-hx,aE [] hlt]at hgo;rw[aE [] hlt];simp only[dk]at hgo⊢;clear hx hR h;generalize p (l.getD i [])=b at*;generalize l.getD i []=x at*;simp only[bO]at e1 hf;cases b
   ·have hgo:=hgo ⟨oO,rfl⟩ oO;exact gi (aN @hlm @e1) @hgo @hf
   ·exact iE (aN @hlm @e1) @hf
  ·obtain rfl:i=l.length:=oO;rw[bw];repeat' first|simp only[go_sem,seval,hlm]|refine oE ?_|apply xX<;>intro hc
   all_goals simp[dk]
theorem pj (l:List Bytes) (f:FuncId) (p:Bytes->Bool) (hl:l.length<4611686018427387904) (h: ∀x,aH f [bO x] (.b (p x))):aH 238 [.sl (l.map bO), .fn (.func f)] (.b (l.any p)):=by
 have hi:=BC l f p hl h;have e:decide (dk p 0 l>=0)=l.any p:=by
  rw[cu,decide_eq_true_iff];exact gZ
 refine eW call238 func238 ?_;exact iE @e @hi
end Go.Proofs.Tryz
namespace Go.Proofs.Tryz
open Go Go.Dom Go.Num
theorem S9 (q:bZ):aH 304 [q.pv] (.b (decide (64<q.terms.length))):=by
 obtain⟨g,t,l⟩:=q;have l4:(l.map dx.pv).length=l.length:=au ..;have hd:decide ((l.length:Int)>64)=decide (64<l.length):=by rw[fk];omega
 unfold bZ.pv;refine eW call304 func304 ?_;exact fz (aN @l4 @hd)
theorem SZ {m:Bytes} (lm:m.length<=8) {o:Bytes} (lo:o.length<=8) (t:dx):aH 306 [t.pv, .pt (cz (m,o)) 0] (.b (!vX m o t.base)):=by
 obtain⟨b,v,n,a⟩:=t;have h:=HG lm lo b;simp only[dx.pv,cz];generalize vX m o b=z at*;refine eW call306 func306 ?_;exact z1 @h
theorem WY (b:Bytes):aH 307 [bO b] (.b (b==[])):=by
 unfold bO;refine eW call307 func307 ?_;exact z0
end Go.Proofs.Tryz
namespace Go.Dom
structure cH {α:Type} (f:α->PV) (z:Nat):Prop where
 len: ∀x,(f x).cells.length=z
 one: ∀x,∀y∈(f x).cells,y.one=true
 z1:z=1-> ∀x,(f x).cells=[f x]
 zn:z≠1-> ∀x,f x= .agg (f x).cells
def aP {α:Type} (f:α->PV) (l:List α):List AV:=(l.flatMap fun x=>(f x).cells).map AV.v
variable {α:Type} {f:α->PV} {z:Nat}
theorem cH.s:cH PV.s 1:=⟨fun _=>rfl,fun _ y hy=>by cases fa.1 hy;rfl,fun _ _=>rfl,fun h=>aJ rfl h⟩
theorem KI (h:cH f z) (l:List α):(l.flatMap fun x=>(f x).cells).length=l.length*z:=by
 induction l with
 |nil=>simp
 |cons x l ih=>rw[ft,bR,ih,h.len,List.length_cons,lJ];omega
theorem bT (h:cH f z) (l:List α):(aP f l).length=l.length*z:=by rw[aP,au,KI h]
theorem cf (h:cH f z) (l:List α):(aP f l).take (l.length*z)=aP f l:=cQ (by rw[bT h];exact aA _)
theorem dI (h:cH f z) (l:List α):(aP f l).all AV.one=true:=by
 rw[bz];intro y hy;obtain⟨c,hc,rfl⟩:=cx.1 hy;obtain⟨x,-,hx⟩:=jy.1 hc;exact h.one x c hx
theorem dj (hf:Nat->Option aI) (k:Nat) (l:List α):bA (view hf (k+1)) (aP f l)=some (l.flatMap fun x=>(f x).cells):=iW _ _ _
theorem Io (hf:Nat->Option aI) (k:Nat) (l:List α):(aP f l).flatMap (aW hf (k+1))=[]:=by
 unfold aP
 induction (l.flatMap fun x=>(f x).cells)with
 |nil=>rfl
 |cons x l ih=>simp_all[aW]
theorem cK (h:cH f z) (l:List α):chunk z l.length (l.flatMap fun x=>(f x).cells)=l.map f:=by
 induction l with
 |nil=>rfl
 |cons x l ih=>
  have hl:=h.len x;rw[List.length_cons,ft,chunk,List.drop_left' hl,ih,b8];congr 1
  by_cases h1:z=1
  ·rw[af h1,h.z1 h1 x];rfl
  ·rw[aa h1,List.take_left' hl];exact(h.zn h1 x).symm
theorem bj {l:List α} {c:AV} {n:Nat} (h:c∈aP f l):c.bd n=true:=by
 obtain⟨x,-,rfl⟩:=cx.1 h;rfl
theorem bU (l:List α) (x:α):aP f (l++[x])=aP f l++(f x).cells.map AV.v:=by
 simp[aP,vQ]
theorem wY (h: ∀x,(f x).cells=[f x]) (l:List α) (d:α) {i:Nat} (hi:i<l.length):(aP f l).getD i .u= .v (f (l.getD i d)):=by
 have e:aP f l=l.map fun x=>AV.v (f x):=by
  unfold aP;clear hi
  induction l with
  |nil=>rfl
  |cons x l ih=>rw[ft,h x,mR,ih];rfl
 rw[e];simp[bu,hi]
theorem iH (h:cH f z) {hf:Nat->Option aI} {k n ver:Nat} {gr:Bool} {el:Option TypeId} {l:List α} {m:Nat} (hm:m=l.length) (hg:hf n=some ⟨ver,aP f l,gr,el⟩):view hf (k+2) (.rs n ver 0 m z)=some (.sl (l.map f)):=by
 subst hm;have h1:=bT h l;have h2:=dI h l;have h3:=cf h l;simp[view,hg,h1,h2,h3,dj,cK h]
theorem nQ (h:cH f z) {hf:Nat->Option aI} {k n ver:Nat} {gr:Bool} {el:Option TypeId} {l:List α} {m:Nat} (hm:m=l.length) (hg:hf n=some ⟨ver,aP f l,gr,el⟩):aW hf (k+2) (.rs n ver 0 m z)=[n]:=by
 subst hm;simp[aW,hg,cf h,Io]
theorem aL {α:Type} {l:List α} {i:Nat} (d:α) (h:i<l.length):l.take (i+1)=l.take i++[l.getD i d]:=by
 rw[List.take_succ,bC h,bu,bC h];rfl
theorem im {α:Type} (l:List α) (p:α->Bool):(l.any fun x=> !p x)= !l.all p:=by
 induction l with
 |nil=>rfl
 |cons x l ih=>rw[List.any_cons,List.all_cons,ih];cases p x<;>simp
end Go.Dom
namespace Go.Proofs.Tryz
open Go Go.Dom Go.Num
variable {b c sl:Bytes}
def ba:List (Bytes×Bytes)->Bytes
 |[]=>[]
 |g::r=>if g.2=[]then ba r else g.2
theorem xb (s:aT) (hl:s.groups.length<1000000):aH 218 [s.pv] (.s (ba s.groups)):=by
 obtain⟨gs,vs,es⟩:=s;simp only at hl;have l1:(gs.map cz).length=gs.length:=au ..;unfold aT.pv;simp only;refine eW call218 func218 ?_;refine dh @l1 ?_;refine ah (α:=Nat) (fun i=>gs.length-i) (fun i=>⟨[(1, .p 1000 0 0),(6, .v (.sl (gs.map cz))),(7,E' gs.length),(8,E' i)],[(1000,⟨0,[.v (.sl (gs.map cz)), .v (.sl (vs.map bO)), .v (.sl (es.map bZ.pv))],false,none⟩)],_⟩) (fun i=>i<=gs.length/\ba (gs.drop i)=ba gs) 0 (fun _=>aA _) ⟨aD _,rfl⟩ ?_ ?_
 ·exact lE
 ·rintro i ⟨hi,hf⟩ R hR;rw[<-hf]
  by_cases hlt:i<gs.length
  ·have e1:=getD_map cz gs dL hlt;have hgo:=hR (i+1);rw[<-hf]at hgo;rw[aE dL hlt]at hgo⊢;obtain⟨x,hx⟩: ∃x,x=gs.getD i dL:=⟨_,rfl⟩;rw[<-hx]at e1 hgo⊢;clear hx hf hR;obtain⟨m,o⟩:=x;simp only[ba]at hgo⊢;simp only[cz]at e1
   by_cases ho:o=[]
   ·subst ho;simp only[aC]at hgo⊢;have hgo:=hgo ⟨oO,trivial⟩ oO;exact gH (aN @l1 (aN @e1 @nn)) @hgo
   ·have hb:(o==([]:Bytes))=false:=by simpa using ho
    rw[aa ho];exact fz (aN @l1 (aN @e1 @hb))
  ·obtain rfl:i=gs.length:=oO;rw[bw];exact fz @l1
theorem Qk (h:b≠[]):aH 219 [bO b] (E 1):=by
 have hb:(b==([]:Bytes))=false:=by simpa using h
 unfold bO;refine eW call219 func219 ?_;exact fz @hb
structure we (c sl:Bytes):Prop where
 vc:ae c=true
 vs:ae sl=true
 lc:c.length<=8
 ls:sl.length<=8
 c2:2<=num c
 s2:2<=num sl
def qV (c sl b:Bytes):Nat:=num sl*num c*num b
def OI (c sl b:Bytes):Nat:=num sl*num c*num b-(num c-1)*(num b-1)
def aad (c sl b:Bytes):PV:= .agg [N (qV c sl b),N (OI c sl b)]
theorem Ge (h:b.length<=16):num b<eB:=bM (cO b) (dp oC h)
theorem yz (hr:we c sl) (hb:b.length<=16):qV c sl b<ek:=by
 have h1:num sl*num c<(2^64)*(2^64):=fT (ga hr.ls) (ga hr.lc);have h2:qV c sl b<(2^64)*(2^64)*eB:=fT h1 (Ge hb);exact bM h2 (by unfold ek eB;decide+kernel)
theorem OJ (hr:we c sl):(num c-1)*(num b-1)<=qV c sl b:=by
 unfold qV;have h1:(num c-1)*(num b-1)<=num c*num b:=lD oO oO;have h2:num c*num b<=num sl*(num c*num b):=ES _ (by have:=hr.s2;omega)
 rw[de];omega
theorem u9 {c sl q b:Bytes} (hr:we c sl) (vb:ae b=true) (hb:b≠[]) (lb:b.length<=16):aH 221 [.agg [.s c, .s sl, .s q], .s b] (.tup [aad c sl b,E 0]):=by
 have h64:=jM;have hw:=G5;have hML:=yz hr lb;have hle:=OJ (b:=b) hr;have hnc:=ga hr.lc;have hns:=ga hr.ls;have hnb:=ow (bJ vb) hb;have hb16:=Ge lb;have e1:=fA hr.vc;have e2:=fA hr.vs;have e3:=fA vb;have m1:=Te (a:=num sl) (b:=num c) (bM (fT hns hnc) (by unfold ek;decide+kernel)) oO oO
 have m2:=Te (a:=num sl*num c) (b:=num b) hML (bM (fT hns hnc) (by unfold ek;decide+kernel)) (by have:=BS;omega)
 have s1:=Bl (a:=num c) (b:=1) (by have:=hr.c2;omega) oO
 have s2:=Bl (a:=num b) (b:=1) oO (by have:=BS;omega)
 have m3:=Te (a:=num c-1) (b:=num b-1) oO oO (by have:=BS;omega)
 have s3:=Bl (a:=num sl*num c*num b) (b:=(num c-1)*(num b-1)) hle hML;rw[e1,e2]at m1;rw[e3]at m2;rw[e1]at s1;rw[e3]at s2;have hP:aad c sl b= .agg [N (num sl*num c*num b),N (num sl*num c*num b-(num c-1)*(num b-1))]:=rfl;rw[hP];clear hML hle hP;generalize num sl*num c*num b=A at*;generalize num sl*num c=B at*;generalize A-(num c-1)*(num b-1)=C at*;generalize (num c-1)*(num b-1)=D at*;refine eW call221 func221 ?_;exact Uq @fS @Da @m1 @m2 @s1 @s2 @m3 @s3
end Go.Proofs.Tryz
namespace Go.Proofs.Tryz
open Go Go.Dom
def ux (rs:List (Bool×Bytes)):Bool:=(rs.take 20).all (fun x=>decide (x.2.length<=24))&&decide (rs.length<=20)
theorem Hf (rs:List (Bool×Bytes)) (h:rs.length<4611686018427387904):aH 59 [.sl (rs.map ca)] (.b (ux rs)):=by
 have l1:(rs.map ca).length=rs.length:=au ..;unfold ux;refine eW call59 func59 ?_;refine pO ?_;refine ah (α:=Nat) (fun i=>21-i) (fun i=>⟨[(0, .v (.sl (rs.map ca))),(3,E' i)],[],_⟩) (fun i=>i<=rs.length/\i<=20/\((rs.take 20).drop i).all (fun x=>decide (x.2.length<=24))=(rs.take 20).all fun x=>decide (x.2.length<=24)) 0 (fun _=>aA _) ⟨aD _,aD _,rfl⟩ ?_ ?_
 ·exact lE
 ·rintro i ⟨hi,h20,hf⟩ R hR;rw[<-hf]
  by_cases hlt:i<rs.length/\i<20
  ·obtain⟨hl,hl2⟩:=hlt;have e1:=getD_map ca rs eT hl;have ht:i<(rs.take 20).length:=by rw[bQ];omega
   have hgt:(rs.take 20).getD i eT=rs.getD i eT:=by simp[bu,eS,hl2]
   have hgo:=hR (i+1);rw[<-hf]at hgo;rw[aE eT ht,List.all_cons,hgt]at hgo⊢;obtain⟨x,hx⟩: ∃x,x=rs.getD i eT:=⟨_,rfl⟩;rw[<-hx]at e1 hgo⊢;clear hx hf hR hgt ht;obtain⟨n,a⟩:=x;simp only[ca]at e1
   by_cases ha:a.length<=24
   ·have hgo:=hgo ⟨oO,oO,by simp[ha]⟩ oO
    exact gH (aN @l1 @e1) @hgo
   ·have hd:decide (a.length<=24)=false:=by simpa using ha
    rw[hd,br,br];clear hgo;exact fz (aN @l1 @e1)
  ·have hd:(rs.take 20).drop i=[]:=gG (by rw[bQ];omega)
   rw[hd,List.all_nil,bE];clear hR hf
   by_cases hl:i<rs.length
   ·have hi2:i=20:=oO;subst hi2;have hx:decide (rs.length<=20)=false:=by simp;omega
    rw[hx];repeat' first|simp only[go_sem,seval,l1]|refine oE ?_|apply xX<;>intro hc
    all_goals (congr 1;simp only[kM];omega)
   ·have hi2:i=rs.length:=oO;subst hi2;have hx:decide (rs.length<=20)=true:=by simp;omega
    rw[hx];repeat' first|simp only[go_sem,seval,l1]|refine oE ?_|apply xX<;>intro hc
    all_goals (congr 1;simp only[a8];omega)
