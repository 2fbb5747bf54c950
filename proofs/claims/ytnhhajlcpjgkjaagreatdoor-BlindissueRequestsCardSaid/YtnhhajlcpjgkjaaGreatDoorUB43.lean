/- Part of the proof. -/
import Derived.Test.YtnhhajlcpjgkjaaGreatDoorUB42
set_option linter.all false
set_option maxHeartbeats 16000000
set_option maxRecDepth 100000
namespace Go.Proofs.Tryz
open Go Go.Dom Go.Num
variable {e e1:Int} {k:Key} {p:cA}
theorem Rk (x:Bytes):aE 269 [.s x] (.b (!aa x)):=by
 have hv:=aI x;refine eW call269 func269 ?_;exact z1 @hv
theorem qu (l:List Bytes) (hl:l.length<1000000):aE 136 [.sl (l.map .s)] (.b (l.all aa)):=by
 have h:=iv l _ (fun x=> !aa x) oO Rk
 rw[jG]at h;generalize l.all aa=b at*;refine eW call136 func136 ?_;repeat' first|simp only[go_sem,seval]|refine cP h ?_|refine oE ?_|apply xX<;>intro hc
 all_goals (cases b<;>rfl)
theorem oG (x:Bytes):aE 140 [.s x] (.agg [.b false, .s x]):=by
 refine eW call140 func140 ?_;exact z0
def Bz (p:cA) (i:Nat):Bytes:=if i=0 then p.se else if i=1 then p.ha else p.at'
def Iw (p:cA) (l:List Bytes):Bool:=(List.range l.length).all fun i=>decide (num (l.getD i [])<num (Bz p i))
noncomputable def qC (k:Key) (l:List Bytes):Nat:=wc (num k.m) ((k.r.map num).zip (l.map fun x=>(false,x)))
noncomputable def VO (p:cA) (k:Key) (l:List Bytes):PV:=if l.length≠k.r.length then .tup [.s [],E 6]else if Iw p l then .tup [N (qC k l),E 0]else .tup [.s [],E 2]
theorem Ix {l:List Bytes} {i:Nat} (hi:i<l.length) (h: ¬num (l.getD i [])<num (Bz p i)):Iw p l=false:=by
 unfold Iw;rw[dn];intro g;exact h (by simpa using bH.1 g i (fN.2 hi))
theorem EK {l:List Bytes} (h: ∀i,i<l.length->num (l.getD i [])<num (Bz p i)):Iw p l=true:=by
 unfold Iw;rw[bH];intro i hi;exact aU (h i (fN.1 hi))
theorem VP {p:cA} (hk:pY k) (lm:k.m.length<=8) (lr:k.r.length<=20) {l:List Bytes} (hl:l.length=k.r.length) (hv:l.all aa=true):aE 39 [G k.m k.o, .sl (k.r.map .s), .sl (l.map lz)] (.tup [N (qC k l),E 0]):=by
 have hE:=qz hk;have lo:k.o.length<=8:=by rw[hk.o];simp
 have hr: ∀x∈k.r,aa x=true/\GP k.m k.o (num x):=fun x hx=>(cJ hE).1 (iU hk (hk.t x (by simp only[C3,cu];exact .inr (.inr (.inr hx)))))
 have h:=tS lm lo hE (xs:=k.r.map num) (es:=l.map fun x=>(false,x)) (fun y hy=>by obtain⟨x,hx,rfl⟩:=cE.1 hy;exact(hr x hx).2) (fun y hy=>by obtain⟨x,hx,rfl⟩:=cE.1 hy;simp[cg,bH.1 hv x hx]) (by simp[hl]) (by rw[aG];omega)
 rw[ig,ig]at h;rw[show k.r.map (GK∘num)=k.r.map PV.s from mn fun x hx=>dN (hr x hx).1]at h
 exact h
theorem CI (hp:p.short) (hpe:eN p=0) (hk:pY k) (lm:k.m.length<=8) (hr2:2<=k.r.length) (lr:k.r.length<=20) {l:List Bytes} (hl:l.length<1000000) (hv:l.all aa=true):aE 137 [p.pv,k.pv, .sl (l.map .s)] (VO p k l):=by
 obtain⟨hpv,hpt⟩:=xd hpe;have vse:=hpv p.se (by simp[cA.eL])
 have vha:=hpv p.ha (by simp[cA.eL])
 have vat:=hpv p.at' (by simp[cA.eL])
 have l1:(l.map PV.s).length=l.length:=aG ..;have l2:(k.r.map PV.s).length=k.r.length:=aG ..;unfold VO
 by_cases h6:l.length=k.r.length
 case neg=>
  rw[ah h6];have hb:((l.length:Int) !=(k.r.length:Int))=true:=by rw[pQ];omega
  clear hk;unfold cA.pv Key.pv at*;refine eW call137 func137 ?_;exact fP (aN @l1 (aN @l2 @hb))
 rw[af (by simpa using h6)]
 have hb:((l.length:Int) !=(k.r.length:Int))=false:=by rw[h6];simp
 have hM:=VP (p:=p) hk lm lr h6 hv;have hpos:0<l.length:=oO;have hRow:cU lz 2:=TP;have hbadA: ∀i,i<l.length->num (Bz p i)<=num (l.getD i [])->Iw p l=false:=fun i hi h=>Ix hi oO
 generalize qC k l=mv at*;clear hk;unfold cA.pv Key.pv at*;refine eW call137 func137 ?_;refine dH (aN @l1 (aN @l2 @hb)) ?_;refine aj ?_;have e1:=gU hpos;have vx:aa (l.getD 0 [])=true:=bH.1 hv _ (au [] hpos);have c1:=j6 vx (vse);have hcg:=Fm (num (l.getD 0 [])) (num p.se);have i1:=oG (l.getD 0 []);have hb0:=hbadA 0 hpos;have t0:l.take 1=[l.getD 0 []]:=aL [] hpos;have a0:Bz p 0=p.se:=rfl;rw[a0]at hb0;obtain⟨x0,hx0⟩: ∃x0,x0=l.getD 0 []:=⟨_,rfl⟩;rw[<-hx0]at e1 vx c1 hcg i1 hb0 t0;have hP0:decide (num x0<num p.se)=true-> ∀j,j<1->num (l.getD j [])<num (Bz p j):=fun h j hj=>by
  obtain rfl:j=0:=oO;rw[<-hx0];simpa[Bz]using h
 clear hx0;generalize aW (num x0) (num p.se)=cm at*
 cases hd:decide (num x0<num p.se)with
 |false=>
  rw[hd]at hcg;rw[hb0 (by simpa using hd)]
  exact jE (aN @l1 (aN @e1 @hcg)) @c1
 |true=>
 rw[hd]at hcg;have hP0:=hP0 hd;clear hd hb0;refine tu (aN @l1 (aN @e1 @hcg)) @c1 @i1 ?_;clear e1 vx c1 hcg i1;refine ak (α:=Nat) (fun j=>l.length-j) (fun j=>⟨[(4, .p 1001 0 0),(8, .p 1017 0 0),(9, .rs 1040 j 0 (j+1) 2),(25, .v (.sl (l.map .s))),(26,E' l.length),(27,E' (j+1))],[(1001,⟨0,[.v (.s k.name), .v (.s k.m), .v (.s k.o), .v (.s k.z), .v (.s k.s), .v (.sl (k.r.map .s)), .v (.s k.u), .v (.s k.h)],false,none⟩),(1017,⟨0,[.v (.s p.se), .v (.s p.ha), .v (.s p.at')],false,some 316⟩),(1040,⟨j,aT lz (l.take (j+1)),true,some 94⟩)],1044⟩) (fun j=>j+1<=l.length/\ ∀i,i<j+1->num (l.getD i [])<num (Bz p i)) 0 (fun _=>dr rfl) ⟨oO,hP0⟩ ?_ ?_
 ·simp only[ew,t0]
  (refine AS.Le.of (by first|decide|omega) ?_ ?_<;>simp[dw,du,aS,aC,AV.bd,AV.bd.bdL,u8,an,ar,aA])
  all_goals first|omega|exact⟨rfl,fun c hc=>cv hc⟩|exact fun c hc=>cv hc
 ·clear t0 hP0;rintro j ⟨hj,hall⟩ R hR;have hlm:(l.take (j+1)).length=j+1:=by rw[cd];omega
  have q1:=cf hRow (l.take (j+1));have q2:=ct hRow (l.take (j+1));rw[hlm]at q1 q2
  by_cases hlt:j+1<l.length
  ·have hgo:=fun h=>hR (j+1) ⟨oO,h⟩ oO
   have ts:=aL ([]:Bytes) hlt;have hrs:aT lz (l.take (j+1+1))=aT lz (l.take (j+1))++[.v (.b false), .v (.s (l.getD (j+1) []))]:=by rw[ts,Jf]
   simp only[hrs]at hgo;have hb1:=hbadA (j+1) hlt;have hgo2:num (l.getD (j+1) [])<num (Bz p (j+1))-> ∀i,i<j+1+1->num (l.getD i [])<num (Bz p i):=fun h i hi=>by
    by_cases e:i=j+1
    ·rw[e];exact h
    ·exact hall i oO
   clear hR ts hrs hlm hall hbadA
   by_cases hj0:j=0
   ·subst hj0;have a1:Bz p (0+1)=p.ha:=rfl;rw[a1]at hb1 hgo2;have e1:=gU hlt;have vx:aa (l.getD (0+1) [])=true:=bH.1 hv _ (au [] hlt);have c1:=j6 vx (vha);have hcg:=Fm (num (l.getD (0+1) [])) (num p.ha);have i1:=oG (l.getD (0+1) []);generalize l.getD (0+1) []=x0 at*;generalize aW (num x0) (num p.ha)=cm at*
    cases hd:decide (num x0<num p.ha)with
    |false=>
     rw[hd]at hcg;rw[hb1 (by simpa using hd)]
     clear hgo hgo2;exact jE (aN @l1 (aN @e1 @hcg)) @c1
    |true=>
     rw[hd]at hcg;have hgo:=hgo (hgo2 (by simpa using hd))
     clear hgo2 hb1;refine tu (aN @l1 (aN @e1 (aN @hcg (aN @q1 @q2)))) @c1 @i1 ?_;refine hgo _ ?_
     (refine AS.Le.of (by first|decide|omega) ?_ ?_<;>simp[dw,du,aS,aC,AV.bd,AV.bd.bdL,u8,an,ar,aA])
     all_goals first|omega|exact fun c hc=>by rcases hc with hc|rfl|rfl<;>first|exact cv hc|rfl
   ·have a1:Bz p (j+1)=p.at':=by unfold Bz;rw[af oO,af oO]
    rw[a1]at hb1 hgo2;have hmin: ∀ _:True,(if(2:Int)<((j+1:Nat):Int)then(2:Int)else((j+1:Nat):Int))=2:=fun _=>by split<;>omega
    have h2t:(2:Int).toNat=2:=rfl;have e1:=gU hlt;have vx:aa (l.getD (j+1) [])=true:=bH.1 hv _ (au [] hlt);have c1:=j6 vx (vat);have hcg:=Fm (num (l.getD (j+1) [])) (num p.at');have i1:=oG (l.getD (j+1) []);generalize l.getD (j+1) []=x0 at*;generalize aW (num x0) (num p.at')=cm at*
    cases hd:decide (num x0<num p.at')with
    |false=>
     rw[hd]at hcg;rw[hb1 (by simpa using hd)]
     clear hgo hgo2;exact jE (aN @l1 (aN @e1 (aN @hcg (aN (hmin oT) @h2t)))) @c1
    |true=>
     rw[hd]at hcg;have hgo:=hgo (hgo2 (by simpa using hd))
     clear hgo2 hb1;refine tu (aN @l1 (aN @e1 (aN @hcg (aN @q1 (aN @q2 (aN (hmin oT) @h2t)))))) @c1 @i1 ?_;refine hgo _ ?_
     (refine AS.Le.of (by first|decide|omega) ?_ ?_<;>simp[dw,du,aS,aC,AV.bd,AV.bd.bdL,u8,an,ar,aA])
     all_goals first|omega|exact fun c hc=>by rcases hc with hc|rfl|rfl<;>first|exact cv hc|rfl
  ·have hjl:j+1=l.length:=oO;have hg:Iw p l=true:=EK fun i hi=>hall i oO
   rw[hg,ah rfl];have hT:l.take (j+1)=l:=cZ oO;rw[hT]at q1 q2;rw[hT,hjl];rw[hjl]at q1 q2;have q3:=dY hRow l;have q4:=de hRow l;clear hR hall hbadA hlm;repeat' first|simp only[go_sem,seval,l1,q1,q2,q3,q4,ek]|(refine tx (l:=l) (g:=lz) (ver:=j) (gr:=true) (el:=some 94) hM hRow rfl (by simp[aC]) rfl ?_)|refine oE ?_|apply xX<;>intro hc
   all_goals rfl
def G5 (x lo sz:Bytes):Bool:=decide (num lo<=num x)&&decide (num x-num lo<num sz)
noncomputable def DB (k:Key) (l:List Bytes) (A X V:Bytes):Nat:=wc (num k.m) [(num A,(false,X)),(num k.s,(false,V)),(qC k l,(false,[1]))]
noncomputable def DL (p:cA) (k:Key) (l:List Bytes) (A X V:Bytes):Int:=
 if fb (eN p) k≠0 then fb (eN p) k else if !(l.all aa)|| !([A,X,V].all aa)then 3 else if l.length≠k.r.length then 6 else if !Iw p l then 2 else if !G5 X p.el p.es||(decide (num p.bl<=num V)&& !G5 V p.bl p.bl)then 2 else if dR X≠0 then dR X else if !fW (num X)then 12 else if !dK k.m [] A then 13 else if decide (DB k l A X V=num k.z)then 0 else 19
theorem Oh (hk:pY k) (l:List Bytes):GP k.m k.o (qC k l):=by
 have hE:=qz hk;obtain⟨-,-,m1,-,-⟩:=lO hE;have hr: ∀x∈k.r,GP k.m k.o (num x):=fun x hx=>((cJ hE).1 (iU hk (hk.t x (by simp only[C3,cu];exact .inr (.inr (.inr hx)))))).2
 unfold qC;generalize k.r=rs at hr;have h: ∀(rs:List Bytes) (es:List (Bool×Bytes)),(∀x∈rs,GP k.m k.o (num x))->GP k.m k.o (wc (num k.m) ((rs.map num).zip es)):=by
  intro rs
  induction rs with
  |nil=>intro es _;simp only[ca,List.zip_nil_left,xQ];rw[bE m1];exact⟨m1,Nat.gcd_one_left _, .inr (by rw[rH])⟩
  |cons x rs ih=>
   intro es hx
   cases es with
   |nil=>simp only[List.zip_nil_right,xQ];rw[bE m1];exact⟨m1,Nat.gcd_one_left _, .inr (by rw[rH])⟩
   |cons e es=>
    rw[bV,List.zip_cons_cons,qF];exact((hx x (.head _)).dJ m1 _ _).mul (ih es fun y hy=>hx y (.tail _ hy))
 exact h rs _ hr
theorem vS {a:Bytes} (va:aa a=true) {n:Nat}:aa (bQ (num a-n))=true:=kI (eR (Nat.sub_le _ _) (br (cF a) (cQ oC (dI va))))
theorem Tz {x:Bytes} (vx:aa x=true) (v:Nat):(bQ v==x)=decide (v=num x):=by
 rw[cX,bw,eD];constructor
 ·intro h;rw[<-h,ba]
 ·intro h;rw[h];exact fk vx
theorem Xb {a b:Bytes} (va:aa a=true) (vb:aa b=true):sZ a b=if num b<=num a then(bQ (num a-num b),0)else([],2):=by
 unfold sZ;rw[va,vb];rfl
theorem W8 (hk:pY k) (lm:k.m.length<=8) (l:List Bytes) {A X V:Bytes} (hA:dK k.m [] A=true) (vX:aa X=true) (vV:aa V=true):aE 39 [G k.m k.o, .sl [.s A, .s k.s,N (qC k l)], .sl [.agg [.b false, .s X], .agg [.b false, .s V], .agg [.b false, .s [1]]]] (.tup [N (DB k l A X V),E 0]):=by
 have hE:=qz hk;have lo:k.o.length<=8:=by rw[hk.o];simp
 obtain⟨vs,gs⟩:=(cJ hE).1 (iU hk hk.s);obtain⟨va,ga⟩:=(cJ hE).1 (iU hk hA);have gm:=Oh hk l;have h:=tS lm lo hE (xs:=[num A,num k.s,qC k l]) (es:=[(false,X),(false,V),(false,[1])]) (by intro y hy;simp only[cu,ir,or_false]at hy;rcases hy with rfl|rfl|rfl<;>assumption) (by intro y hy;simp only[cu,ir,or_false]at hy;rcases hy with rfl|rfl|rfl<;>first|(simp[cg,vX];done)|(simp[cg,vV];done)|rfl) rfl (by simp)
 simp only[bV,ca,GK,dN vs,dN va]at h;exact h
theorem EX (hp:p.short) (lm:k.m.length<=8) (ln:k.name.length<=60) (lr:k.r.length<=20) (l:List Bytes) (hl:l.length<1000000) (A X V:Bytes):aE 59 [p.pv,k.pv, .sl (l.map .s), .agg [.s A, .s X, .s V]] (E (DL p k l A X V)):=by
 have hck:=lF p k _ (mB p hp) lm ln lr;have f1:=qu l hl;have f2:=qu [A,X,V] (by simp)
 simp only[bV,ca]at f2;unfold DL
 by_cases hke:fb (eN p) k=0
 case neg=>
  rw[ah hke];have hb2:(fb (eN p) k !=0)=true:=by simpa using hke
  generalize fb (eN p) k=e at*;unfold cA.pv Key.pv at*;refine eW call59 func59 ?_;exact jE @hb2 @hck
 rw[af (by simpa using hke)]
 rw[hke]at hck
 cases hv:l.all aa with
 |false=>
  rw[hv]at f1;simp only[cC,nT,aB];unfold cA.pv Key.pv at*;refine eW call59 func59 ?_;exact z2 @hck @f1
 |true=>
 cases hg:[A,X,V].all aa with
 |false=>
  rw[hv]at f1;rw[hg]at f2;simp only[cC,Bool.or_true,aB];unfold cA.pv Key.pv at*;refine eW call59 func59 ?_;exact z4 @hck @f1 @f2 oT
 |true=>
 rw[hv]at f1;rw[hg]at f2;simp only[cr,Bool.or_self,bM,az];simp only[List.all_cons,List.all_nil,gi,aZ]at hg;obtain⟨vA,vX,vV⟩:=hg;obtain⟨hpe,hkf⟩:=nu hke;have hr2:=vP hke;obtain⟨hpv,hpt⟩:=xd hpe;have vel:=hpv p.el (by simp[cA.eL])
 have ves:=hpv p.es (by simp[cA.eL])
 have vbl:=hpv p.bl (by simp[cA.eL])
 have hm:=CI hp hpe hkf lm hr2 lr hl hv;unfold VO at hm
 by_cases h6:l.length=k.r.length
 case neg=>
  rw[ah h6]at hm;rw[ah h6];clear hkf;unfold cA.pv Key.pv at*;refine eW call59 func59 ?_;exact z4 @hck @f1 @f2 @hm
 rw[af (by simpa using h6)]at hm⊢
 cases ha:Iw p l with
 |false=>
  rw[ha]at hm;simp only[bM,az,cC,aB]at hm⊢;clear hkf;unfold cA.pv Key.pv at*;refine eW call59 func59 ?_;exact z4 @hck @f1 @f2 @hm
 |true=>
 rw[ha]at hm;simp only[aB,cr,bM,az]at hm⊢;have s1:=CD X p.el;rw[Xb vX vel]at s1;have s2:=CD V p.bl;rw[Xb vV vbl]at s2;have c1:num p.el<=num X->aE 36 [N (num X-num p.el), .s p.es] (E (aW (num X-num p.el) (num p.es))):=fun _=>by
  have h:=j6 (x:=bQ (num X-num p.el)) (y:=p.es) (vS vX) ves
  rwa[ba]at h
 have c2:num p.bl<=num V->aE 36 [N (num V-num p.bl), .s p.bl] (E (aW (num V-num p.bl) (num p.bl))):=fun _=>by
  have h:=j6 (x:=bQ (num V-num p.bl)) (y:=p.bl) (vS vV) vbl
  rwa[ba]at h
 have g1:=Fm (num X-num p.el) (num p.es);have g2:=Fm (num V-num p.bl) (num p.bl);have h3:=rj X;have h4:=Ah lm A;have h5:=fun hA=>W8 hkf lm l (A:=A) (X:=X) (V:=V) hA vX vV
 have i1:=oG X;have i2:=oG V;have i3:=oG [1];have hz:=(cJ (qz hkf)).1 (iU hkf (hkf.t k.z (by simp[C3])))
 have hzz:=Tz hz.1 (DB k l A X V);have ho:=hkf.o;rw[vX,cq]at h3;have e8:dR X=if X.length<=8 then 0 else 5:=by unfold dR;rw[vX];rfl
 rw[e8]at h3⊢;unfold G5;generalize aW (num X-num p.el) (num p.es)=cm1 at*;generalize aW (num V-num p.bl) (num p.bl)=cm2 at*;generalize num X-num p.el=d1 at*;generalize num V-num p.bl=d2 at*;generalize fW (num X)=bm at*;generalize DB k l A X V=sv at*;generalize qC k l=mv at*;generalize dK k.m [] A=bA at*;clear hkf hz hke h6 ha hv;obtain⟨name,m,o,z,s,r,u,hh⟩:=k;simp only at*;subst ho
 by_cases x1:num p.el<=num X
 case neg=>
  rw[af x1]at s1;rw[bu x1,cY,cC,nT,ah rfl];unfold cA.pv Key.pv at*;refine eW call59 func59 ?_;exact z7 @hck @f1 @f2 @hm @s1 oT oT
 rw[ah x1]at s1;have c1:=c1 x1;rw[aU x1,cq]
 cases x2:decide (d1<num p.es)with
 |false=>
  rw[x2]at g1;rw[cC,nT,ah rfl];unfold cA.pv Key.pv at*;refine eW call59 func59 ?_;exact P7 @g1 @hck @f1 @f2 @hm @s1 @c1 oT
 |true=>
 rw[x2]at g1;rw[cr,jX]
 by_cases x3:num p.bl<=num V/\ ¬d2<num p.bl
 case pos=>
  rw[ah x3.1]at s2;have c2:=c2 x3.1;rw[bu x3.2]at g2;rw[aU x3.1,bu x3.2,ah (show(true&& !(true&&false))=true from rfl)]
  unfold cA.pv Key.pv at*;refine eW call59 func59 ?_;exact Ex (aN @g1 @g2) @hck @f1 @f2 @hm @s1 @c1 @s2 @c2 oT oT oT oT
 have hx3:(decide (num p.bl<=num V)&& !(decide (num p.bl<=num V)&&decide (d2<num p.bl)))=false:=by
  rw[dn];intro g;simp at g;exact x3 ⟨g.1,oO⟩
 rw[hx3,af (by simp)]
 by_cases x5:X.length<=8
 case neg=>
  rw[af x5]at h3⊢;rw[bu x5,cY]at h3;rw[ah oC]
  by_cases x4:num p.bl<=num V
  ·rw[ah x4]at s2;have c2:=c2 x4;rw[aU (show d2<num p.bl from Classical.byContradiction fun g=>x3 ⟨x4,g⟩)]at g2
   unfold cA.pv Key.pv at*;refine eW call59 func59 ?_;exact Ex (aN @g1 @g2) @hck @f1 @f2 @hm @s1 @c1 @s2 @c2 @h3 oT oT oT
  ·rw[af x4]at s2;unfold cA.pv Key.pv at*;refine eW call59 func59 ?_;exact Ex @g1 @hck @f1 @f2 @hm @s1 @c1 @s2 @h3 oT oT oT oT
 rw[ah x5]at h3⊢;rw[aU x5,cq]at h3;rw[af oC]
 by_cases x4:num p.bl<=num V
 ·rw[ah x4]at s2;have c2:=c2 x4;rw[aU (show d2<num p.bl from Classical.byContradiction fun g=>x3 ⟨x4,g⟩)]at g2
  cases bm<;>cases bA
  case true.true=>
   have h5:=h5 rfl;simp only[cr,bM,az];unfold cA.pv Key.pv at*;generalize decide (sv=num z)=bz at*;refine eW call59 func59 ?_;repeat' first|simp only[go_sem,seval,g1,g2,cr,cC,bne,hzz]|refine cP hck ?_|refine cP f1 ?_|refine cP f2 ?_|refine cP hm ?_|refine cP s1 ?_|refine cP c1 ?_|refine cP s2 ?_|refine cP c2 ?_|refine cP h3 ?_|refine cP h4 ?_|refine cP i1 ?_|refine cP i2 ?_|refine cP i3 ?_|refine cP h5 ?_|refine oE ?_|apply xX<;>intro hc
   all_goals (cases bz<;>simp_all)
  all_goals
   simp only[cr,cC,bM,az,aB];unfold cA.pv Key.pv at*;refine eW call59 func59 ?_;exact Ex (aN @g1 @g2) @hck @f1 @f2 @hm @s1 @c1 @s2 @c2 @h3 @h4 oT oT
 ·rw[af x4]at s2
  cases bm<;>cases bA
  case true.true=>
   have h5:=h5 rfl;simp only[cr,bM,az];unfold cA.pv Key.pv at*;generalize decide (sv=num z)=bz at*;refine eW call59 func59 ?_;repeat' first|simp only[go_sem,seval,g1,cr,cC,bne,hzz]|refine cP hck ?_|refine cP f1 ?_|refine cP f2 ?_|refine cP hm ?_|refine cP s1 ?_|refine cP c1 ?_|refine cP s2 ?_|refine cP h3 ?_|refine cP h4 ?_|refine cP i1 ?_|refine cP i2 ?_|refine cP i3 ?_|refine cP h5 ?_|refine oE ?_|apply xX<;>intro hc
   all_goals (cases bz<;>simp_all)
  all_goals
   simp only[cr,cC,bM,az,aB];unfold cA.pv Key.pv at*;refine eW call59 func59 ?_;exact Ex @g1 @hck @f1 @f2 @hm @s1 @c1 @s2 @h3 @h4 oT oT oT
structure ow where
 (c n ch:Bytes)
 rs:List (Bool×Bytes)
 gs:List Bytes
 ls:List (List (Bool×Bytes))
def ow.pv (r:ow):PV:= .agg [.s r.c, .s r.n, .s r.ch, .sl (r.rs.map cI), .sl (r.gs.map .s), .sl (r.ls.map rT)]
def ow.Xv (r:ow):Prop:=r.rs.length<1000000/\r.gs.length<=1000/\r.ls.length<=1000/\ ∀l∈r.ls,l.length<4611686018427387904
noncomputable def sh (p:cA) (k:Key) (r:ow):Int:=if !aa r.c then 3 else if decide (64<r.n.length)then 5 else if !dK k.m [] r.c then 13 else AL p.c p.sl (jH k r.n) (e9 p k r.c) r.ch r.rs r.gs r.ls
noncomputable def wQ (p:cA) (k:Key) (r:ow):Int:=if fb (eN p) k≠0 then fb (eN p) k else sh p k r
theorem Ve (r:ow):aE 149 [.pt r.pv 0] (.b (!aa r.c)):=by
 have h:=aI r.c;generalize aa r.c=b at*;unfold ow.pv;refine eW call149 func149 ?_;exact z1 @h
theorem Vf (r:ow):aE 150 [.pt r.pv 0] (.b (decide (64<r.n.length))):=by
 unfold ow.pv;refine eW call150 func150 ?_;repeat' first|simp only[go_sem,seval]|refine oE ?_|apply xX<;>intro hc
 all_goals (refine congrArg PV.b ?_;rw[fh];omega)
theorem Vg (lm:k.m.length<=8) (ho:k.o=[]) (r:ow):aE 151 [.pt k.pv 0, .pt r.pv 0] (.b (!dK k.m [] r.c)):=by
 have h:=Ah lm r.c;generalize dK k.m [] r.c=b at*;obtain⟨name,m,o,z,s,l,u,hh⟩:=k;simp only at ho h;subst ho;unfold ow.pv Key.pv;refine eW call151 func151 ?_;exact z1 @h
theorem Vh (hp:p.short) (hpe:eN p=0) (hk:pY k) (lm:k.m.length<=8) (ln:k.name.length<=60) (lr:k.r.length<=20) (h0:0<k.r.length) {r:ow} (hr:r.Xv) (hn:r.n.length<=64) (hc:dK k.m [] r.c=true):aE 152 [.pt p.pv 0, .pt k.pv 0, .pt r.pv 0] (E (AL p.c p.sl (jH k r.n) (e9 p k r.c) r.ch r.rs r.gs r.ls)):=by
 obtain⟨n1,n2,n3,n4⟩:=hr;have w1:=IB k r.n oO oO;have w2:=IE p k r.c h0 oO;have w3:=Nj (qt hp hpe hk lm h0 hc) (tM hp hk lm h0 hc) (by simp[e9]) (ctx:=jH k r.n) (by simp[jH];omega) (ch:=r.ch) (rs:=r.rs) (gs:=r.gs) (ls:=r.ls) n1 n2 n3 n4
 generalize AL p.c p.sl (jH k r.n) (e9 p k r.c) r.ch r.rs r.gs r.ls=e at*;generalize jH k r.n=cx at*;generalize e9 p k r.c=S at*;clear hk hc;obtain⟨sg,sv,se⟩:=S;unfold ow.pv Key.pv cA.pv cG.pv wE at*;refine eW call152 func152 ?_;exact z4 @w1 @w2 @w3 oT
abbrev bkL (p:cA) (k:Key) (r:ow):List (FuncId×List PV):=
 [(87,[.pt (.agg [.fc 149 [] [.pt r.pv 0]]) 0, .pt (.agg [E 3]) 0]),(87,[.pt (.agg [.fc 150 [] [.pt r.pv 0]]) 0, .pt (.agg [E 5]) 0]),(87,[.pt (.agg [.fc 151 [] [.pt k.pv 0, .pt r.pv 0]]) 0, .pt (.agg [E 13]) 0]),(152,[.pt p.pv 0, .pt k.pv 0, .pt r.pv 0])]
theorem BD (hp:p.short) (hpe:eN p=0) (hk:pY k) (lm:k.m.length<=8) (ln:k.name.length<=60) (lr:k.r.length<=20) (h0:0<k.r.length) {r:ow} (hr:r.Xv):aE 65 [p.pv,k.pv,r.pv] (E (sh p k r)):=by
 have hf:aE 27 [.sl ((bkL p k r).map Kr)] (E (sh p k r)):=by
  refine qZ _ (by simp) ?_
  unfold sh;refine nq (Ve r) oC (fun _=> ?_) rfl
  refine nq (Vf r) oC (fun hn=> ?_) rfl
  refine nq (Vg lm hk.o r) oC (fun hc=> ?_) rfl
  exact⟨_,Vh hp hpe hk lm ln lr h0 hr (by simpa using hn) (by simpa using hc),fun _=>rfl,fun h=>h⟩
 have h1:=fun n1 nm=>Ih n1 nm 149 r.pv.cells none 3
 have h2:=fun n1 nm=>Ih n1 nm 150 r.pv.cells none 5
 have h3:=fun n1 k1 nm h=>AQ n1 k1 nm h 151 k.pv.cells r.pv.cells none none 13
 generalize sh p k r=e at*;simp only[bkL,bV,ca,Kr]at hf;unfold ow.pv Key.pv cA.pv PV.cells at*;simp only[bV,ca]at h1 h2 h3;refine eW call65 func65 ?_;repeat' first|simp only[go_sem,seval]|(refine bK (h1 _ _) (by simp[aC]) ?_)|(refine bK (h2 _ _) (by simp[aC]) ?_)|(refine bK (h3 _ _ _ oC) (by simp[aC]) ?_)|(refine fw hf (by simp[bc,view,aC,AV.one,PV.one,qc,chunk]) rfl ?_)|refine oE ?_|apply xX<;>intro hc
 all_goals rfl
theorem Va (h:aE 29 [p.pv,k.pv] (E e)):aE 63 [.pt p.pv 0, .pt k.pv 0] (E e):=by
 unfold cA.pv Key.pv at*;refine eW call63 func63 ?_;exact z1 @h
theorem Vb {r:ow} (h:aE 65 [p.pv,k.pv,r.pv] (E e)):aE 64 [.pt p.pv 0, .pt k.pv 0, .pt r.pv 0] (E e):=by
 unfold cA.pv Key.pv ow.pv at*;refine eW call64 func64 ?_;exact z1 @h
theorem G1 (hp:p.short) (lm:k.m.length<=8) (ln:k.name.length<=60) (lr:k.r.length<=20) {r:ow} (hr:r.Xv):aE 18 [p.pv,k.pv,r.pv] (E (wQ p k r)):=by
 have hf:aE 27 [.sl (([(63,[.pt p.pv 0, .pt k.pv 0]),(64,[.pt p.pv 0, .pt k.pv 0, .pt r.pv 0])]:List (FuncId×List PV)).map Kr)] (E (wQ p k r)):=by
  refine qZ _ (by simp) ?_
  unfold wQ;refine⟨_,Va (lF p k _ (mB p hp) lm ln lr),fun h=>ah h,fun h=> ?_⟩
  rw[af (by simpa using h)]
  obtain⟨hpe,hk⟩:=nu h;have:=vP h;exact⟨_,Vb (BD hp hpe hk lm ln lr oO hr),fun _=>rfl,fun h=>h⟩
 generalize wQ p k r=e at*;simp only[bV,ca,Kr]at hf;unfold ow.pv Key.pv cA.pv at*;refine eW call18 func18 ?_;repeat' first|simp only[go_sem,seval]|(refine fw hf (by simp[bc,view,aC,AV.one,PV.one,qc,chunk]) rfl ?_)|refine oE ?_|apply xX<;>intro hc
 all_goals rfl
def pZ:cA:=⟨[2],[100],[107],[53],[4],[16],[77],[],[4],[9],[9],[6],[9],[3],[10],[2],[15]⟩
def o6:Key:=⟨[105,115,115,117,101,114],[77],[],[15],[4],[[64],[23],[1]],[4],[16]⟩
theorem Bw:pZ.short:=by unfold cA.short;decide
theorem Iu:eN pZ=0:=by decide+kernel
theorem Is:fb (eN pZ) o6=0:=by rw[Iu];decide+kernel
theorem Tq:pY o6:=(nu Is).2
theorem aaF:aE 29 [pZ.pv,o6.pv] (E 0):=by
 have h:=lF pZ o6 _ (mB pZ Bw) oC oC oC
 rwa[Is]at h
theorem Vy:aE 71 [pZ.pv,o6.pv,G [7] [11]] (E 0):=by
 have h:=Qw pZ o6 [7] [11] 0 aaF oC oC
 rwa[show No 0 o6 [7] [11]=0 by decide+kernel]at h
theorem Kq (vs:List Bytes) (sd:Bytes) (a:Int) (hl:vs.length<1000000):aE 160 [T vs sd a] (.b (eT vs a)):=by
 have h:=qu vs hl;unfold eT;rw[jG,rP];generalize vs.all aa=b at*;cases b
 ·refine eW call160 func160 ?_;repeat' first|simp only[go_sem,seval]|refine cP h ?_|refine oE ?_|apply xX<;>intro hc
  all_goals first|(simp_all;done)|(simp_all;omega)
 ·refine eW call160 func160 ?_;repeat' first|simp only[go_sem,seval]|refine cP h ?_|refine oE ?_|apply xX<;>intro hc
  all_goals first|(simp_all;done)|(simp_all;omega)
abbrev J7 (i:Int):PV:=T [[4],[1]] [] i
theorem Ym:aE 37 [J7 0, .s [10]] (.tup [.s [4],J7 1,E 0]):=ou (vs:=[[4],[1]]) (sd:=[]) (i:=0) (n:=[10]) oC oC oC oC oC oC
theorem Yn:aE 37 [J7 1, .s [2]] (.tup [.s [1],J7 2,E 0]):=ou (vs:=[[4],[1]]) (sd:=[]) (i:=1) (n:=[2]) oC oC oC oC oC oC
theorem TS:aE 161 [G [7] [11]] (.tup [.s [15],E 0]):=Ma (p:=[7]) (q:=[11]) oC oC oC oC oC oC (by decide+kernel)
theorem Vw:aE 78 [pZ.pv,G [7] [11],J7 0] (.tup [.s [7],J7 1,E 0]):=by
 have h1:=mB pZ Bw;rw[Iu]at h1;have h2:=Kq [[4],[1]] [] 0 oC;rw[show eT [[4],[1]] 0=true by decide]at h2
 have h3:=TS;have h4:=Ym;have h5:=GO [3] [4];rw[show iR [3] [4]=([7],0) by decide+kernel]at h5
 have h6:=rj [7];rw[show(aa [7]&&decide (([7]:Bytes).length<=8)&&fW (num [7]))=true by decide+kernel,show dR [7]=0 by decide+kernel]at h6
 have h7:aE 162 [.s [15], .s [7]] (.tup [.s [2], .s [1],E 0]):=jF (a:=15) (b:=7) oC oC oC;unfold pZ cA.pv J7 at*;simp only[bV,ca]at*;have b1:(([1]:Bytes)==[])=false:=rfl;refine eW call78 func78 ?_;repeat' first|simp only[go_sem,seval,b1]|refine cP h1 ?_|refine cP h2 ?_|refine cP h3 ?_|refine cP h4 ?_|refine cP h5 ?_|refine cP h6 ?_|refine cP h7 ?_|(refine aj ?_)|refine oE ?_|apply xX<;>intro hc
 all_goals rfl
theorem YT:aE 167 [.s [4], .agg [.b false, .s [13]], .s [77]] (.tup [.s [53],E 0]):=by
 have v1:=aI [13];rw[show aa [13]=true by decide]at v1
 have hc:=fun nm=>G8 nm [4] [77]
 rw[show sG [[4]] [77]=0 by decide+kernel]at hc
 have he:aE 290 [.s [4], .s [13], .s [77]] (.tup [.s [53],E 0]):=by
  have h:=Ul (a:=4) (e:=[13]) (m:=77) oC oC oC oC
  rwa[show 4^num [13]%77=53 by decide+kernel]at h
 refine eW call167 func167 ?_;repeat' first|simp only[go_sem,seval]|refine cP v1 ?_|(refine bK (hc _) (by simp) ?_)|refine cP he ?_|refine oE ?_|apply xX<;>intro hc
 all_goals rfl
theorem WV:aE 79 [G [77] [],G [7] [11], .s [4], .s [7]] (.tup [.s [53],E 0]):=by
 have v1:=aI [4];have v2:=aI [7];rw[show aa [4]=true by decide]at v1
 rw[show aa [7]=true by decide]at v2
 have h1:=sI (m:=[77]) oC [] [7] [11] [4];have e0:EA [77] [] [7] [11] [4]=0:=by decide+kernel
 rw[e0]at h1;have h2:=wF (el0 e0).2.1 (x:=[4]) oC oC;rw[show S8 [7] [11] [4]=true by decide+kernel]at h2
 have h3:=TS;have h4:aE 165 [.s [7], .s [15]] (.tup [.s [1],E 0]):=XL (a:=7) (b:=15) oC oC;have h5:aE 94 [.s [7], .s [15]] (.tup [.s [13],E 0]):=by
  have h:=sr (a:=7) (m:=15) oC oC oC oC
  rwa[gW (i:=13) oC oC]at h
 have h6:aE 38 [.s [13]] (.agg [.b false, .s [13]]):=nc oC;have h7:=YT;have h8:aE 166 [] (.s [1]):=xV;refine eW call79 func79 ?_;repeat' first|simp only[go_sem,seval]|refine cP v1 ?_|refine cP v2 ?_|refine cP h1 ?_|refine cP h2 ?_|refine cP h3 ?_|refine cP h4 ?_|refine cP h8 ?_|refine cP h5 ?_|refine cP h6 ?_|refine cP h7 ?_|refine oE ?_|apply xX<;>intro hc
 all_goals first|rfl|exact aP hc oC
theorem TB (l:List Bytes) (hl:l.length<1000000):aE 56 [.sl (l.map .s)] (.b (l.all aa)):=by
 have h1: ∀x,aE 132 [.s x] (.b (!aa x)):=fun x=>by
  have hv:=aI x;refine eW call132 func132 ?_;exact z1 @hv
 have h:=iv l _ (fun x=> !aa x) oO h1
 rw[jG]at h;generalize l.all aa=b at*;refine eW call56 func56 ?_;repeat' first|simp only[go_sem,seval]|refine cP h ?_|refine oE ?_|apply xX<;>intro hc
 all_goals (cases b<;>rfl)
theorem BE (p:cA) (i:Int):aE 76 [p.pv,E i] (.s (if i=1 then p.ha else p.at')):=by
 unfold cA.pv
 by_cases h:i=1
 ·subst h;refine eW call76 func76 ?_;exact z0
 ·rw[af h];have hb:(i==1)=false:=by simpa using h
  refine eW call76 func76 ?_;exact fP @hb
theorem XO:aE 75 [E (-1)] (.agg [.b true, .s [1]]):=by
 have hm:=xN true [1];refine eW call75 func75 ?_;exact z2 @yN @hm
abbrev EB:PV:= .sl [.s [3], .s [5]]
theorem VB:aE 70 [.pt pZ.pv 0, .pt o6.pv 0, .pt (G [7] [11]) 0] (E 0):=by
 have h:=Vy;unfold cA.pv Key.pv at*;refine eW call70 func70 ?_;exact z1 @h
theorem VC:aE 72 [.pt (.agg [EB]) 0, .pt (J7 0) 0] (.b false):=by
 have h1:=TB [[3],[5]] oC;have h2:=ES [[4],[1]] [] 0 oC;rw[show([[3],[5]]:List Bytes).all aa=true by decide]at h1
 rw[show eT [[4],[1]] 0=true by decide]at h2
 simp only[bV,ca]at h1 h2;refine eW call72 func72 ?_;exact z2 @h1 @h2
theorem VD {r:ow} (h:aE 65 [pZ.pv,o6.pv,r.pv] (E 0)):aE 73 [.pt pZ.pv 0, .pt o6.pv 0, .pt r.pv 0] (E 0):=by
 unfold cA.pv Key.pv ow.pv at*;refine eW call73 func73 ?_;exact z1 @h
theorem VE:aE 74 [.pt (.agg [EB]) 0, .pt o6.pv 0] (.b false):=by
 unfold o6 Key.pv;refine eW call74 func74 ?_;exact z0
theorem Wp:aE 39 [G [77] [], .sl [.s [15], .s [25], .s [23], .s [1], .s [4]], .sl [.agg [.b false, .s [1]], .agg [.b true, .s [1]], .agg [.b true, .s [3]], .agg [.b true, .s [5]], .agg [.b true, .s [1]]]] (.tup [.s [4],E 0]):=by
 have hE:gE [77] []=0:=by decide+kernel
 have hG: ∀x∈[15,25,23,1,4],GP [77] [] x:=fun x hx=>by
  simp only[cu,ir,or_false]at hx;rcases hx with rfl|rfl|rfl|rfl|rfl<;>exact⟨by decide,by decide, .inl rfl⟩
 have h:=tS (m:=[77]) oC (o:=[]) oC hE (xs:=[15,25,23,1,4]) (es:=[(false,[1]),(true,[1]),(true,[3]),(true,[5]),(true,[1])]) hG oC rfl oC;have hv:wc (num [77]) ([15,25,23,1,4].zip [(false,([1]:Bytes)),(true,[1]),(true,[3]),(true,[5]),(true,[1])])=4:=by
  unfold wc;simp only[List.zip_cons_cons,List.zip_nil_left,bV,ca,MI,aB,bM,az];rw[gW (a:=25) (m:=num [77]) (i:=37) oC oC,gW (a:=23) (m:=num [77]) (i:=67) oC oC,gW (a:=1) (m:=num [77]) (i:=1) oC oC,gW (a:=4) (m:=num [77]) (i:=58) oC oC];decide+kernel
 rw[hv]at h;exact h
theorem RP {r:ow} (hc:r.c=[25]) (hk:aE 65 [pZ.pv,o6.pv,r.pv] (E 0)):aE 25 [pZ.pv,o6.pv,G [7] [11],r.pv,EB,J7 0] (.tup [.agg [EB, .s [53], .s [7], .s [1], .s [],E 0],J7 2,E 0]):=by
 have hf:aE 27 [.sl (([(70,[.pt pZ.pv 0, .pt o6.pv 0, .pt (G [7] [11]) 0]),(87,[.pt (.agg [.fc 72 [] [.pt (.agg [EB]) 0, .pt (J7 0) 0]]) 0, .pt (.agg [E 3]) 0]),(73,[.pt pZ.pv 0, .pt o6.pv 0, .pt r.pv 0]),(87,[.pt (.agg [.fc 74 [] [.pt (.agg [EB]) 0, .pt o6.pv 0]]) 0, .pt (.agg [E 6]) 0])]:List (FuncId×List PV)).map Kr)] (E 0):=
  qZ _ (by simp) (CU VB (nq VC oC (fun _=>CU (VD hk) (nq VE oC (fun _=>rfl) rfl)) rfl))
 have h3:=fun n1 k1 nm h=>AQ n1 k1 nm h 72 [EB] [.sl [.s [4], .s [1]], .s [], .i .i64 0] none none 3
 have h5:=fun n1 k1 nm h=>AQ n1 k1 nm h 74 [EB] o6.pv.cells none none 6
 have o1:=Uw;have om:=XO;have l1:=BE pZ 1;have l2:=BE pZ 2;have c1:=j6 (x:=[3]) (y:=[9]) oC oC;have c2:=j6 (x:=[5]) (y:=[6]) oC oC;rw[show aW (num [3]) (num [9])= -1 from rfl]at c1
 rw[show aW (num [5]) (num [6])= -1 from rfl]at c2
 have f1:=nc (a:=[3]) oC;have f2:=nc (a:=[5]) oC;have f3:=nc (a:=[1]) oC;have n1:aE 77 [.agg [.b false, .s [3]]] (.agg [.b true, .s [3]]):=o7 (c:=[3]) oC;have n2:aE 77 [.agg [.b false, .s [5]]] (.agg [.b true, .s [5]]):=o7 (c:=[5]) oC;have n3:aE 77 [.agg [.b false, .s [1]]] (.agg [.b true, .s [1]]):=o7 (c:=[1]) oC;have hx:=Vw;have hb:=Yn;have hp:=Wp;have hr:=WV;have hcl:aE 80 [.sl [.s [3], .s [5]]] (.sl [.s [3], .s [5]]):=Bt [[3],[5]] oC;obtain⟨c,n,ch,rs,gs,ls⟩:=r;simp only at hc;subst hc;unfold J7 pZ o6 cA.pv Key.pv ow.pv PV.cells at*;simp only[bV,ca,Kr]at*;refine eW call25 func25 ?_;repeat' first|simp only[go_sem,seval,gO,gM]|(refine bK (h3 _ _ _ oC) (by simp[aC]) ?_)|(refine bK (h5 _ _ _ oC) (by simp[aC]) ?_)|(refine fw hf (by simp[bc,view,aC,AV.one,PV.one,qc,chunk]) rfl ?_)|refine cP o1 ?_|refine cP om ?_|refine cP l1 ?_|refine cP l2 ?_|refine cP c1 ?_|refine cP c2 ?_|refine cP f1 ?_|refine cP f2 ?_|refine cP f3 ?_|refine cP n1 ?_|refine cP n2 ?_|refine cP n3 ?_|refine cP hx ?_|refine cP hb ?_|refine cV hp ?_|refine cP hr ?_|refine cP hcl ?_|(refine aj ?_)|refine oE ?_|apply xX<;>intro hc
 all_goals rfl
noncomputable def Bh (p:cA) (k:Key) (s b A X V:Bytes) (l:List Bytes):Int:=if fb (eN p) k≠0 then fb (eN p) k else if !([s,b,A,X,V].all aa&&l.all aa)then 3 else if(iR b V).2≠0 then(iR b V).2 else DL p k (s::l) A X (iR b V).1
noncomputable def KG (p:cA) (k:Key) (s b A X V:Bytes) (l:List Bytes):PV:=if Bh p k s b A X V l=0 then .tup [.sl ((s::l).map .s), .agg [.s A, .s X, .s (iR b V).1],E 0]else .tup [.sl [], .agg [.s [], .s [], .s []],E (Bh p k s b A X V l)]
def AU (l:List Bytes) (A X V w:Bytes) (ep:Int):PV:= .agg [.sl (l.map .s), .s A, .s X, .s V, .s w,E ep]
theorem Nq (h:aE 29 [p.pv,k.pv] (E e)):aE 54 [.pt p.pv 0, .pt k.pv 0] (E e):=by
 unfold cA.pv Key.pv at*;refine eW call54 func54 ?_;exact z1 @h
theorem TW (a:Bytes) (l:List Bytes):(AV.v (.s a)::List.map AV.v (List.flatMap PV.cells (List.map PV.s l)))=aT PV.s (a::l):=by
 unfold aT;rw[pH];rfl
theorem TX (a b c d e:Bytes) (l:List Bytes):(AV.v (.s a)::AV.v (.s b)::AV.v (.s c)::AV.v (.s d)::AV.v (.s e)::List.map AV.v (List.flatMap PV.cells (List.map PV.s l)))=aT PV.s (a::b::c::d::e::l):=by
 unfold aT;rw[pH];rfl
theorem Nr (s b A X V:Bytes) (l:List Bytes) (w:Bytes) (ep:Int) (hl:l.length<1000):aE 55 [.pt (.agg [.s s, .s b]) 0, .pt (.agg [.s A, .s X, .s V]) 0, .pt (AU l A X V w ep) 0] (.b (!([s,b,A,X,V].all aa&&l.all aa))):=by
 have h:=TB (s::b::A::X::V::l) (by simp;omega)
 have he:(s::b::A::X::V::l).all aa=([s,b,A,X,V].all aa&&l.all aa):=by
  simp only[List.all_cons,List.all_nil,gi,Bool.and_assoc]
 rw[he]at h;generalize ([s,b,A,X,V].all aa&&l.all aa)=bb at*;have l1:(l.map PV.s).length=l.length:=aG ..;unfold AU
 by_cases h0:l=[]
 ·subst h0;simp only[bV,ca]at h⊢;refine eW call55 func55 ?_;exact z1 @h
 have hr0:(l.length=0)=False:=by rw[eq_iff_iff,iff_false];intro g;exact h0 (eH.1 g)
 have e5:=TX s b A X V l;refine eW call55 func55 ?_;refine eJ (aN @l1 @hr0) ?_;refine⟨⟨fun x hx=>gA hx,fun y hy=>kA hy,oO,oO⟩,?_⟩
 repeat' first|simp only[go_sem,seval,e5]|(refine Uf (l:=s::b::A::X::V::l) h cU.s rfl rfl (by simp only[List.length_cons];omega) ?_)|refine oE ?_|apply xX<;>intro hc
 all_goals rfl
theorem Cl (s:Bytes) (l:List Bytes):List.take (1+l.length) (aT PV.s (s::l))=aT PV.s (s::l):=by
 have h:=ct cU.s (s::l)
 rwa[dG,List.length_cons,gN]at h
theorem Gf (s:Bytes) (l:List Bytes) (hf:Nat->Option aJ) (k:Nat):Option.map (fun cs=>PV.sl (chunk 1 (1+l.length) cs)) (bc (view hf (k+1)) (aT PV.s (s::l)))=some (.sl (.s s::l.map .s)):=by
 have h:=de cU.s (s::l);rw[ek,Option.map_some,gN];exact congrArg (fun x=>some (PV.sl x)) h
theorem Ge (s:Bytes) (l:List Bytes):(aT PV.s (s::l)).length=l.length+1:=by rw[cf cU.s,dG];rfl
theorem JF (l:List Bytes):(1+l.length<=l.length+1)=True:=eq_true oO
theorem Ns (n k nm:Nat) (hne:n≠k) (s b A X V:Bytes):j4 prog 57 nm [(n,oV [.s s, .s b] none),(k,oV [.s A, .s X, .s V] (some 62))] [.p n 0 0, .p k 0 0] (.v (E (iR b V).2)) [(k,some (oV [.s A, .s X, .s (iR b V).1] (some 62)))]:=by
 have h:=GO b V;generalize iR b V=r at*;obtain⟨v,e⟩:=r;simp only at h⊢;refine j4.w mixed call57 func57 rfl (ka.1 _ _ _ (by cbv)) (ka.2 _ _ (by cbv)) (obs:=[oV [.s s, .s b] none,oV [.s A, .s X, .s V] (some 62)]) (args:=[.p 0 0 0, .p 1 0 0]) (fs:=[none,some (some (oV [.s A, .s X, .s v] (some 62)))]) (j:=none) (nw:=none) (v:= .v (E e)) (ns:=[n,k]) (obsA:=[oV [.s s, .s b] none,oV [.s A, .s X, .s V] (some 62)]) rfl ?_ (by simp) (by simp[hne]) rfl (by simp[bc,mR]) (by simp[bc,AV.aX,dz,hne,kQ hne]) (by simp[AV.aX]) (by simp[fL,outs,mR,gR])
 repeat' first|simp only[go_sem,seval,true_or,or_true,false_or,or_false,aq,iQ,ff,ix,fF,gp,e7,pU,qj,gT,iC,dW,aR,AV.aX,AV.aX.renL,aM]|refine cP h ?_|refine oE ?_|apply xX<;>intro hc
 all_goals exact⟨rfl,rfl⟩
abbrev Fc (a b c d f:Nat):aJ:=⟨0,[.fn (.func 54) [] [.p a 0 0, .p b 0 0], .fn (.func 87) [] [.p f 0 0, .v (.pt (.agg [E 3]) 0)], .fn (.func 57) [] [.p c 0 0, .p d 0 0]],false,none⟩
abbrev Fb (c d g:Nat):aJ:=⟨0,[.fn (.func 55) [] [.p c 0 0, .p d 0 0, .p g 0 0]],false,none⟩
theorem KE (h1:aE 29 [p.pv,k.pv] (E e1)) (s b A X V:Bytes) (l:List Bytes) (w:Bytes) (ep:Int) (hl:l.length<1000) (h0:e1=0) (hg:([s,b,A,X,V].all aa&&l.all aa)=true) (nm:Nat):j4 prog 27 nm [(1015,Fc 1000 1001 1002 1009 1013),(1000,oV [.s p.c, .s p.sl, .s p.mm, .s p.mo, .s p.mg, .s p.mh, .s p.wm, .s p.wo, .s p.wg, .s p.wh, .s p.se, .s p.at', .s p.ha, .s p.el, .s p.es, .s p.bl, .s p.ma] none),(1001,oV [.s k.name, .s k.m, .s k.o, .s k.z, .s k.s, .sl (k.r.map .s), .s k.u, .s k.h] none),(1002,oV [.s s, .s b] none),(1003,oV [.sl (l.map .s), .s A, .s X, .s V, .s w,E ep] none),(1009,oV [.s A, .s X, .s V] (some 62)),(1013,Fb 1002 1009 1003)] [.rs 1015 0 0 3 1] (.v (E (iR b V).2)) [(1009,some (oV [.s A, .s X, .s (iR b V).1] (some 62)))]:=by
 have f1:=Nq (p:=p) (k:=k) h1;have f2:=AP (e:=3) (Nr s b A X V l w ep hl);have f3:=fun nm=>Ns 3 5 nm oC s b A X V
 rw[hg]at f2;subst h0;generalize iR b V=r at*;obtain⟨v,e⟩:=r;simp only at f3⊢;unfold cA.pv Key.pv AU at*;simp only[cr,bM,az]at f2;refine j4.w mixed call27 func27 rfl (ka.1 _ _ _ (by cbv)) (ka.2 _ _ (by cbv)) (obs:=[Fc 1 2 3 5 6,oV [.s p.c, .s p.sl, .s p.mm, .s p.mo, .s p.mg, .s p.mh, .s p.wm, .s p.wo, .s p.wg, .s p.wh, .s p.se, .s p.at', .s p.ha, .s p.el, .s p.es, .s p.bl, .s p.ma] none,oV [.s k.name, .s k.m, .s k.o, .s k.z, .s k.s, .sl (k.r.map .s), .s k.u, .s k.h] none,oV [.s s, .s b] none,oV [.sl (l.map .s), .s A, .s X, .s V, .s w,E ep] none,oV [.s A, .s X, .s V] (some 62),Fb 3 5 4]) (args:=[.rs 0 0 0 3 1]) (fs:=[none,none,none,none,none,some (some (oV [.s A, .s X, .s v] (some 62))),none]) (j:=none) (nw:=none) (v:= .v (E e)) (ns:=[1015,1000,1001,1002,1003,1009,1013]) (obsA:=[Fc 1000 1001 1002 1009 1013,oV [.s p.c, .s p.sl, .s p.mm, .s p.mo, .s p.mg, .s p.mh, .s p.wm, .s p.wo, .s p.wg, .s p.wh, .s p.se, .s p.at', .s p.ha, .s p.el, .s p.es, .s p.bl, .s p.ma] none,oV [.s k.name, .s k.m, .s k.o, .s k.z, .s k.s, .sl (k.r.map .s), .s k.u, .s k.h] none,oV [.s s, .s b] none,oV [.sl (l.map .s), .s A, .s X, .s V, .s w,E ep] none,oV [.s A, .s X, .s V] (some 62),Fb 1002 1009 1003]) rfl ?_ (by simp) (by simp) rfl (by simp[bc,mR,aJ.aX,AV.aX,AV.aX.renL,dz]) (by simp[bc,AV.aX,dz]) (by simp[AV.aX]) (by simp[fL,outs,mR,gR])
 repeat' first|simp only[go_sem,seval,true_or,or_true,false_or,or_false,aq,iQ,ff,ix,fF,gp,e7,pU,qj,gT,iC,dW,aR,AV.aX,AV.aX.renL,aM]|(refine fw f1 (by simp[bc,view,aC,AV.one,PV.one,qc,chunk]) rfl ?_)|(refine fw f2 (by simp[bc,view,aC,AV.one,PV.one,qc,chunk]) rfl ?_)|(refine bK (f3 _) (by simp[aC]) ?_)|(refine aj ?_)|refine oE ?_|apply xX<;>intro hc
 all_goals first|exact⟨rfl,rfl,rfl,rfl,rfl⟩|(subst hc;exact⟨rfl,rfl,rfl,rfl,rfl,rfl⟩)
theorem Hg (h1:aE 29 [p.pv,k.pv] (E e1)) (s b A X V:Bytes) (l:List Bytes) (w:Bytes) (ep:Int) (hl:l.length<1000) (h0:e1≠0\/([s,b,A,X,V].all aa&&l.all aa)=false) (nm:Nat):j4 prog 27 nm [(1015,Fc 1000 1001 1002 1009 1013),(1000,oV [.s p.c, .s p.sl, .s p.mm, .s p.mo, .s p.mg, .s p.mh, .s p.wm, .s p.wo, .s p.wg, .s p.wh, .s p.se, .s p.at', .s p.ha, .s p.el, .s p.es, .s p.bl, .s p.ma] none),(1001,oV [.s k.name, .s k.m, .s k.o, .s k.z, .s k.s, .sl (k.r.map .s), .s k.u, .s k.h] none),(1002,oV [.s s, .s b] none),(1003,oV [.sl (l.map .s), .s A, .s X, .s V, .s w,E ep] none),(1009,oV [.s A, .s X, .s V] (some 62)),(1013,Fb 1002 1009 1003)] [.rs 1015 0 0 3 1] (.v (E (if e1≠0 then e1 else 3))) []:=by
 have f1:=Nq (p:=p) (k:=k) h1;have f2:=AP (e:=3) (Nr s b A X V l w ep hl);have f3:=fun nm=>Ns 3 5 nm oC s b A X V
 clear f3;unfold cA.pv Key.pv AU at*
 by_cases he:e1=0
 ·have hg:=h0.resolve_left (by simpa using he)
  rw[hg]at f2;subst he;simp only[cC,aB]at f2;rw[af (by simp)]
  refine j4.w mixed call27 func27 rfl (ka.1 _ _ _ (by cbv)) (ka.2 _ _ (by cbv)) (obs:=[Fc 1 2 3 5 6,oV [.s p.c, .s p.sl, .s p.mm, .s p.mo, .s p.mg, .s p.mh, .s p.wm, .s p.wo, .s p.wg, .s p.wh, .s p.se, .s p.at', .s p.ha, .s p.el, .s p.es, .s p.bl, .s p.ma] none,oV [.s k.name, .s k.m, .s k.o, .s k.z, .s k.s, .sl (k.r.map .s), .s k.u, .s k.h] none,oV [.s s, .s b] none,oV [.sl (l.map .s), .s A, .s X, .s V, .s w,E ep] none,oV [.s A, .s X, .s V] (some 62),Fb 3 5 4]) (args:=[.rs 0 0 0 3 1]) (fs:=[none,none,none,none,none,none,none]) (j:=none) (nw:=none) (v:= .v (E 3)) (ns:=[1015,1000,1001,1002,1003,1009,1013]) (obsA:=[Fc 1000 1001 1002 1009 1013,oV [.s p.c, .s p.sl, .s p.mm, .s p.mo, .s p.mg, .s p.mh, .s p.wm, .s p.wo, .s p.wg, .s p.wh, .s p.se, .s p.at', .s p.ha, .s p.el, .s p.es, .s p.bl, .s p.ma] none,oV [.s k.name, .s k.m, .s k.o, .s k.z, .s k.s, .sl (k.r.map .s), .s k.u, .s k.h] none,oV [.s s, .s b] none,oV [.sl (l.map .s), .s A, .s X, .s V, .s w,E ep] none,oV [.s A, .s X, .s V] (some 62),Fb 1002 1009 1003]) rfl ?_ (by simp) (by simp) rfl (by simp[bc,mR,aJ.aX,AV.aX,AV.aX.renL,dz]) (by simp[bc,AV.aX,dz]) (by simp[AV.aX]) (by simp[fL,outs,mR,gR])
  repeat' first|simp only[go_sem,seval,true_or,or_true,false_or,or_false,aq,iQ,ff,ix,fF,gp,e7,pU,qj,gT,iC,dW,aR,AV.aX,AV.aX.renL,aM]|(refine fw f1 (by simp[bc,view,aC,AV.one,PV.one,qc,chunk]) rfl ?_)|(refine fw f2 (by simp[bc,view,aC,AV.one,PV.one,qc,chunk]) rfl ?_)|(refine aj ?_)|refine oE ?_|apply xX<;>intro hc
  all_goals exact⟨rfl,rfl,rfl,rfl,rfl⟩
 ·rw[ah he];have hb1:(e1==0)=false:=by simpa using he
  have hb2:(e1 !=0)=true:=by simpa using he
  clear f2 h0;refine j4.w mixed call27 func27 rfl (ka.1 _ _ _ (by cbv)) (ka.2 _ _ (by cbv)) (obs:=[Fc 1 2 3 5 6,oV [.s p.c, .s p.sl, .s p.mm, .s p.mo, .s p.mg, .s p.mh, .s p.wm, .s p.wo, .s p.wg, .s p.wh, .s p.se, .s p.at', .s p.ha, .s p.el, .s p.es, .s p.bl, .s p.ma] none,oV [.s k.name, .s k.m, .s k.o, .s k.z, .s k.s, .sl (k.r.map .s), .s k.u, .s k.h] none,oV [.s s, .s b] none,oV [.sl (l.map .s), .s A, .s X, .s V, .s w,E ep] none,oV [.s A, .s X, .s V] (some 62),Fb 3 5 4]) (args:=[.rs 0 0 0 3 1]) (fs:=[none,none,none,none,none,none,none]) (j:=none) (nw:=none) (v:= .v (E e1)) (ns:=[1015,1000,1001,1002,1003,1009,1013]) (obsA:=[Fc 1000 1001 1002 1009 1013,oV [.s p.c, .s p.sl, .s p.mm, .s p.mo, .s p.mg, .s p.mh, .s p.wm, .s p.wo, .s p.wg, .s p.wh, .s p.se, .s p.at', .s p.ha, .s p.el, .s p.es, .s p.bl, .s p.ma] none,oV [.s k.name, .s k.m, .s k.o, .s k.z, .s k.s, .sl (k.r.map .s), .s k.u, .s k.h] none,oV [.s s, .s b] none,oV [.sl (l.map .s), .s A, .s X, .s V, .s w,E ep] none,oV [.s A, .s X, .s V] (some 62),Fb 1002 1009 1003]) rfl ?_ (by simp) (by simp) rfl (by simp[bc,mR,aJ.aX,AV.aX,AV.aX.renL,dz]) (by simp[bc,AV.aX,dz]) (by simp[AV.aX]) (by simp[fL,outs,mR,gR])
  repeat' first|simp only[go_sem,seval,true_or,or_true,false_or,or_false,aq,iQ,ff,ix,fF,gp,e7,pU,qj,gT,iC,dW,aR,AV.aX,AV.aX.renL,aM,hb1,hb2]|(refine fw f1 (by simp[bc,view,aC,AV.one,PV.one,qc,chunk]) rfl ?_)|(refine aj ?_)|refine oE ?_|apply xX<;>intro hc
  all_goals exact⟨rfl,rfl,rfl,rfl,rfl⟩
theorem BN (hp:p.short) (lm:k.m.length<=8) (ln:k.name.length<=60) (lr:k.r.length<=20) (s b A X V:Bytes) {l:List Bytes} (hl:l.length<1000) (w:Bytes) (ep:Int):aE 14 [p.pv,k.pv, .agg [.s s, .s b],AU l A X V w ep] (KG p k s b A X V l):=by
 have h1:=lF p k _ (mB p hp) lm ln lr;have hw:=fun n1 k1 m1 nm x1 x2 x3=>Xi n1 k1 m1 nm x1 x2 x3 55 [.s s, .s b] [.s A, .s X, .s V] (AU l A X V w ep).cells none (some 62) none 3
 have l1:(l.map PV.s).length=l.length:=aG ..;unfold KG
 by_cases hb:fb (eN p) k≠0\/([s,b,A,X,V].all aa&&l.all aa)=false
 ·have hf:=Hg h1 s b A X V l w ep hl hb;have he:Bh p k s b A X V l=if fb (eN p) k≠0 then fb (eN p) k else 3:=by
   unfold Bh
   by_cases h0:fb (eN p) k≠0
   ·rw[ah h0,ah h0]
   ·rw[af h0,af h0,hb.resolve_left h0];rfl
  have hne:(if fb (eN p) k≠0 then fb (eN p) k else 3)≠0:=by
   split
   ·assumption
   ·decide
  rw[he,af hne];have hb2:((if fb (eN p) k≠0 then fb (eN p) k else 3) !=0)=true:=by simpa using hne
  generalize (if fb (eN p) k≠0 then fb (eN p) k else 3)=e at*
  clear h1 hb;unfold cA.pv Key.pv AU PV.cells at*;simp only[bV,ca]at hw hf;refine eW call14 func14 ?_;repeat' first|simp only[go_sem,seval,hb2]|(refine bK (hw _ _ _ _ oC oC oC) (by simp[aC]) ?_)|(refine bK (hf _) (by simp[aC]) ?_)|refine oE ?_|apply xX<;>intro hc
  all_goals rfl
 have h0:fb (eN p) k=0:=Classical.byContradiction fun h=>hb (.inl h)
 have hg:([s,b,A,X,V].all aa&&l.all aa)=true:=by
  cases h:([s,b,A,X,V].all aa&&l.all aa)with
  |true=>rfl
  |false=>exact aP (.inr h) hb
 have hf:=KE h1 s b A X V l w ep hl h0 hg;have hv:=EX hp lm ln lr (s::l) (by simp;omega) A X (iR b V).1
 have he:Bh p k s b A X V l=if(iR b V).2≠0 then(iR b V).2 else DL p k (s::l) A X (iR b V).1:=by
  unfold Bh;rw[h0,hg];rfl
 rw[he];clear he;generalize DL p k (s::l) A X (iR b V).1=ve at*;generalize iR b V=r at*;obtain⟨v,ae⟩:=r;simp only at hf hv⊢;clear h1 hb h0 hg;unfold cA.pv Key.pv AU PV.cells at*;simp only[bV,ca]at hw hf hv⊢
 by_cases ha:ae=0
 case neg=>
  rw[ah ha,af ha];have hb2:(ae !=0)=true:=by simpa using ha
  refine eW call14 func14 ?_;repeat' first|simp only[go_sem,seval,hb2]|(refine bK (hw _ _ _ _ oC oC oC) (by simp[aC]) ?_)|(refine bK (hf _) (by simp[aC]) ?_)|refine oE ?_|apply xX<;>intro hc
  all_goals rfl
 subst ha;rw[show(if(0:Int)≠0 then(0:Int)else ve)=ve from af (by simp)]
 by_cases hl0:l=[]
 ·subst hl0;simp only[ca]at*
  by_cases hve:ve=0
  ·subst hve;rw[ah rfl];refine eW call14 func14 ?_;repeat' first|simp only[go_sem,seval]|(refine bK (hw _ _ _ _ oC oC oC) (by simp[aC]) ?_)|(refine bK (hf _) (by simp[aC]) ?_)|refine cP hv ?_|refine oE ?_|apply xX<;>intro hc
   all_goals rfl
  ·rw[af hve];have hb2:(ve !=0)=true:=by simpa using hve
   refine eW call14 func14 ?_;repeat' first|simp only[go_sem,seval,hb2]|(refine bK (hw _ _ _ _ oC oC oC) (by simp[aC]) ?_)|(refine bK (hf _) (by simp[aC]) ?_)|refine cP hv ?_|refine oE ?_|apply xX<;>intro hc
   all_goals rfl
 have hr0:(l.length=0)=False:=by rw[eq_iff_iff,iff_false];intro g;exact hl0 (eH.1 g)
 have e1:=TW s l;refine eW call14 func14 ?_;repeat' first|simp only[go_sem,seval,l1,hr0]|(refine bK (hw _ _ _ _ oC oC oC) (by simp[aC]) ?_)|(refine bK (hf _) (by simp[aC]) ?_)|refine oE ?_|apply xX<;>intro hc
 refine⟨⟨fun x hx=>gA hx,fun y hy=>kA hy,oO,oO⟩,?_⟩
 by_cases hve:ve=0
 ·subst hve;rw[ah rfl];have r1:=Ge s l;have r2:=Cl s l;have r3:=dY cU.s (s::l);have r4:=Gf s l;have r5:=JF l;repeat' first|simp only[go_sem,seval,l1,e1,r1,r2,r3,r4,r5]|(refine Cz (l:=s::l) hv cU.s rfl rfl (by simp only[List.length_cons];omega) (by simp[view,bc,AV.one,PV.one]) (by simp[view,bc,AV.one,PV.one]) (by simp[view,bc,AV.one,PV.one]) ?_)|refine oE ?_|apply xX<;>intro hc
  all_goals rfl
 ·rw[af hve];have hb2:(ve !=0)=true:=by simpa using hve
  repeat' first|simp only[go_sem,seval,l1,e1,hb2]|(refine Cz (l:=s::l) hv cU.s rfl rfl (by simp only[List.length_cons];omega) (by simp[view,bc,AV.one,PV.one]) (by simp[view,bc,AV.one,PV.one]) (by simp[view,bc,AV.one,PV.one]) ?_)|refine oE ?_|apply xX<;>intro hc
  all_goals rfl
