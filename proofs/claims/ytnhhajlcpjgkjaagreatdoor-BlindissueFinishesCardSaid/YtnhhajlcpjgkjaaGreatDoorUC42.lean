/- Part of the proof. -/
import Derived.Test.YtnhhajlcpjgkjaaGreatDoorUC40
set_option linter.all false
set_option maxHeartbeats 16000000
set_option maxRecDepth 100000
namespace Go.Proofs.Tryz
open Go Go.Dom Go.Num
variable {k:Key}
theorem Ps (x:Bytes):aE 269 [.s x] (.b (!aa x)):=by
 have hv:=aG x;refine eW call269 func269 ?_;exact z1 @hv
theorem pF (l:List Bytes) (hl:l.length<1000000):aE 136 [.sl (l.map .s)] (.b (l.all aa)):=by
 have h:=gV l _ (fun x=> !aa x) oO Ps
 rw[jh]at h;generalize l.all aa=b at*;refine eW call136 func136 ?_;repeat' first|simp only[go_sem,seval]|refine cP h ?_|refine oE ?_|apply xX<;>intro hc
 all_goals (cases b<;>rfl)
theorem nJ (x:Bytes):aE 140 [.s x] (.agg [.b false, .s x]):=by
 refine eW call140 func140 ?_;exact z0
def Ag (p:cq) (i:Nat):Bytes:=if i=0 then p.se else if i=1 then p.ha else p.at'
def Hg (p:cq) (l:List Bytes):Bool:=(List.range l.length).all fun i=>decide (num (l.getD i [])<num (Ag p i))
noncomputable def pJ (k:Key) (l:List Bytes):Nat:=yE (num k.m) ((k.r.map num).zip (l.map fun x=>(false,x)))
noncomputable def Uu (p:cq) (k:Key) (l:List Bytes):PV:=if l.length≠k.r.length then .tup [.s [],E 6]else if Hg p l then .tup [N (pJ k l),E 0]else .tup [.s [],E 2]
theorem Hh {p:cq} {l:List Bytes} {i:Nat} (hi:i<l.length) (h: ¬num (l.getD i [])<num (Ag p i)):Hg p l=false:=by
 unfold Hg;rw[dy];intro g;exact h (by simpa using bH.1 g i (fS.2 hi))
theorem Dw {p:cq} {l:List Bytes} (h: ∀i,i<l.length->num (l.getD i [])<num (Ag p i)):Hg p l=true:=by
 unfold Hg;rw[bH];intro i hi;exact aV (h i (fS.1 hi))
theorem Uv {p:cq} (hk:py k) (lm:k.m.length<=8) (lr:k.r.length<=20) {l:List Bytes} (hl:l.length=k.r.length) (hv:l.all aa=true):aE 39 [G k.m k.o, .sl (k.r.map .s), .sl (l.map lz)] (.tup [N (pJ k l),E 0]):=by
 have hE:=qW hk;have lo:k.o.length<=8:=by rw[hk.o];simp
 have hr: ∀x∈k.r,aa x=true/\GP k.m k.o (num x):=fun x hx=>(cL hE).1 (jr hk (hk.t x (by simp only[BU,cd];exact .inr (.inr (.inr hx)))))
 have h:=sF lm lo hE (xs:=k.r.map num) (es:=l.map fun x=>(false,x)) (fun y hy=>by obtain⟨x,hx,rfl⟩:=cv.1 hy;exact(hr x hx).2) (fun y hy=>by obtain⟨x,hx,rfl⟩:=cv.1 hy;simp[cr,bH.1 hv x hx]) (by simp[hl]) (by rw[aL];omega)
 rw[iF,iF]at h;rw[show k.r.map (Fm∘num)=k.r.map PV.s from oX fun x hx=>dZ (hr x hx).1]at h
 exact h
theorem Bw {p:cq} (hp:p.short) (hpe:eQ p=0) (hk:py k) (lm:k.m.length<=8) (hr2:2<=k.r.length) (lr:k.r.length<=20) {l:List Bytes} (hl:l.length<1000000) (hv:l.all aa=true):aE 137 [p.pv,k.pv, .sl (l.map .s)] (Uu p k l):=by
 obtain⟨hpv,hpt⟩:=yB hpe;have vse:=hpv p.se (by simp[cq.eP])
 have vha:=hpv p.ha (by simp[cq.eP])
 have vat:=hpv p.at' (by simp[cq.eP])
 have l1:(l.map PV.s).length=l.length:=aL ..;have l2:(k.r.map PV.s).length=k.r.length:=aL ..;unfold Uu
 by_cases h6:l.length=k.r.length
 case neg=>
  rw[ah h6];have hb:((l.length:Int) !=(k.r.length:Int))=true:=by rw[qJ];omega
  clear hk;unfold cq.pv Key.pv at*;refine eW call137 func137 ?_;exact gU (aN @l1 (aN @l2 @hb))
 rw[af (by simpa using h6)]
 have hb:((l.length:Int) !=(k.r.length:Int))=false:=by rw[h6];simp
 have hM:=Uv (p:=p) hk lm lr h6 hv;have hpos:0<l.length:=oO;have hRow:cT lz 2:=RR;have hbadA: ∀i,i<l.length->num (Ag p i)<=num (l.getD i [])->Hg p l=false:=fun i hi h=>Hh hi oO
 generalize pJ k l=mv at*;clear hk;unfold cq.pv Key.pv at*;refine eW call137 func137 ?_;refine dY (aN @l1 (aN @l2 @hb)) ?_;refine aj ?_;have e1:=jm hpos;have vx:aa (l.getD 0 [])=true:=bH.1 hv _ (aC [] hpos);have c1:=jH vx (vse);have hcg:=Jy (num (l.getD 0 [])) (num p.se);have i1:=nJ (l.getD 0 []);have hb0:=hbadA 0 hpos;have t0:l.take 1=[l.getD 0 []]:=aQ [] hpos;have a0:Ag p 0=p.se:=rfl;rw[a0]at hb0;obtain⟨x0,hx0⟩: ∃x0,x0=l.getD 0 []:=⟨_,rfl⟩;rw[<-hx0]at e1 vx c1 hcg i1 hb0 t0;have hP0:decide (num x0<num p.se)=true-> ∀j,j<1->num (l.getD j [])<num (Ag p j):=fun h j hj=>by
  obtain rfl:j=0:=oO;rw[<-hx0];simpa[Ag]using h
 clear hx0;generalize aZ (num x0) (num p.se)=cm at*
 cases hd:decide (num x0<num p.se)with
 |false=>
  rw[hd]at hcg;rw[hb0 (by simpa using hd)]
  exact lF (aN @l1 (aN @e1 @hcg)) @c1
 |true=>
 rw[hd]at hcg;have hP0:=hP0 hd;clear hd hb0;refine tO (aN @l1 (aN @e1 @hcg)) @c1 @i1 ?_;clear e1 vx c1 hcg i1;refine ak (α:=Nat) (fun j=>l.length-j) (fun j=>⟨[(4, .p 1001 0 0),(8, .p 1017 0 0),(9, .rs 1040 j 0 (j+1) 2),(25, .v (.sl (l.map .s))),(26,E' l.length),(27,E' (j+1))],[(1001,⟨0,[.v (.s k.name), .v (.s k.m), .v (.s k.o), .v (.s k.z), .v (.s k.s), .v (.sl (k.r.map .s)), .v (.s k.u), .v (.s k.h)],false,none⟩),(1017,⟨0,[.v (.s p.se), .v (.s p.ha), .v (.s p.at')],false,some 316⟩),(1040,⟨j,aX lz (l.take (j+1)),true,some 94⟩)],1044⟩) (fun j=>j+1<=l.length/\ ∀i,i<j+1->num (l.getD i [])<num (Ag p i)) 0 (fun _=>dF rfl) ⟨oO,hP0⟩ ?_ ?_
 ·simp only[eK,t0]
  (refine AS.Le.of (by first|decide|omega) ?_ ?_<;>simp[dA,dz,aS,aB,AV.bd,AV.bd.bdL,u8,aq,au,aA])
  all_goals first|omega|exact⟨rfl,fun c hc=>cI hc⟩|exact fun c hc=>cI hc
 ·clear t0 hP0;rintro j ⟨hj,hall⟩ R hR;have hlm:(l.take (j+1)).length=j+1:=by rw[cf];omega
  have q1:=cF hRow (l.take (j+1));have q2:=cR hRow (l.take (j+1));rw[hlm]at q1 q2
  by_cases hlt:j+1<l.length
  ·have hgo:=fun h=>hR (j+1) ⟨oO,h⟩ oO
   have ts:=aQ ([]:Bytes) hlt;have hrs:aX lz (l.take (j+1+1))=aX lz (l.take (j+1))++[.v (.b false), .v (.s (l.getD (j+1) []))]:=by rw[ts,HV]
   simp only[hrs]at hgo;have hb1:=hbadA (j+1) hlt;have hgo2:num (l.getD (j+1) [])<num (Ag p (j+1))-> ∀i,i<j+1+1->num (l.getD i [])<num (Ag p i):=fun h i hi=>by
    by_cases e:i=j+1
    ·rw[e];exact h
    ·exact hall i oO
   clear hR ts hrs hlm hall hbadA
   by_cases hj0:j=0
   ·subst hj0;have a1:Ag p (0+1)=p.ha:=rfl;rw[a1]at hb1 hgo2;have e1:=jm hlt;have vx:aa (l.getD (0+1) [])=true:=bH.1 hv _ (aC [] hlt);have c1:=jH vx (vha);have hcg:=Jy (num (l.getD (0+1) [])) (num p.ha);have i1:=nJ (l.getD (0+1) []);generalize l.getD (0+1) []=x0 at*;generalize aZ (num x0) (num p.ha)=cm at*
    cases hd:decide (num x0<num p.ha)with
    |false=>
     rw[hd]at hcg;rw[hb1 (by simpa using hd)]
     clear hgo hgo2;exact lF (aN @l1 (aN @e1 @hcg)) @c1
    |true=>
     rw[hd]at hcg;have hgo:=hgo (hgo2 (by simpa using hd))
     clear hgo2 hb1;refine tO (aN @l1 (aN @e1 (aN @hcg (aN @q1 @q2)))) @c1 @i1 ?_;refine hgo _ ?_
     (refine AS.Le.of (by first|decide|omega) ?_ ?_<;>simp[dA,dz,aS,aB,AV.bd,AV.bd.bdL,u8,aq,au,aA])
     all_goals first|omega|exact fun c hc=>by rcases hc with hc|rfl|rfl<;>first|exact cI hc|rfl
   ·have a1:Ag p (j+1)=p.at':=by unfold Ag;rw[af oO,af oO]
    rw[a1]at hb1 hgo2;have hmin: ∀ _:True,(if(2:Int)<((j+1:Nat):Int)then(2:Int)else((j+1:Nat):Int))=2:=fun _=>by split<;>omega
    have h2t:(2:Int).toNat=2:=rfl;have e1:=jm hlt;have vx:aa (l.getD (j+1) [])=true:=bH.1 hv _ (aC [] hlt);have c1:=jH vx (vat);have hcg:=Jy (num (l.getD (j+1) [])) (num p.at');have i1:=nJ (l.getD (j+1) []);generalize l.getD (j+1) []=x0 at*;generalize aZ (num x0) (num p.at')=cm at*
    cases hd:decide (num x0<num p.at')with
    |false=>
     rw[hd]at hcg;rw[hb1 (by simpa using hd)]
     clear hgo hgo2;exact lF (aN @l1 (aN @e1 (aN @hcg (aN (hmin oT) @h2t)))) @c1
    |true=>
     rw[hd]at hcg;have hgo:=hgo (hgo2 (by simpa using hd))
     clear hgo2 hb1;refine tO (aN @l1 (aN @e1 (aN @hcg (aN @q1 (aN @q2 (aN (hmin oT) @h2t)))))) @c1 @i1 ?_;refine hgo _ ?_
     (refine AS.Le.of (by first|decide|omega) ?_ ?_<;>simp[dA,dz,aS,aB,AV.bd,AV.bd.bdL,u8,aq,au,aA])
     all_goals first|omega|exact fun c hc=>by rcases hc with hc|rfl|rfl<;>first|exact cI hc|rfl
  ·have hjl:j+1=l.length:=oO;have hg:Hg p l=true:=Dw fun i hi=>hall i oO
   rw[hg,ah rfl];have hT:l.take (j+1)=l:=c9 oO;rw[hT]at q1 q2;rw[hT,hjl];rw[hjl]at q1 q2;have q3:=dU hRow l;have q4:=dj hRow l;clear hR hall hbadA hlm;repeat' first|simp only[go_sem,seval,l1,q1,q2,q3,q4,eJ]|(refine rY (l:=l) (g:=lz) (ver:=j) (gr:=true) (el:=some 94) hM hRow rfl (by simp[aB]) rfl ?_)|refine oE ?_|apply xX<;>intro hc
   all_goals rfl
def FG (x lo sz:Bytes):Bool:=decide (num lo<=num x)&&decide (num x-num lo<num sz)
noncomputable def Cp (k:Key) (l:List Bytes) (A X V:Bytes):Nat:=yE (num k.m) [(num A,(false,X)),(num k.s,(false,V)),(pJ k l,(false,[1]))]
noncomputable def Cz (p:cq) (k:Key) (l:List Bytes) (A X V:Bytes):Int:=
 if fa (eQ p) k≠0 then fa (eQ p) k else if !(l.all aa)|| !([A,X,V].all aa)then 3 else if l.length≠k.r.length then 6 else if !Hg p l then 2 else if !FG X p.el p.es||(decide (num p.bl<=num V)&& !FG V p.bl p.bl)then 2 else if dE X≠0 then dE X else if !fL (num X)then 12 else if !dx k.m [] A then 13 else if decide (Cp k l A X V=num k.z)then 0 else 19
theorem Mv (hk:py k) (l:List Bytes):GP k.m k.o (pJ k l):=by
 have hE:=qW hk;obtain⟨-,-,m1,-,-⟩:=mc hE;have hr: ∀x∈k.r,GP k.m k.o (num x):=fun x hx=>((cL hE).1 (jr hk (hk.t x (by simp only[BU,cd];exact .inr (.inr (.inr hx)))))).2
 unfold pJ;generalize k.r=rs at hr;have h: ∀(rs:List Bytes) (es:List (Bool×Bytes)),(∀x∈rs,GP k.m k.o (num x))->GP k.m k.o (yE (num k.m) ((rs.map num).zip es)):=by
  intro rs
  induction rs with
  |nil=>intro es _;simp only[bj,List.zip_nil_left,wj];rw[bw m1];exact⟨m1,Nat.gcd_one_left _, .inr (by rw[qE])⟩
  |cons x rs ih=>
   intro es hx
   cases es with
   |nil=>simp only[List.zip_nil_right,wj];rw[bw m1];exact⟨m1,Nat.gcd_one_left _, .inr (by rw[qE])⟩
   |cons e es=>
    rw[bV,List.zip_cons_cons,pL];exact((hx x (.head _)).dw m1 _ _).mul (ih es fun y hy=>hx y (.tail _ hy))
 exact h rs _ hr
theorem vS {a:Bytes} (va:aa a=true) {n:Nat}:aa (bR (num a-n))=true:=jY (eu (Nat.sub_le _ _) (b9 (ct a) (cM oC (dD va))))
theorem RD {x:Bytes} (vx:aa x=true) (v:Nat):(bR v==x)=decide (v=num x):=by
 rw[dk,bM,fV];constructor
 ·intro h;rw[<-h,aY]
 ·intro h;rw[h];exact fm vx
theorem VM {a b:Bytes} (va:aa a=true) (vb:aa b=true):rM a b=if num b<=num a then(bR (num a-num b),0)else([],2):=by
 unfold rM;rw[va,vb];rfl
theorem VJ (hk:py k) (lm:k.m.length<=8) (l:List Bytes) {A X V:Bytes} (hA:dx k.m [] A=true) (vX:aa X=true) (vV:aa V=true):aE 39 [G k.m k.o, .sl [.s A, .s k.s,N (pJ k l)], .sl [.agg [.b false, .s X], .agg [.b false, .s V], .agg [.b false, .s [1]]]] (.tup [N (Cp k l A X V),E 0]):=by
 have hE:=qW hk;have lo:k.o.length<=8:=by rw[hk.o];simp
 obtain⟨vs,gs⟩:=(cL hE).1 (jr hk hk.s);obtain⟨va,ga⟩:=(cL hE).1 (jr hk hA);have gm:=Mv hk l;have h:=sF lm lo hE (xs:=[num A,num k.s,pJ k l]) (es:=[(false,X),(false,V),(false,[1])]) (by intro y hy;simp only[cd,il,or_false]at hy;rcases hy with rfl|rfl|rfl<;>assumption) (by intro y hy;simp only[cd,il,or_false]at hy;rcases hy with rfl|rfl|rfl<;>first|(simp[cr,vX];done)|(simp[cr,vV];done)|rfl) rfl (by simp)
 simp only[bV,bj,Fm,dZ vs,dZ va]at h;exact h
theorem DH {p:cq} (hp:p.short) (lm:k.m.length<=8) (ln:k.name.length<=60) (lr:k.r.length<=20) (l:List Bytes) (hl:l.length<1000000) (A X V:Bytes):aE 59 [p.pv,k.pv, .sl (l.map .s), .agg [.s A, .s X, .s V]] (E (Cz p k l A X V)):=by
 have hck:=kN p k _ (lK p hp) lm ln lr;have f1:=pF l hl;have f2:=pF [A,X,V] (by simp)
 simp only[bV,bj]at f2;unfold Cz
 by_cases hke:fa (eQ p) k=0
 case neg=>
  rw[ah hke];have hb2:(fa (eQ p) k !=0)=true:=by simpa using hke
  generalize fa (eQ p) k=e at*;unfold cq.pv Key.pv at*;refine eW call59 func59 ?_;exact lF @hb2 @hck
 rw[af (by simpa using hke)]
 rw[hke]at hck
 cases hv:l.all aa with
 |false=>
  rw[hv]at f1;simp only[cG,nk,az];unfold cq.pv Key.pv at*;refine eW call59 func59 ?_;exact z2 @hck @f1
 |true=>
 cases hg:[A,X,V].all aa with
 |false=>
  rw[hv]at f1;rw[hg]at f2;simp only[cG,Bool.or_true,az];unfold cq.pv Key.pv at*;refine eW call59 func59 ?_;exact z4 @hck @f1 @f2 oT
 |true=>
 rw[hv]at f1;rw[hg]at f2;simp only[cl,Bool.or_self,bO,ar];simp only[List.all_cons,List.all_nil,gj,ba]at hg;obtain⟨vA,vX,vV⟩:=hg;obtain⟨hpe,hkf⟩:=ot hke;have hr2:=x7 hke;obtain⟨hpv,hpt⟩:=yB hpe;have vel:=hpv p.el (by simp[cq.eP])
 have ves:=hpv p.es (by simp[cq.eP])
 have vbl:=hpv p.bl (by simp[cq.eP])
 have hm:=Bw hp hpe hkf lm hr2 lr hl hv;unfold Uu at hm
 by_cases h6:l.length=k.r.length
 case neg=>
  rw[ah h6]at hm;rw[ah h6];clear hkf;unfold cq.pv Key.pv at*;refine eW call59 func59 ?_;exact z4 @hck @f1 @f2 @hm
 rw[af (by simpa using h6)]at hm⊢
 cases ha:Hg p l with
 |false=>
  rw[ha]at hm;simp only[bO,ar,cG,az]at hm⊢;clear hkf;unfold cq.pv Key.pv at*;refine eW call59 func59 ?_;exact z4 @hck @f1 @f2 @hm
 |true=>
 rw[ha]at hm;simp only[az,cl,bO,ar]at hm⊢;have s1:=Bq X p.el;rw[VM vX vel]at s1;have s2:=Bq V p.bl;rw[VM vV vbl]at s2;have c1:num p.el<=num X->aE 36 [N (num X-num p.el), .s p.es] (E (aZ (num X-num p.el) (num p.es))):=fun _=>by
  have h:=jH (x:=bR (num X-num p.el)) (y:=p.es) (vS vX) ves
  rwa[aY]at h
 have c2:num p.bl<=num V->aE 36 [N (num V-num p.bl), .s p.bl] (E (aZ (num V-num p.bl) (num p.bl))):=fun _=>by
  have h:=jH (x:=bR (num V-num p.bl)) (y:=p.bl) (vS vV) vbl
  rwa[aY]at h
 have g1:=Jy (num X-num p.el) (num p.es);have g2:=Jy (num V-num p.bl) (num p.bl);have h3:=qi X;have h4:=yJ lm A;have h5:=fun hA=>VJ hkf lm l (A:=A) (X:=X) (V:=V) hA vX vV
 have i1:=nJ X;have i2:=nJ V;have i3:=nJ [1];have hz:=(cL (qW hkf)).1 (jr hkf (hkf.t k.z (by simp[BU])))
 have hzz:=RD hz.1 (Cp k l A X V);have ho:=hkf.o;rw[vX,cj]at h3;have e8:dE X=if X.length<=8 then 0 else 5:=by unfold dE;rw[vX];rfl
 rw[e8]at h3⊢;unfold FG;generalize aZ (num X-num p.el) (num p.es)=cm1 at*;generalize aZ (num V-num p.bl) (num p.bl)=cm2 at*;generalize num X-num p.el=d1 at*;generalize num V-num p.bl=d2 at*;generalize fL (num X)=bm at*;generalize Cp k l A X V=sv at*;generalize pJ k l=mv at*;generalize dx k.m [] A=bA at*;clear hkf hz hke h6 ha hv;obtain⟨name,m,o,z,s,r,u,hh⟩:=k;simp only at*;subst ho
 by_cases x1:num p.el<=num X
 case neg=>
  rw[af x1]at s1;rw[bL x1,db,cG,nk,ah rfl];unfold cq.pv Key.pv at*;refine eW call59 func59 ?_;exact z7 @hck @f1 @f2 @hm @s1 oT oT
 rw[ah x1]at s1;have c1:=c1 x1;rw[aV x1,cj]
 cases x2:decide (d1<num p.es)with
 |false=>
  rw[x2]at g1;rw[cG,nk,ah rfl];unfold cq.pv Key.pv at*;refine eW call59 func59 ?_;exact VX @g1 @hck @f1 @f2 @hm @s1 @c1 oT
 |true=>
 rw[x2]at g1;rw[cl,jx]
 by_cases x3:num p.bl<=num V/\ ¬d2<num p.bl
 case pos=>
  rw[ah x3.1]at s2;have c2:=c2 x3.1;rw[bL x3.2]at g2;rw[aV x3.1,bL x3.2,ah (show(true&& !(true&&false))=true from rfl)]
  unfold cq.pv Key.pv at*;refine eW call59 func59 ?_;exact G3 (aN @g1 @g2) @hck @f1 @f2 @hm @s1 @c1 @s2 @c2 oT oT oT oT
 have hx3:(decide (num p.bl<=num V)&& !(decide (num p.bl<=num V)&&decide (d2<num p.bl)))=false:=by
  rw[dy];intro g;simp at g;exact x3 ⟨g.1,oO⟩
 rw[hx3,af (by simp)]
 by_cases x5:X.length<=8
 case neg=>
  rw[af x5]at h3⊢;rw[bL x5,db]at h3;rw[ah oC]
  by_cases x4:num p.bl<=num V
  ·rw[ah x4]at s2;have c2:=c2 x4;rw[aV (show d2<num p.bl from Classical.byContradiction fun g=>x3 ⟨x4,g⟩)]at g2
   unfold cq.pv Key.pv at*;refine eW call59 func59 ?_;exact G3 (aN @g1 @g2) @hck @f1 @f2 @hm @s1 @c1 @s2 @c2 @h3 oT oT oT
  ·rw[af x4]at s2;unfold cq.pv Key.pv at*;refine eW call59 func59 ?_;exact G3 @g1 @hck @f1 @f2 @hm @s1 @c1 @s2 @h3 oT oT oT oT
 rw[ah x5]at h3⊢;rw[aV x5,cj]at h3;rw[af oC]
 by_cases x4:num p.bl<=num V
 ·rw[ah x4]at s2;have c2:=c2 x4;rw[aV (show d2<num p.bl from Classical.byContradiction fun g=>x3 ⟨x4,g⟩)]at g2
  cases bm<;>cases bA
  case true.true=>
   have h5:=h5 rfl;simp only[cl,bO,ar];unfold cq.pv Key.pv at*;generalize decide (sv=num z)=bz at*;refine eW call59 func59 ?_;repeat' first|simp only[go_sem,seval,g1,g2,cl,cG,bne,hzz]|refine cP hck ?_|refine cP f1 ?_|refine cP f2 ?_|refine cP hm ?_|refine cP s1 ?_|refine cP c1 ?_|refine cP s2 ?_|refine cP c2 ?_|refine cP h3 ?_|refine cP h4 ?_|refine cP i1 ?_|refine cP i2 ?_|refine cP i3 ?_|refine cP h5 ?_|refine oE ?_|apply xX<;>intro hc
   all_goals (cases bz<;>simp_all)
  all_goals
   simp only[cl,cG,bO,ar,az];unfold cq.pv Key.pv at*;refine eW call59 func59 ?_;exact G3 (aN @g1 @g2) @hck @f1 @f2 @hm @s1 @c1 @s2 @c2 @h3 @h4 oT oT
 ·rw[af x4]at s2
  cases bm<;>cases bA
  case true.true=>
   have h5:=h5 rfl;simp only[cl,bO,ar];unfold cq.pv Key.pv at*;generalize decide (sv=num z)=bz at*;refine eW call59 func59 ?_;repeat' first|simp only[go_sem,seval,g1,cl,cG,bne,hzz]|refine cP hck ?_|refine cP f1 ?_|refine cP f2 ?_|refine cP hm ?_|refine cP s1 ?_|refine cP c1 ?_|refine cP s2 ?_|refine cP h3 ?_|refine cP h4 ?_|refine cP i1 ?_|refine cP i2 ?_|refine cP i3 ?_|refine cP h5 ?_|refine oE ?_|apply xX<;>intro hc
   all_goals (cases bz<;>simp_all)
  all_goals
   simp only[cl,cG,bO,ar,az];unfold cq.pv Key.pv at*;refine eW call59 func59 ?_;exact G3 @g1 @hck @f1 @f2 @hm @s1 @c1 @s2 @h3 @h4 oT oT oT
