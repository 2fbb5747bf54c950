/- Part of the proof. -/
import Derived.Test.YthlapgdhjcddkaaGreatDoorUF36
import Derived.Test.YthlapgdhjcddkaaGreatDoorUF40
set_option linter.all false
set_option maxHeartbeats 16000000
set_option maxRecDepth 100000
namespace Go.Dom
def FY (v:Nat->Nat->Nat×Nat×Bool):List Int->Nat->Nat->Nat×Nat×Bool
 |[],n,c=>(n,c,true)
 |k::r,n,c=>if k≠n then(0,0,false)else if(v n c).2.2 then FY v r (v n c).1 (v n c).2.1 else(0,0,false)
def L8 (G:List Gt):Nat->Nat->Nat->Nat×Nat×Bool
 |0,_,_=>(0,0,false)
 |f+1,n,c=>
  if G.length<=n then(0,0,false)
  else if(G.getD n eC).kids=[]then(n+1,c+1,decide ((G.getD n eC).need=0)&&decide ((G.getD n eC).leaf=c))
  else if(G.getD n eC).need<1\/(G.getD n eC).need>(G.getD n eC).kids.length\/(G.getD n eC).leaf≠0 then(0,0,false)
  else FY (L8 G f) (G.getD n eC).kids (n+1) c
def Yu (x:Nat×Nat×Bool):Option (Nat×Nat):=if x.2.2 then some (x.1,x.2.1)else none
theorem OB {v:Nat->Nat->Nat×Nat×Bool} {w:Nat->Nat->Option (Nat×Nat)} (h: ∀n c:Nat,Yu (v n c)=w n c): ∀(l:List Int) (n c:Nat),Yu (FY v l n c)=KS w l n c
 |[],n,c=>rfl
 |k::r,n,c=>by
  rw[FY,KS]
  by_cases hk:k=n
  ·subst hk;simp only[ne_eq,qw,aB];rw[<-h n c];unfold Yu
   cases hb:(v n c).2.2 with
   |true=>
    simp only[aC];exact OB h r _ _
   |false=>simp
  ·rw[af hk,af hk];rfl
theorem Qd (G:List Gt): ∀(f n c:Nat),Yu (L8 G f n c)=YS G f n c
 |0,n,c=>rfl
 |f+1,n,c=>by
  rw[L8,YS]
  by_cases h1:G.length<=n
  ·rw[af h1,af h1];rfl
  ·rw[aa h1,aa h1]
   by_cases h2:(G.getD n eC).kids=[]
   ·rw[af h2,af h2];unfold Yu
    by_cases h3:(G.getD n eC).need=0/\(G.getD n eC).leaf=c
    ·rw[af h3];have:(decide ((G.getD n eC).need=0)&&decide ((G.getD n eC).leaf=c))=true:=by rw[aQ h3.1,aQ h3.2];rfl
     rw[this];rfl
    ·rw[aa h3];have:(decide ((G.getD n eC).need=0)&&decide ((G.getD n eC).leaf=c))=false:=by
      rw[dR];intro g;simp only[bc,a8]at g;exact h3 g
     rw[this];rfl
   ·rw[aa h2,aa h2];split
    ·rfl
    ·exact OB (Qd G f) _ _ _
end Go.Dom
namespace Go.Proofs.Tryz
open Go Go.Dom Go.Num
variable {c ch sl:Bytes} {rs:List (Bool×Bytes)}
theorem A7 {s:aT} (hp:xQ c sl s):aH 81 [.agg [.s c, .s sl],s.pv] (.tup [.sl (s.vars.map fun b=>N (lM (ba s.groups) c sl b)), .sl (s.vars.map fun b=>N (lR (ba s.groups) c sl b)),E 0]):=by
 have hr:=hp.r;have hs:=hp.g;have hm:=hp.m;have hck:=Lx hs;have hoV:=dZ hs.g;clear hp;have hor:=xF s (by have:=hs.ng;omega)
 have v1:=aU c;have v2:=aU sl;rw[hr.vc]at v1;rw[hr.vs]at v2;have lc:=hr.lc;have lsl:=hr.ls;have c1:=fD (a:=c) (b:=[2]) (bJ hr.vc) (.inr oC) oO oC;have c2:=fD (a:=sl) (b:=[2]) (bJ hr.vs) (.inr oC) oO oC;rw[show num ([2]:Bytes)=2 from rfl]at c1 c2
 have d1: ∀ _:True,decide (a7 (num c) 2<0)=false:=fun _=>aS (fun g=>by have:=fZ.1 g;have:=hr.c2;omega)
 have d2: ∀ _:True,decide (a7 (num sl) 2<0)=false:=fun _=>aS (fun g=>by have:=fZ.1 g;have:=hr.s2;omega)
 generalize a7 (num c) 2=cm1 at*;generalize a7 (num sl) 2=cm2 at*;have nv:=hs.nv;have hv:=hs.v;obtain⟨gs,vs,es⟩:=s;simp only at*;generalize ba gs=q at*;clear hs;have c3:=fD (a:=c) (b:=q) (bJ hr.vc) (bJ hoV.1) oO oO;have d3: ∀b∈vs,b=[]->decide (a7 (num c) (num q)>0)=false:=fun b hb h=>aS fun g=>by
  have:=hm b hb h;unfold a7 at g
  split at g
  ·omega
  ·split at g<;>omega
 generalize a7 (num c) (num q)=cm3 at*;have l2:(vs.map bO).length=vs.length:=au ..;unfold aT.pv at*;simp only at*;have hM:cH (fun b=>N (lM q c sl b)) 1:=⟨fun _=>rfl,fun _ y hy=>by cases fa.1 hy;rfl,fun _ _=>rfl,fun h=>aJ rfl h⟩
 have hR0:cH (fun b=>N (lR q c sl b)) 1:=⟨fun _=>rfl,fun _ y hy=>by cases fa.1 hy;rfl,fun _ _=>rfl,fun h=>aJ rfl h⟩
 have row1: ∀{i:Nat},i<vs.length->aP (fun b=>N (lM q c sl b)) (vs.take (i+1))=aP (fun b=>N (lM q c sl b)) (vs.take i)++[.v (N (lM q c sl (vs.getD i [])))]:=fun h=>by
  rw[aL [] h,bU];rfl
 have LF: ∀{i:Nat},i<vs.length->aP (fun b=>N (lR q c sl b)) (vs.take (i+1))=aP (fun b=>N (lR q c sl b)) (vs.take i)++[.v (N (lR q c sl (vs.getD i [])))]:=fun h=>by
  rw[aL [] h,bU];rfl
 have rn1:aP (fun b=>N (lM q c sl b)) []=[]:=rfl
 have rn2:aP (fun b=>N (lR q c sl b)) []=[]:=rfl
 have t1:=rX sl c oO oO;have s1:=pE c [1] oO oC (by have:=hr.c2;show 1<=num c;omega)
 rw[show num ([1]:Bytes)=1 from rfl]at s1
 have llim: ∀{x:Nat},x<ek->(b7 x).length<1048576:=fun h=>by have:=ov.2 h;omega
 have h64:=jM;have hnc:=ga lc;have hns:=ga lsl;have hAl:num sl*num c<ek:=bM (fT hns hnc) (by unfold ek;decide+kernel)
 have tt: ∀{b:Bytes},ae b=true->b≠[]->b.length<=16->aH 166 [N (num sl*num c), .s b] (N (qV c sl b))/\aH 167 [.s b, .s [1]] (N (num b-1))/\aH 166 [N (num c-1),N (num b-1)] (N ((num c-1)*(num b-1)))/\aH 45 [N (qV c sl b)] (.b true)/\aH 167 [N (qV c sl b),N ((num c-1)*(num b-1))] (N (OI c sl b)):=by
  intro b vb hb lb;have hb0:=ow (bJ vb) hb;have hb16:=Ge lb;have hw:=BS;have hML:=yz hr lb;have hle:=OJ (b:=b) hr;have u1:=JR (x:=num sl*num c) (y:=num b) (llim hAl) (llim oO);rw[fA vb]at u1;have u2:=pE b [1] oO oC hb0;rw[show num ([1]:Bytes)=1 from rfl]at u2
  have u3:=JR (x:=num c-1) (y:=num b-1) (llim oO) (llim oO);have u4:=aU (b7 (qV c sl b));rw[vB hML]at u4;have u5:=JO (x:=qV c sl b) (y:=(num c-1)*(num b-1)) (by have:=llim hML;omega) (by have:=llim (show(num c-1)*(num b-1)<ek by omega);omega) hle
  exact⟨u1,u2,u3,u4,u5⟩
 have tt2: ∀{b:Bytes},ae b=true->b≠[]->b.length<=16->aH 166 [N (num sl*num c), .s b] (N (lM q c sl b))/\aH 167 [.s b, .s [1]] (N (num b-1))/\aH 166 [N (num c-1),N (num b-1)] (N ((num c-1)*(num b-1)))/\aH 45 [N (lM q c sl b)] (.b true)/\aH 167 [N (lM q c sl b),N ((num c-1)*(num b-1))] (N (lR q c sl b)):=by
  intro b vb hb lb;have:=tt vb hb lb
  rwa[<-show lM q c sl b=qV c sl b by rw[lM,aa hb],<-show lR q c sl b=OI c sl b by rw[lR,aa hb]]at this
 clear tt hAl llim;refine eW call81 func81 ?_;refine Hb (aN (d1 oT) (d2 oT)) @v1 @v2 @hck @c1 @c2 @hor oT ?_;refine ah (α:=Nat) (fun i=>vs.length-i) (fun i=>⟨[(2, .p 1000 0 0),(3, .p 1001 0 0),(8, .v (.s q)),(9,E' i)],[(1000,⟨0,[.v (.s c), .v (.s sl)],false,none⟩),(1001,⟨0,[.v (.sl (gs.map cz)), .v (.sl (vs.map bO)), .v (.sl (es.map bZ.pv))],false,none⟩)],_⟩) (fun i=>i<=vs.length) 0 (fun _=>aA _) (aD _) ?_ ?_
 ·exact lE
 ·intro i hi R hR
  by_cases hlt:i<vs.length
  ·have e1:=getD_map bO vs [] hlt;have hgo:=hR (i+1) oO oO;have d3:=d3 _ (ai [] hlt);generalize vs.getD i []=x at*;clear hR;simp only[bO]at e1
   by_cases hb:x=[]
   ·have d3:=d3 hb;subst hb;exact gi (aN @l2 (aN @e1 (aN @nn @d3))) @hgo @c3
   ·have kb:(x==([]:Bytes))=false:=by simpa using hb
    exact gH (aN @l2 (aN @e1 @kb)) @hgo
  ·obtain rfl:i=vs.length:=oO;clear hR d3 c3
   by_cases hpos:0<vs.length
   rotate_left
   ·obtain rfl:vs=[]:=dt.1 oO;exact QS @l2
   refine dh @l2 ?_;refine aq ?_;have e1:=getD_map bO vs [] hpos;have r1:=row1 hpos;have r2:=LF hpos;have kk:=hv _ (ai [] hpos);have hcs:(vs.getD 0 []=[]/\N (lM q c sl (vs.getD 0 []))= .s q/\N (lR q c sl (vs.getD 0 []))= .s q)\/(vs.getD 0 []≠[]/\aH 166 [N (num sl*num c), .s (vs.getD 0 [])] (N (lM q c sl (vs.getD 0 [])))/\aH 167 [.s (vs.getD 0 []), .s [1]] (N (num (vs.getD 0 [])-1))/\aH 166 [N (num c-1),N (num (vs.getD 0 [])-1)] (N ((num c-1)*(num (vs.getD 0 [])-1)))/\aH 45 [N (lM q c sl (vs.getD 0 []))] (.b true)/\aH 167 [N (lM q c sl (vs.getD 0 [])),N ((num c-1)*(num (vs.getD 0 [])-1))] (N (lR q c sl (vs.getD 0 [])))):=by
    by_cases h:vs.getD 0 []=[]
    ·refine .inl ⟨h,?_,?_⟩
     ·rw[lM,af h];exact fA hoV.1
     ·rw[lR,af h];exact fA hoV.1
    ·exact .inr ⟨h,tt2 kk.1 h kk.2⟩
   clear kk;generalize lM q c sl (vs.getD 0 [])=A at*;generalize lR q c sl (vs.getD 0 [])=B at*;generalize vs.getD 0 []=b at*;simp only[bO]at e1;rcases hcs with⟨hb,hA,hB⟩|⟨hb,u1,u2,u3,u4,u5⟩
   rotate_left
   have kb:(b==([]:Bytes))=false:=by simpa using hb
   repeat' first|simp only[go_sem,seval,l2,e1,kb]|refine cP t1 ?_|refine cP u1 ?_|refine cP s1 ?_|refine cP u2 ?_|refine cP u3 ?_|refine cP u4 ?_|refine cP u5 ?_|refine oE ?_|apply xX<;>intro hc
   rotate_left
   rw[hA]at r1;rw[hB]at r2;have kb:(b==([]:Bytes))=true:=by simpa using hb
   repeat' first|simp only[go_sem,seval,l2,e1,kb]|refine oE ?_|apply xX<;>intro hc
   all_goals
    obtain⟨nm,hnm⟩: ∃nm,nm=(if b=[]then 1059 else 1077):=⟨_,rfl⟩
    obtain⟨nn',hnn⟩: ∃nn',nn'=(if b=[]then 1063 else 1083):=⟨_,rfl⟩
    obtain⟨nx',hnx⟩: ∃nx',nx'=(if b=[]then 1069 else 1089):=⟨_,rfl⟩
    first|rw[af hb]at hnm hnn hnx|rw[aa hb]at hnm hnn hnx
    refine ah (α:=Nat) (fun j=>vs.length-(j+1)) (fun j=>⟨[(2, .p 1000 0 0),(3, .p 1001 0 0),(8, .v (.s q)),(10, .rs nm j 0 (j+1) 1),(11, .rs nn' j 0 (j+1) 1),(12,E' (j+1))],[(1000,⟨0,[.v (.s c), .v (.s sl)],false,none⟩),(1001,⟨0,[.v (.sl (gs.map cz)), .v (.sl (vs.map bO)), .v (.sl (es.map bZ.pv))],false,none⟩),(nm,⟨j,aP (fun b=>N (lM q c sl b)) (vs.take (j+1)),true,some 22⟩),(nn',⟨j,aP (fun b=>N (lR q c sl b)) (vs.take (j+1)),true,some 22⟩)],nx'⟩) (fun j=>j+1<=vs.length) 0 (fun _=>by show _<=nx';rw[hnx];exact cd rfl) hpos ?_ ?_<;>subst hnm hnn hnx
    ·rw[eX,r1,r2,List.take_zero,rn1,rn2];exact lE
    ·first|clear u1 u2 u3 u4 u5|clear hA hB
     clear e1 kb r1 r2 hb;intro j hj R hR;have hj1:(vs.take (j+1)).length=j+1:=by rw[bQ];omega
     have q1:=bT hM (vs.take (j+1));have q2:=cf hM (vs.take (j+1));have q5:=bT hR0 (vs.take (j+1));have q6:=cf hR0 (vs.take (j+1));rw[hj1,dr]at q1 q2 q5 q6
     by_cases hlt:j+1<vs.length
     ·have hgo:=hR (j+1) oO oO;clear hR;have e1:=getD_map bO vs [] hlt;have r1:=row1 hlt;have r2:=LF hlt;have kk:=hv _ (ai [] hlt);have hcs:(vs.getD (j+1) []=[]/\N (lM q c sl (vs.getD (j+1) []))= .s q/\N (lR q c sl (vs.getD (j+1) []))= .s q)\/(vs.getD (j+1) []≠[]/\aH 166 [N (num sl*num c), .s (vs.getD (j+1) [])] (N (lM q c sl (vs.getD (j+1) [])))/\aH 167 [.s (vs.getD (j+1) []), .s [1]] (N (num (vs.getD (j+1) [])-1))/\aH 166 [N (num c-1),N (num (vs.getD (j+1) [])-1)] (N ((num c-1)*(num (vs.getD (j+1) [])-1)))/\aH 45 [N (lM q c sl (vs.getD (j+1) []))] (.b true)/\aH 167 [N (lM q c sl (vs.getD (j+1) [])),N ((num c-1)*(num (vs.getD (j+1) [])-1))] (N (lR q c sl (vs.getD (j+1) [])))):=by
       by_cases h:vs.getD (j+1) []=[]
       ·refine .inl ⟨h,?_,?_⟩
        ·rw[lM,af h];exact fA hoV.1
        ·rw[lR,af h];exact fA hoV.1
       ·exact .inr ⟨h,tt2 kk.1 h kk.2⟩
      clear kk;generalize lM q c sl (vs.getD (j+1) [])=A at*;generalize lR q c sl (vs.getD (j+1) [])=B at*;generalize vs.getD (j+1) []=b at*;simp only[bO]at e1;rcases hcs with⟨hb,hA,hB⟩|⟨hb,u1,u2,u3,u4,u5⟩
      ·rw[hA]at r1;rw[hB]at r2;rw[r1,r2]at hgo;have kb:(b==([]:Bytes))=true:=by simpa using hb
       refine dw (aN @l2 (aN @e1 (aN @kb (aN @q1 (aN @q2 (aN @q5 @q6)))))) ?_;refine hgo _ ?_
       (refine AS.Le.of (by first|decide|omega) ?_ ?_<;>simp[cU,cT,aO,az,AV.bd,AV.bd.bdL,u8,aj,ak,an])
       all_goals (refine⟨?_,?_⟩<;>(intro c hc;rcases hc with h|h<;>first|exact bj h|(subst h;rfl)))
      ·rw[r1,r2]at hgo;have kb:(b==([]:Bytes))=false:=by simpa using hb
       refine abv (aN @l2 (aN @e1 (aN @kb (aN @q1 (aN @q2 (aN @q5 @q6)))))) @t1 @u1 @s1 @u2 @u3 @u4 @u5 ?_;refine hgo _ ?_
       (refine AS.Le.of (by first|decide|omega) ?_ ?_<;>simp[cU,cT,aO,az,AV.bd,AV.bd.bdL,u8,aj,ak,an])
       all_goals (refine⟨?_,?_⟩<;>(intro c hc;rcases hc with h|h<;>first|exact bj h|(subst h;rfl)))
     ·obtain hjv:j+1=vs.length:=oO;rw[hjv,bm]at q1 q2 q5 q6;rw[hjv,bm];have q3:=dI hM vs;have q4:chunk 1 vs.length (List.flatMap (fun x=>[PV.s (b7 (lM q c sl x))]) vs)=vs.map fun b=>N (lM q c sl b):=cK hM vs
      have q7:=dI hR0 vs;have q8:chunk 1 vs.length (List.flatMap (fun x=>[PV.s (b7 (lR q c sl x))]) vs)=vs.map fun b=>N (lR q c sl b):=cK hR0 vs
      exact fz (aN @l2 (aN @q1 (aN @q2 (aN @q3 (aN @q4 (aN @q5 (aN @q6 (aN @q7 (aN @q8 @dj)))))))))
theorem TG (lc:c.length<=8) (ls:sl.length<=8) {s:aT} (hb:qH s) (hE:mq c sl s≠0):aH 81 [.agg [.s c, .s sl],s.pv] (.tup [.sl [], .sl [],E (mq c sl s)]):=by
 have hck:=CL hb;have v1:=aU c;have v2:=aU sl;have hor:=xF s (by have:=hb.ng;omega)
 have hst: ∀ _:mP s=0,ae (ba s.groups)=true/\(ba s.groups).length<=8:=fun h=>dZ (yv hb h).g
 have nv:=hb.nv;unfold mq at hE⊢;obtain⟨gs,vs,es⟩:=s;simp only at nv hor hst hE⊢;have l2:(vs.map bO).length=vs.length:=au ..
 by_cases hv:ae c=true/\ae sl=true
 case neg=>
  have hv':(ae c&&ae sl)=false:=by rw[dR];intro g;simp at g;exact hv g
  rw[hv',dW,af rfl];clear hE hst hv;generalize ae c=b1 at*;generalize ae sl=b2 at*;unfold aT.pv at*;refine eW call81 func81 ?_;exact Ut @v1 @v2
 obtain⟨vc,Vn⟩:=hv;rw[vc]at v1;rw[Vn]at v2;rw[vc,Vn]at hE⊢;rw[dF,dy,aa (by simp)]at hE⊢
 by_cases hl:mP ⟨gs,vs,es⟩=0
 case neg=>
  rw[af hl];have hb2:(mP ⟨gs,vs,es⟩ !=0)=true:=by simpa using hl
  clear hE hst;generalize mP ⟨gs,vs,es⟩=e at*;unfold aT.pv at*;refine eW call81 func81 ?_;exact ry @hb2 @v1 @v2 @hck oT
 obtain⟨vq,lq⟩:=hst hl;rw[hl]at hck;rw[aa (by simpa using hl)]at hE⊢
 clear hl hst;have c1:=fD (a:=c) (b:=[2]) (bJ vc) (.inr oC) oO oC;have c2:=fD (a:=sl) (b:=[2]) (bJ Vn) (.inr oC) oO oC;rw[show num ([2]:Bytes)=2 from rfl]at c1 c2
 have d1:=I0 (num c);have d2:=I0 (num sl);have c3:=fD (a:=c) (b:=ba gs) (bJ vc) (bJ vq) oO oO;have d3:=I1 (num c) (num (ba gs));generalize a7 (num c) 2=cm1 at*;generalize a7 (num sl) 2=cm2 at*;generalize a7 (num c) (num (ba gs))=cm3 at*
 cases hb1:decide (num c<2)with
 |true=>
  rw[hb1]at d1;rw[iI,af rfl];clear hE;unfold aT.pv at*;refine eW call81 func81 ?_;exact ry @d1 @v1 @v2 @hck @c1
 |false=>
 rw[hb1]at d1;rw[hb1,eH]at hE;rw[eH]
 cases hb2:decide (num sl<2)with
 |true=>
  rw[hb2]at d2;rw[af rfl];clear hE;unfold aT.pv at*;refine eW call81 func81 ?_;exact Uq (aN @d1 @d2) @v1 @v2 @hck @c1 @c2 oT oT
 |false=>
 rw[hb2]at d2;rw[hb2,aa (by simp)]at hE
 rw[aa (by simp)]
 have hE:(vs.any fun b=>b==[])=true/\decide (num (ba gs)<num c)=true:=by
  by_cases h:((vs.any fun b=>b==[])&&decide (num (ba gs)<num c))=true
  ·simpa using h
  ·rw[aa h]at hE;exact aJ rfl hE
 obtain⟨ha,hd⟩:=hE;rw[ha,hd,dF,af rfl];rw[hd]at d3;generalize ba gs=q at*;clear hb1 hb2 hd vq lq;unfold aT.pv at*;simp only at*;refine eW call81 func81 ?_;refine Hb (aN @d1 @d2) @v1 @v2 @hck @c1 @c2 @hor oT ?_;refine ah (α:=Nat) (fun i=>vs.length-i) (fun i=>⟨[(2, .p 1000 0 0),(3, .p 1001 0 0),(8, .v (.s q)),(9,E' i)],[(1000,⟨0,[.v (.s c), .v (.s sl)],false,none⟩),(1001,⟨0,[.v (.sl (gs.map cz)), .v (.sl (vs.map bO)), .v (.sl (es.map bZ.pv))],false,none⟩)],_⟩) (fun i=>i<=vs.length/\((vs.drop i).any fun b=>b==[])=true) 0 (fun _=>aA _) ⟨aD _,ha⟩ ?_ ?_
 ·exact lE
 ·rintro i ⟨hi,hx⟩ R hR
  by_cases hlt:i<vs.length
  ·have e1:=getD_map bO vs [] hlt;have hgo:=fun h=>hR (i+1) ⟨oO,h⟩ oO
   rw[aE [] hlt,List.any_cons]at hx;clear hR;generalize vs.getD i []=b at*;simp only[bO]at e1
   by_cases hb:b=[]
   ·subst hb;exact iE (aN @l2 (aN @e1 (aN @nn @d3))) @c3
   ·have hb0:(b==([]:Bytes))=false:=by simpa using hb
    rw[hb0,eH]at hx;refine dw (aN @l2 (aN @e1 @hb0)) ?_;refine hgo hx _ ?_;exact lE
  ·obtain rfl:i=vs.length:=oO;rw[bw]at hx;cases hx
theorem aaH (G:List Gt) (f n c:Nat) (h:(L8 G f n c).2.2=true):n<=(L8 G f n c).1/\(n<=G.length->(L8 G f n c).1<=G.length)/\(L8 G f n c).2.1+n<=c+(L8 G f n c).1:=by
 have h1:=Bt G f n c;rw[<-Qd]at h1;unfold Yu at h1;rw[af h]at h1;have h2:=Eo G f n n c;have h3:=qj G f n n c;have h4:=yG G f n n c;generalize eN G f n n c=x at*;obtain⟨ok,a,b⟩:=x;cases ok
 ·cases h1
 ·simp only[Q3,aC,ar,eJ]at h1;obtain⟨e1,e2⟩:=h1;simp only at h2 h3 h4;rw[<-e1,<-e2];exact⟨h2,h3,h4⟩
def shP (x:Nat×Nat×Bool):PV:= .tup [E x.1,E x.2.1, .b x.2.2]
theorem LG {G:List Gt} (hl:G.length<1000000) (hb: ∀g∈G,g.kids.length<1000000): ∀(f n c:Nat),G.length<n+f->n<=1000000->c<=n->aH 171 [E6 G,E n,E c] (shP (L8 G f n c)):=by
 have l1:(G.map Gt.pv).length=G.length:=au ..;intro f
 induction f with
 |zero=>
  intro n c h1 h2 h3;have hd:decide ((n:Int)>=(G.length:Int))=true:=aQ oO;refine eW call171 func171 ?_;exact fz (aN @l1 @hd)
 |succ f ih=>
  intro n c hf hn hc;rw[L8]
  by_cases h1:G.length<=n
  ·rw[af h1];clear ih;have hd:decide ((n:Int)>=(G.length:Int))=true:=aQ oO;refine eW call171 func171 ?_;exact fz (aN @l1 @hd)
  rw[aa h1];have hlt:n<G.length:=oO;have hd:decide ((n:Int)>=(G.length:Int))=false:=aS oO;have e1:=getD_map Gt.pv G eC hlt;have hkl:=hb _ (ai eC hlt);obtain⟨g,hg⟩: ∃g,g=G.getD n eC:=⟨_,rfl⟩;rw[<-hg]at e1 hkl⊢;clear hg h1;obtain⟨need,kids,leaf⟩:=g;have l2:(kids.map rB).length=kids.length:=au ..;simp only[Gt.pv]at e1;simp only at hkl⊢
  by_cases hk:kids=[]
  ·subst hk;rw[af rfl];clear ih;have x1:(need==0)=decide (need=0):=by rw[cu];simp
   have x2:(leaf==(c:Int))=decide (leaf=(c:Int)):=by rw[cu];simp
   unfold shP;simp only;generalize decide (need=0)=y1 at*;generalize decide (leaf=(c:Int))=y2 at*;refine eW call171 func171 ?_;repeat' first|simp only[go_sem,seval,l1,hd,e1,x1,x2]|refine oE ?_|apply xX<;>intro hc
   all_goals first|rfl|(cases y1<;>simp_all)
  rw[aa hk];have hkp: ∀ _:True,((kids.length:Int)==0)=false:=fun _=>by
   rw[du];intro h;exact hk (dt.1 oO)
  by_cases h2:need<1\/need>kids.length\/leaf≠0
  ·rw[af h2];clear ih
   by_cases y1:need<1
   ·refine eW call171 func171 ?_;exact fz (aN @l1 (aN @l2 (aN @hd (aN @e1 (hkp oT)))))
   by_cases y2:need>kids.length
   ·refine eW call171 func171 ?_;exact fz (aN @l1 (aN @l2 (aN @hd (aN @e1 (hkp oT)))))
   ·have y3:leaf≠0:=(h2.resolve_left y1).resolve_left y2;have y3:(leaf !=0)=true:=bne_iff_ne.2 y3;refine eW call171 func171 ?_;exact fz (aN @l1 (aN @l2 (aN @hd (aN @e1 (aN (hkp oT) @y3)))))
  rw[aa h2];have y1: ¬need<1:=fun h=>h2 (.inl h)
  have y2: ¬need>kids.length:=fun h=>h2 (.inr (.inl h))
  have y3:(leaf !=0)=false:=by rw[bne_eq_false_iff_eq];exact Classical.byContradiction fun h=>h2 (.inr (.inr h))
  refine eW call171 func171 ?_;refine dw (aN @l1 (aN @l2 (aN @hd (aN @e1 (aN (hkp oT) @y3))))) ?_;have hbd:=aaH G f;obtain⟨v,hv⟩: ∃v,v=L8 G f:=⟨_,rfl⟩;rw[<-hv]at ih hbd⊢;obtain⟨r,hr⟩: ∃r,r=FY v kids (n+1) c:=⟨_,rfl⟩;rw[<-hr];refine ah (α:=Nat×Nat×Nat) (fun x=>kids.length-x.1) (fun x=>⟨[(2,E' x.2.2),(3, .p 1000 0 0),(9, .p 1014 0 0),(10,E' x.2.1),(11,E' x.1)],[(1000,⟨0,[.v (.sl (G.map Gt.pv))],false,none⟩),(1014,⟨0,[.v (E need), .v (.sl (kids.map rB)), .v (E leaf)],false,some 174⟩)],_⟩) (fun x=>x.1<=kids.length/\n+1<=x.2.1/\x.2.1<=G.length/\x.2.2<=x.2.1/\FY v (kids.drop x.1) x.2.1 x.2.2=r) (0,n+1,c) (fun _=>aA _) ⟨aD _,aA _,by simp only;omega,by simp only;omega,hr.symm⟩ ?_ ?_
  ·exact lE
  ·rintro⟨j,n',c'⟩ ⟨hj,hn1,hn2,hc2,hx⟩ R hR;simp only at hj hn1 hn2 hc2 hx
   by_cases hlt2:j<kids.length
   ·have e2:=getD_map rB kids 0 hlt2;rw[aE 0 hlt2,FY]at hx;generalize kids.getD j 0=k at*;simp only[rB]at e2
    by_cases hkn:k=n'
    ·rw[aa (by simpa using hkn)]at hx
     subst hkn;have e3:((n':Int) !=(n':Int))=false:=iz _;have hih:=ih n' c' oO oO hc2;have hb2:=hbd n' c';generalize v n' c'=w at*;obtain⟨n2,c2,ok⟩:=w;simp only[shP]at hx hih hb2;cases ok
     ·simp only[cE,aB]at hx;subst hx;clear hR ih hbd hr;exact iE (aN @l2 (aN @e2 @e3)) @hih
     ·simp only[aC]at hx;obtain⟨b1,b2,b3⟩:=hb2 rfl;have b2:=b2 hn2;have hgo:=hR (j+1,n2,c2) ⟨by simp only;omega,by simp only;omega,by simp only;omega,by simp only;omega,hx⟩ (by simp only;omega)
      simp only at hgo;clear hR ih hbd hr;exact gi (aN @l2 (aN @e2 @e3)) @hgo @hih
    ·rw[af (by simpa using hkn)]at hx
     subst hx;have e3:(k !=(n':Int))=true:=bne_iff_ne.2 hkn;clear hR ih hbd hr;exact fz (aN @l2 (aN @e2 @e3))
   ·obtain rfl:j=kids.length:=oO;rw[bw,FY]at hx;subst hx;clear hR ih hbd hr;exact fz @l2
theorem Gw {G:List Gt} (hl:G.length<=512) (hb: ∀g∈G,g.kids.length<1000000): ∃c,aH 86 [E6 G] (.tup [E c, .b (DI G).isSome])/\ ∀x,DI G=some x->c=x:=by
 have l1:(G.map Gt.pv).length=G.length:=au ..;unfold DI
 by_cases h:G=[]
 ·subst h;refine⟨0,?_,fun x hx=>by injection hx with hx;rw[<-hx];rfl⟩
  rw[af rfl];refine eW call86 func86 ?_;exact z0
 rw[aa h];have hz: ∀ _:True,((G.length:Int)==0)=false:=fun _=>by
  rw[du];intro e;exact h (dt.1 oO)
 have hs:=LG oO hb (G.length+1) 0 0 oO (aD _) (aA _);rw[<-Qd];generalize L8 G (G.length+1) 0 0=r at*;obtain⟨n,c,ok⟩:=r;unfold shP at hs;simp only at hs;refine⟨c,?_,fun x hx=> ?_⟩
 ·have x1:((n:Int)==(G.length:Int))=decide (n=G.length):=by rw[cu,fK,a8];omega
  have x2:decide ((c:Int)<=256)=decide (c<=256):=by rw[fk];omega
  cases ok
  ·show aH 86 [E6 G] (.tup [E c, .b false]);refine eW call86 func86 ?_;exact iE (aN @l1 (aN (hz oT) (aN @x1 @x2))) @hs
  ·show aH 86 [E6 G] (.tup [E c, .b (if n=G.length/\c<=256 then some c else none).isSome])
   have e:(if n=G.length/\c<=256 then some c else none).isSome=(decide (n=G.length)&&decide (c<=256)):=by
    by_cases h1:n=G.length<;>by_cases h2:c<=256<;>simp[h1,h2]
   rw[e];generalize decide (n=G.length)=y1 at*;generalize decide (c<=256)=y2 at*;refine eW call86 func86 ?_;repeat' first|simp only[go_sem,seval,l1,hz oT,x1,x2]|refine cP hs ?_|refine oE ?_|apply xX<;>intro hc
   all_goals (clear x1 x2;subst_vars;rfl)
 ·cases ok
  ·cases hx
  ·simp only[Yu,aC]at hx
   split at hx
   ·injection hx with hx
    rw[hx]
   ·cases hx
theorem Lz {G:List Gt} (hl:G.length<=512) (hb: ∀g∈G,g.kids.length<1000000) (n:Int):aH 168 [E6 G,E n] (E (xT G n)):=by
 have l1:(G.map Gt.pv).length=G.length:=au ..;obtain⟨c,hv,hc⟩:=Gw hl hb;unfold xT
 by_cases h1:(512:Int)<G.length\/n<0\/256<n
 ·rw[af h1]
  by_cases a1:(512:Int)<G.length
  ·omega
  by_cases a2:n<0
  ·refine eW call168 func168 ?_;exact fz @l1
  ·have a3:n>256:=(h1.resolve_left a1).resolve_left a2;refine eW call168 func168 ?_;exact fz @l1
 rw[aa h1];have a2: ¬n<0:=fun h=>h1 (.inr (.inl h))
 have a3: ¬n>256:=fun h=>h1 (.inr (.inr h))
 cases hL:DI G with
 |none=>
  rw[hL]at hv;simp only[Option.isSome_none]at hv⊢;refine eW call168 func168 ?_;exact iE @l1 @hv
 |some x=>
  obtain rfl:=hc x hL;rw[hL]at hv;simp only[Option.isSome_some]at hv⊢
  by_cases hcn:(x:Int)=n
  ·rw[af hcn];have e:((x:Int) !=n)=false:=by rw[hcn];exact iz _
   refine eW call168 func168 ?_;exact iE (aN @l1 @e) @hv
  ·rw[aa hcn];have e:((x:Int) !=n)=true:=bne_iff_ne.2 hcn;refine eW call168 func168 ?_;exact iE (aN @l1 @e) @hv
theorem Js {v:Int->Nat->Nat->Bool×Nat×Nat} (hv: ∀k n c,(v k n c).1=true->c+1<=(v k n c).2.2): ∀(l:List Int) (n c:Nat),(ix v l n c).1=true->c+min l.length 1<=(ix v l n c).2.2
 |[],n,c,_=>aA _
 |k::r,n,c,h=>by
  rw[ix]at h⊢
  by_cases h1:(v k n c).1=true
  ·rw[af h1]at h⊢;have a:=hv k n c h1;have b:=Js hv r _ _ h;simp only[List.length_cons];omega
  ·rw[aa h1]at h;cases h
theorem J3 (G:List Gt): ∀(f:Nat) (k:Int) (n c:Nat),(eN G f k n c).1=true->c+1<=(eN G f k n c).2.2
 |0,_,n,c,h=>by cases h
 |f+1,k,n,c,h=>by
  rw[eN]at h⊢
  split at h
  ·cases h
  ·rename_i h1;rw[aa h1]
   split at h
   ·rename_i h2;rw[af h2];exact aA _
   ·rename_i h2;rw[aa h2]
    split at h
    ·cases h
    ·rename_i h3;rw[aa h3];have:=Js (J3 G f) _ _ _ h;have hl:0<(G.getD n eC).kids.length:=gF.2 h2;omega
theorem NO {G:List Gt} (h:xT G 0=0):G=[]:=by
 unfold xT at h
 split at h
 ·cases h
 ·by_cases hg:G=[]
  ·exact hg
  ·exfalso
   unfold DI at h;rw[aa hg,<-Bt]at h;have hl:=J3 G (G.length+1) ((0:Nat):Int) 0 0;generalize eN G (G.length+1) ((0:Nat):Int) 0 0=x at*;obtain⟨ok,n,c⟩:=x;cases ok
   ·cases h
   ·have hl:=hl rfl;simp only[Q3,aC]at h hl
    split at h
    ·cases h
    ·rename_i y hy
     split at hy
     ·injection hy with hy
      subst hy
      split at h
      ·rename_i h0;omega
      ·cases h
     ·cases hy
theorem Gl: ∀{ls:List aT},(∀s∈ls,qH s)->(bY ls).length<=8
 |[],_=>aD _
 |s::r,h=>by
  unfold bY;have hg:=(h s mS).g;have hr:=Gl (ls:=r) fun x hx=>h x (ju _ hx)
  split
  ·exact hr
  ·rename_i g gs he;exact(hg g (by rw[he];exact mS)).2
theorem iY {ls:List aT} {G:List Gt} (hl:ls.length<1000000) (hb: ∀s∈ls,qH s):aH 47 [.agg [.sl (ls.map aT.pv), .sl (G.map Gt.pv)]] (.s (bY ls)):=by
 have l1:(ls.map aT.pv).length=ls.length:=au ..;refine eW call47 func47 ?_;refine dh @l1 ?_;refine ah (α:=Nat) (fun i=>ls.length-i) (fun i=>⟨[(1, .p 1000 0 0),(3,E' i)],[(1000,⟨0,[.v (.sl (ls.map aT.pv)), .v (.sl (G.map Gt.pv))],false,none⟩)],_⟩) (fun i=>i<=ls.length/\bY (ls.drop i)=bY ls) 0 (fun _=>aA _) ⟨aD _,rfl⟩ ?_ ?_
 ·exact lE
 ·rintro i ⟨hi,ho⟩ R hR
  by_cases hit:i<ls.length
  ·have e2:=getD_map aT.pv ls cC hit;have hgo:=fun h=>hR (i+1) ⟨oO,h⟩ oO
   rw[aE cC hit]at ho;obtain⟨s,hs⟩: ∃s,s=ls.getD i cC:=⟨_,rfl⟩;rw[<-hs]at e2 ho;clear hs hR hb;obtain⟨gs,vs,es⟩:=s;have l2:(gs.map cz).length=gs.length:=au ..;simp only[aT.pv]at e2
   cases gs with
   |nil=>
    simp only[bY]at ho;simp only[cb]at e2;refine Vq (aN @l1 @e2) ?_;refine hgo ho _ ?_;exact lE
   |cons g r=>
    obtain⟨m,o⟩:=g;simp only[bY]at ho;rw[<-ho];have hp: ∀ _:True,(0:Int)<((r.length+1:Nat):Int):=fun _=>oO
    have l3:(r.map cz).length=r.length:=au ..;simp only[b8,cz]at e2;clear hgo l2;exact QS (aN @l1 (aN @l3 (aN @e2 (hp oT))))
  ·obtain rfl:i=ls.length:=oO;rw[bw]at ho;rw[<-ho];exact fz @l1
theorem Ly {c:ik} (hc:QW c) (h5:c.gates.length<=512):aH 82 [c.pv] (E (kX c)):=by
 obtain⟨nl,-,hs,hk⟩:=hc;obtain⟨ls,G⟩:=c;have hnil:ls=[]->xT G (ls.length:Int)=0->G=[]:=fun h h0=>by
  subst h;exact NO h0
 unfold ik.pv kX;simp only at nl h5 hs hk⊢;have l1:(ls.map aT.pv).length=ls.length:=au ..;have l2:(G.map Gt.pv).length=G.length:=au ..;have c1:=Lz h5 hk (ls.length:Int);have c2:=iY (ls:=ls) (G:=G) oO hs;have c4:aH 169 [.s (bY ls)] (.tup [.b (ae (bY ls)&&decide ((bY ls).length<=8)&&ia (num (bY ls))),E (fq (bY ls))]):=by
  unfold fq;exact Yd _ (by have:=Gl hs;omega)
 have hpv:fq (bY ls)=0->ae (bY ls)=true/\(bY ls).length<=8:=AT;generalize xT G (ls.length:Int)=fe at*
 by_cases hf:fe=0
 case neg=>
  rw[af hf];have hb1:(fe !=0)=true:=by simpa using hf
  refine eW call82 func82 ?_;exact iE (aN @l1 @hb1) @c1
 subst hf;rw[aa (by simp)]
 by_cases h0:ls=[]
 ·subst h0;obtain rfl:=hnil rfl rfl;simp only[uI,ne_eq,qw,aB,aC,cb]at*;refine eW call82 func82 ?_;exact YK @c1 @c2
 have hz: ∀ _:True,(0:Int)<(ls.length:Int):=fun _=>by
  have:=gF.2 h0;omega
 refine eW call82 func82 ?_;refine jA @l1 @c1 ?_;refine ah (α:=Nat) (fun i=>ls.length-i) (fun i=>⟨[(1, .p 1000 0 0),(4,E' i)],[(1000,⟨0,[.v (.sl (ls.map aT.pv)), .v (.sl (G.map Gt.pv))],false,none⟩)],_⟩) (fun i=>i<=ls.length/\uI (ls.drop i)=uI ls) 0 (fun _=>aA _) ⟨aD _,rfl⟩ ?_ ?_
 ·exact lE
 ·rintro i ⟨hi,ho⟩ R hR
  by_cases hit:i<ls.length
  ·have e2:=getD_map aT.pv ls cC hit;have c5:=CL (hs _ (ai cC hit));have hgo:=fun h=>hR (i+1) ⟨oO,h⟩ oO
   rw[aE cC hit]at ho;obtain⟨s,hss⟩: ∃s,s=ls.getD i cC:=⟨_,rfl⟩;rw[<-hss]at e2 ho c5;clear hss hR c1 c2 c4 hpv;rw[uI]at ho;generalize mP s=se at*;obtain⟨gs,vs,es⟩:=s;simp only[aT.pv]at e2 c5
   by_cases h0:se=0
   ·subst h0;rw[aa (by simp)]at ho
    refine gR (aN @l1 @e2) @c5 ?_;refine hgo ho _ ?_;exact lE
   ·rw[af h0]at ho;have hb1:(se !=0)=true:=by simpa using h0
    subst ho;rw[af h0];exact iE (aN @l1 (aN @e2 @hb1)) @c5
  ·obtain rfl:i=ls.length:=oO;rw[bw,uI]at ho;rw[<-ho,aa (by simp)]
   clear hR ho;rw[aa h0];generalize bY ls=q at*;refine jA @l1 @c2 ?_;refine ah (α:=Nat) (fun i=>ls.length-i) (fun i=>⟨[(1, .p 1000 0 0),(6, .v (.s q)),(7,E' i)],[(1000,⟨0,[.v (.sl (ls.map aT.pv)), .v (.sl (G.map Gt.pv))],false,none⟩)],_⟩) (fun i=>i<=ls.length/\(ls.drop i).any (ud q)=ls.any (ud q)) 0 (fun _=>aA _) ⟨aD _,rfl⟩ ?_ ?_
   ·exact lE
   ·rintro i ⟨hi,ho⟩ R hR;rw[<-ho]
    by_cases hit:i<ls.length
    ·have e2:=getD_map aT.pv ls cC hit;have hsz:=hs _ (ai cC hit);have hgo:=fun h=>hR (i+1) ⟨oO,h⟩ oO
     rw[<-ho]at hgo;rw[aE cC hit,List.any_cons]at hgo⊢;obtain⟨s,hss⟩: ∃s,s=ls.getD i cC:=⟨_,rfl⟩;rw[<-hss]at e2 hsz hgo⊢;clear hss hR ho hs c1 c2 hpv;obtain⟨gs,vs,es⟩:=s;have l3:(gs.map cz).length=gs.length:=au ..;have l4:(vs.map bO).length=vs.length:=au ..;simp only[aT.pv]at e2;have nvb:=hsz.nv;have ngb:=hsz.ng;simp only at nvb ngb;have hbk:ud q ⟨gs,vs,es⟩=((decide (gs.length=0)||vs.any fun b=> !(b==[]))||gs.any (BM q)):=rfl
     rw[hbk]at hgo⊢;refine dh (aN @l1 @e2) ?_;refine ah (α:=Nat) (fun k=>vs.length-k) (fun k=>⟨[(1, .p 1000 0 0),(6, .v (.s q)),(7,E' i),(8, .p 1031 0 0),(9,E' k)],[(1000,⟨0,[.v (.sl (ls.map aT.pv)), .v (.sl (G.map Gt.pv))],false,none⟩),(1031,⟨0,[.v (.sl (gs.map cz)), .v (.sl (vs.map bO)), .v (.sl (es.map bZ.pv))],false,some 29⟩)],_⟩) (fun k=>k<=vs.length/\((vs.drop k).any fun b=> !(b==[]))=vs.any fun b=> !(b==[])) 0 (fun _=>aA _) ⟨aD _,rfl⟩ ?_ ?_
     ·exact lE
     ·rintro k ⟨hk1,hv⟩ R2 hR2;rw[<-hv]at hgo⊢
      by_cases hkt:k<vs.length
      ·have e3:=getD_map bO vs ([]:Bytes) hkt;have hgo2:=fun h=>hR2 (k+1) ⟨oO,h⟩ oO
       rw[<-hv]at hgo2;rw[aE ([]:Bytes) hkt,List.any_cons]at hgo2⊢;clear hgo hR2 hv hbk;generalize vs.getD k []=y at*;simp only[bO]at e3
       by_cases hy:y=[]
       ·subst hy;simp only[nn,dy,eH]at hgo2⊢;have hgo2:=hgo2 oT;exact gH (aN @l4 (aN @e3 @nn)) @hgo2
       ·have hb:(y==([]:Bytes))=false:=by simpa using hy
        have hb2:(y !=([]:Bytes))=true:=by simpa using hy
        simp only[hb,dW,iI,vw,aC];exact fz (aN @l4 (aN @e3 @hb))
      ·obtain rfl:k=vs.length:=oO;rw[bw,List.any_nil,vC]at hgo⊢;clear hR2 hv hbk
       by_cases hg0:gs=[]
       ·subst hg0;simp only[List.length_nil,decide_true,iI,aC,cb]at*;exact fz @l4
       have hgz: ∀ _:True,((gs.length:Int)==0)=false:=fun _=>by
        rw[du];intro e;exact hg0 (dt.1 oO)
       rw[aS (fun h=>hg0 (dt.1 h)),eH]at hgo⊢
       refine dh (aN @l3 (aN @l4 (hgz oT))) ?_;refine ah (α:=Nat) (fun k=>gs.length-k) (fun k=>⟨[(1, .p 1000 0 0),(6, .v (.s q)),(7,E' i),(8, .p 1031 0 0),(10,E' k)],[(1000,⟨0,[.v (.sl (ls.map aT.pv)), .v (.sl (G.map Gt.pv))],false,none⟩),(1031,⟨0,[.v (.sl (gs.map cz)), .v (.sl (vs.map bO)), .v (.sl (es.map bZ.pv))],false,some 29⟩)],_⟩) (fun k=>k<=gs.length/\(gs.drop k).any (BM q)=gs.any (BM q)) 0 (fun _=>aA _) ⟨aD _,rfl⟩ ?_ ?_
       ·exact lE
       ·rintro k ⟨hk1,hv⟩ R2 hR2;rw[<-hv]at hgo⊢
        by_cases hkt:k<gs.length
        ·have e3:=getD_map cz gs dL hkt;have hgo2:=fun h=>hR2 (k+1) ⟨oO,h⟩ oO
         rw[<-hv]at hgo2;rw[aE dL hkt,List.any_cons]at hgo2⊢;clear hgo hR2 hv;obtain⟨z,hzz⟩: ∃z,z=gs.getD k dL:=⟨_,rfl⟩;rw[<-hzz]at e3 hgo2⊢;clear hzz;obtain⟨m,o⟩:=z;simp only[cz]at e3;have hod:BM q (m,o)=(o==[]|| !(o==q)):=rfl;rw[hod]at hgo2⊢
         by_cases ho:o=[]
         ·subst ho;simp only[nn,iI,aC];exact fz (aN @l3 (aN @e3 @nn))
         ·have hb:(o==([]:Bytes))=false:=by simpa using ho
          by_cases hq2:o=q
          ·subst hq2;have hs2:=eY o;simp only[hb,hs2,dy,eH]at hgo2⊢;have hgo2:=hgo2 oT;repeat' first|simp only[go_sem,seval,l3,e3,hb,hs2,bne]|refine oE ?_|apply xX<;>intro hc
           refine hgo2 _ ?_;exact lE
          ·have hb3:(o==q)=false:=by simpa using hq2
           simp only[hb,hb3,dW,vw,iI,aC];repeat' first|simp only[go_sem,seval,l3,e3,hb,hb3,bne]|refine oE ?_|apply xX<;>intro hc
           all_goals rfl
        ·obtain rfl:k=gs.length:=oO;rw[bw,List.any_nil,eH]at hgo⊢;have hgo:=hgo rfl;clear hR2 hv;exact gH @l3 @hgo
    ·obtain rfl:i=ls.length:=oO;rw[bw,List.any_nil,aa (by simp)]
     clear hR ho hs;have hzt:((ls.length:Int)>0)=True:=eq_true (hz oT)
     by_cases hpe:fq q=0
     case neg=>
      rw[af hpe];generalize fq q=pe at*;have hb1:(pe !=0)=true:=by simpa using hpe
      exact iE (aN @l1 (aN @hzt @hb1)) @c4
     obtain⟨vq,lq⟩:=hpv hpe;rw[hpe,vq,aQ lq,bE,bE]at c4;rw[aa (by simpa using hpe)]
     have hqn:=ga lq
     cases hM:ia (num q)
     ·rw[hM]at c4;rw[af (show(!false)=true from rfl)]
      exact iE (aN @l1 @hzt) @c4
     rw[hM]at c4;rw[aa (by simp)]
     refine jA (aN @l1 (aN @l2 @hzt)) @c4 ?_;refine ah (α:=Nat) (fun j=>G.length-j) (fun j=>⟨[(1, .p 1000 0 0),(6, .v (.s q)),(13,E' j)],[(1000,⟨0,[.v (.sl (ls.map aT.pv)), .v (.sl (G.map Gt.pv))],false,none⟩)],_⟩) (fun j=>j<=G.length/\(G.drop j).all (HF q)=G.all (HF q)) 0 (fun _=>aA _) ⟨aD _,rfl⟩ ?_ ?_
     ·exact lE
     ·rintro j ⟨hj,ha⟩ R hR;rw[<-ha]
      by_cases hjt:j<G.length
      ·have e2:=getD_map Gt.pv G eC hjt;have hkl:=hk _ (ai eC hjt);have hgo:=fun h=>hR (j+1) ⟨oO,h⟩ oO
       rw[<-ha]at hgo;rw[aE eC hjt,List.all_cons]at hgo⊢;obtain⟨g,hg⟩: ∃g,g=G.getD j eC:=⟨_,rfl⟩;rw[<-hg]at e2 hkl hgo⊢;clear hg hR ha c1 c2 c4;obtain⟨need,kids,leaf⟩:=g;have l3:(kids.map rB).length=kids.length:=au ..;simp only[Gt.pv]at e2;simp only[HF]at hkl hgo⊢;have w64:=jM;have c6:=nN kids.length oO;have c7:=DW (x:=kids.length) (y:=num q) (eR ((lQ (k:=8)).2 (j5 hkl oC)) oC) (eR ((lQ (k:=8)).2 hqn) oC);rw[fA vq]at c7;have x1:decide (a7 kids.length (num q)>=0)= !decide (kids.length<num q):=WQ kids.length (num q);generalize a7 kids.length (num q)=cm at*
       by_cases hbk:kids.length<num q
       ·simp only[aQ hbk,bE,dy]at hgo x1⊢;have hgo:=hgo oT;clear hbk;exact yd (aN @l2 (aN @l3 (aN @e2 @x1))) @hgo @c6 @c7
       ·simp only[aS hbk,br,dW,cE,aB]at x1⊢;clear hgo hbk;exact vV (aN @l2 (aN @l3 (aN @e2 @x1))) @c6 @c7
      ·obtain rfl:j=G.length:=oO;rw[bw];exact fz @l2
theorem CP (lc:c.length<=8) (ls:sl.length<=8) {s:aT} (hb:qH s) {cl:ik} (hc:QW cl) (h5:cl.gates.length<=512):aH 35 [.agg [.s c, .s sl],s.pv,cl.pv] (E (ij c sl s cl)):=by
 unfold ij
 by_cases hE:mq c sl s=0
 case neg=>
  have h1:=TG lc ls hb hE;rw[af hE];generalize mq c sl s=e at*;have hb1:(e !=0)=true:=by simpa using hE
  unfold aT.pv ik.pv at*;refine eW call35 func35 ?_;exact iE @hb1 @h1
 have h1:=A7 (rD lc ls hb hE);rw[aa (by simpa using hE)]
 have h2:=Ly hc h5;have vc:=Hv hE;generalize (s.vars.map fun b=>N (lM (ba s.groups) c sl b))=B1 at*
 generalize (s.vars.map fun b=>N (lR (ba s.groups) c sl b))=B2 at*
 by_cases hC:kX cl=0
 case neg=>
  rw[af hC];generalize kX cl=e at*;have hb1:(e !=0)=true:=by simpa using hC
  unfold aT.pv ik.pv at*;refine eW call35 func35 ?_;exact vV @hb1 @h1 @h2
 rw[aa (by simpa using hC)]
 have h3:=Hy hC;have h4:=iY (ls:=cl.leaves) (G:=cl.gates) (by have:=hc.nl;omega) hc.s
 rw[hC]at h2;clear hE hC hc hb h5;obtain⟨lv,G⟩:=cl;simp only at h3 h4⊢;have l1:(lv.map aT.pv).length=lv.length:=au ..
 by_cases h0:lv=[]
 ·subst h0;rw[af rfl];unfold aT.pv ik.pv at*;simp only[cb]at*;refine eW call35 func35 ?_;exact z4 @h1 @h2 @h4 oT
 obtain⟨vq,-,-⟩:=h3 h0;rw[aa h0];have hz:(((lv.length:Nat):Int)>0)=True:=eq_true (by have:=gF.2 h0;omega)
 have c1:=jL c (bY lv);rw[vc,vq,dF,af rfl]at c1;have x1:=I1 (num c) (num (bY lv));clear h3 h0;unfold ik.pv at h2⊢;generalize bY lv=o at*;unfold aT.pv at*
 by_cases hlt:num o<num c
 ·rw[af hlt];rw[aQ hlt]at x1;generalize a7 (num c) (num o)=cm at*;refine eW call35 func35 ?_;exact ry (aN @l1 (aN @hz @x1)) @h1 @h2 @h4 @c1
 ·rw[aa hlt];rw[aS hlt]at x1;generalize a7 (num c) (num o)=cm at*;refine eW call35 func35 ?_;exact ry (aN @l1 (aN @hz @x1)) @h1 @h2 @h4 @c1
theorem H0 {s:aT} (hp:xQ c sl s) (h0:s.vars≠[]) (h00:s.eqs≠[]) (h1:rs.length<1000000) (hf:iT c s.vars.length ch rs [] []=0) (hi:cG (ba s.groups) c sl s.vars ch rs≠0):
  aH 43 [X0 c sl s,kC ch rs [] []] (.tup [Ke,B0,E (cG (ba s.groups) c sl s.vars ch rs)]):=by
 have hfo:=yp (c:=c) (sl:=sl) hp.r.vc s ch rs [] [] h1 (by simp) (by simp) (by simp)
 rw[hf]at hfo;have hfi:=D4 hp h00 (ch:=ch) (l:=rs) h1;have hl:jB c sl s ch rs=[]:=by unfold jB;rw[aa hi]
 rw[hl]at hfi;have hb:(cG (ba s.groups) c sl s.vars ch rs==0)=false:=by simpa using hi
 generalize cG (ba s.groups) c sl s.vars ch rs=e at*;obtain⟨gq,vs,es⟩:=s;simp only[X0,kC,aT.pv]at hfo hfi⊢;refine eW call43 func43 ?_;repeat' first|simp only[go_sem,seval,hb]|refine cP hfo ?_|refine cP hfi ?_|refine oE ?_|apply xX<;>intro hc
 all_goals skip
theorem H2 {s:aT} (hp:xQ c sl s) (h0:s.vars≠[]) (h00:s.eqs≠[]) (h1:rs.length<1000000) (hf:iT c s.vars.length ch rs [] []=0) (hi:cG (ba s.groups) c sl s.vars ch rs=0):
  aH 43 [X0 c sl s,kC ch rs [] []] (.tup [.agg [.sl (s.eqs.map fun q=>N (fo s.groups ch rs q)), .s ch, .sl (rs.map ca)],B0,E 0]):=by
 have hfo:=yp (c:=c) (sl:=sl) hp.r.vc s ch rs [] [] h1 (by simp) (by simp) (by simp)
 rw[hf]at hfo;have hfi:=D4 hp h00 (ch:=ch) (l:=rs) h1;have hl:jB c sl s ch rs=s.eqs.map fun q=>N (fo s.groups ch rs q):=by unfold jB;rw[af hi]
 rw[hl,hi]at hfi;have hrs:rs≠[]:=by
  intro h;subst h;unfold iT at hf;have hv:([]:List (Bool×Bytes)).length≠s.vars.length:=by
   intro h;exact h0 (dt.1 h.symm)
  split at hf
  ·exact aJ hf oC
  ·rw[af (.inl hv)]at hf;exact aJ hf oC
 have hcl:=vY hrs h1;have hcn:=C9;generalize (s.eqs.map fun q=>N (fo s.groups ch rs q))=fl at*
 obtain⟨gq,vs,es⟩:=s;simp only[X0,kC,aT.pv,cb]at hfo hfi⊢;refine eW call43 func43 ?_;exact zu4 @hfo @hfi @hcl @hcn
theorem Ny {s:aT} (hp:xQ c sl s) (hb:YM s) (h00:s.eqs≠[]) {ctx:Bytes} (hx:ctx.length<=100000) {gs:List Bytes} {ls:List (List (Bool×Bytes))} (h1:rs.length<1000000) (h2:gs.length<=1000) (h3:ls.length<=1000) (h4: ∀l∈ls,l.length<4611686018427387904):
  aH 13 [.agg [.s c, .s sl], .s ctx,s.pv,C0,kC ch rs gs ls] (E (BR c sl ctx s ch rs gs ls)):=by
 have hn:=re hp;unfold BR
 by_cases hf:iT c s.vars.length ch rs gs ls=0
 ·obtain⟨rfl,rfl⟩:=KM hf;rw[aa (by simpa using hf)]
  by_cases hi:cG (ba s.groups) c sl s.vars ch rs=0
  ·rw[aa (by simpa using hi)]
   have ho:=H2 hp hb.v0 h00 h1 hf hi;have hmap:(s.eqs.map fun q=>N (fo s.groups ch rs q))=(ep s ch rs).map .s:=by unfold ep;rw[iK];rfl
   rw[hmap]at ho;have f0:ep s ch rs≠[]:=by unfold ep;simpa using h00
   have fl: ∀x∈ep s ch rs,x.length<=100000:=fun x hx=>by have:=(lT hp.g ch rs x hx).1;omega
   have fn:(ep s ch rs).length<=900:=by unfold ep;rw[au];have:=hp.g.ne;omega
   generalize ep s ch rs=fs at*;have hc:=zO hp.r hb hx f0 fn fl;have ha:=Hl (c:=c) (sl:=sl) s B0 (b7 (ic (L3 ctx s fs) c));generalize ic (L3 ctx s fs) c=z at*;obtain⟨gq,vs,es⟩:=s;simp only[X0,kC,aT.pv,cb]at hn ho hc ha⊢;clear hp hb h2 h3 h4 hf hi hmap
   by_cases hz:b7 z=ch
   ·rw[af hz];have hz1:(b7 z==ch)=true:=by simpa using hz
    refine eW call13 func13 ?_;exact Us @hz1 @hn @ho @hc @ha
   ·rw[aa hz];have hz1:(b7 z==ch)=false:=by simpa using hz
    refine eW call13 func13 ?_;exact Us @hz1 @hn @ho @hc @ha
  ·rw[af hi];have ho:=H0 hp hb.v0 h00 h1 hf hi;have hb:(cG (ba s.groups) c sl s.vars ch rs==0)=false:=by simpa using hi
   generalize cG (ba s.groups) c sl s.vars ch rs=e at*;obtain⟨gq,vs,es⟩:=s;simp only[X0,kC,aT.pv,cb]at hn ho⊢;refine eW call13 func13 ?_;exact vV @hb @hn @ho
 ·rw[af hf];have ho:=Ld hp.r h1 h2 h3 h4 hf (sl:=sl);have hb:(iT c s.vars.length ch rs gs ls==0)=false:=by simpa using hf
  generalize iT c s.vars.length ch rs gs ls=e at*;obtain⟨gq,vs,es⟩:=s;simp only[X0,kC,aT.pv]at hn ho⊢;refine eW call13 func13 ?_;exact vV @hb @hn @ho
theorem Fh:aH 9 [] (.b true):=IU fun ch rs hl hz=>by
 have h:=Ny xH UE oC (ctx:=[97]) oC (ch:=ch) (rs:=rs.map iB) (gs:=[]) (ls:=[]) (by rw[au];omega) oC oC (fun l h=>by cases h)
 rw[hz]at h;unfold kC at h;rw[show(rs.map iB).map ca=rs.map Zp by rw[iK];rfl]at h
 exact h
