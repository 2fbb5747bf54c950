/- Part of the proof. -/
import Derived.Test.YthlapgdhjcddkaaGreatDoorUF52
set_option linter.all false
set_option maxHeartbeats 16000000
set_option maxRecDepth 100000
namespace Go.Proofs.Tryz
open Go Go.Dom Go.Num
abbrev xM:=Nat×(Bool×Bytes)
def d0F:xM:=(0,(false,[]))
def rG (l:List (Bool×Bytes)) (t:dx):xM:=
 (num t.base,((t.neg !=(l.getD t.var.toNat eT).1)&& !(b7 (num t.abs*num (l.getD t.var.toNat eT).2)==[]),b7 (num t.abs*num (l.getD t.var.toNat eT).2)))
def HE (c:Bytes) (l:List (Bool×Bytes)) (q:bZ):List xM:=(num q.tgt,(!(c==[]),c))::q.terms.map (rG l)
theorem Sw {M:Nat} (h0:0<M) (l:List (Bool×Bytes)) (t:dx) (hu:eK M (num t.base)):dM M (rG l t).1 (rG l t).2.1 (num (rG l t).2.2)=dM M (dM M (num t.base) t.neg (num t.abs)) (l.getD t.var.toNat eT).1 (num (l.getD t.var.toNat eT).2):=by
 rw[CG hu h0];unfold rG;simp only[bG]
 by_cases hz:num t.abs*num (l.getD t.var.toNat eT).2=0
 ·rw[hz,pC,pC]
 ·have:(b7 (num t.abs*num (l.getD t.var.toNat eT).2)==([]:Bytes))=false:=tF hz;rw[this];simp
theorem oH {M:Nat} (h0:0<M) (l:List (Bool×Bytes)): ∀(ts:List dx) (x:Nat),(∀t∈ts,eK M (num t.base))->pD M x (ts.map (rG l))=ts.foldl (o6 M l) x
 |[],x,_=>rfl
 |t::ts,x,h=>by
  rw[b8,List.foldl_cons,show rG l t=((rG l t).1,(rG l t).2.1,(rG l t).2.2)from rfl,pD,Sw h0 l t (h t (mS ..)),oH h0 l ts _ fun t ht=>h t (ju _ ht)]
  rfl
theorem pT:cH (fun p:xM=>N p.1) 1:=⟨fun _=>rfl,fun _ y hy=>by cases fa.1 hy;rfl,fun _ _=>rfl,fun h=>aJ rfl h⟩
theorem pU:cH qE 2:=⟨fun _=>rfl,fun x y hy=>by simp[qE,PV.cells]at hy;rcases hy with rfl|rfl<;>rfl,fun h=>oO,fun _ x=>rfl⟩
theorem Lu {s:aT} (hs:UB s) (hT:ShN s) {c:Bytes} (vc:ae c=true) {l:List (Bool×Bytes)} (hlen:l.length=s.vars.length) (hl: ∀x∈l,x.2.length<=24):aH 101 [s.pv, .s c, .sl (l.map ca)] (.sl (s.eqs.map fun q=>N (fo s.groups c l q))):=by
 obtain⟨gs,vs,es⟩:=s;obtain⟨hg,hq,ng,nv,ne⟩:=hs;unfold ShN at hT;simp only at hg hq ng nv ne hlen hT;have l1:(gs.map cz).length=gs.length:=au ..;have l3:(es.map bZ.pv).length=es.length:=au ..;have l5:(l.map ca).length=l.length:=au ..;have nt:=Lt false c;have hM:cH (fun q=>N (fo gs c l q)) 1:=⟨fun _=>rfl,fun _ y hy=>by cases fa.1 hy;rfl,fun _ _=>rfl,fun h=>aJ rfl h⟩
 have row1: ∀{i:Nat},i<es.length->aP (fun q=>N (fo gs c l q)) (es.take (i+1))=aP (fun q=>N (fo gs c l q)) (es.take i)++[.v (N (fo gs c l (es.getD i dU)))]:=fun h=>by
  rw[aL dU h,bU];rfl
 have rn1:aP (fun q=>N (fo gs c l q)) []=[]:=rfl
 unfold aT.pv;simp only
 by_cases hne:es=[]
 ·subst hne;refine eW call101 func101 ?_;exact Uu
 have hpos:0<es.length:=gF.2 hne;refine eW call101 func101 ?_;refine pO ?_;refine aq ?_;have e1:=getD_map bZ.pv es dU hpos;obtain⟨q1,q2,q3,q4,kt⟩:=hq _ (ai dU hpos);have kn:=hT _ (ai dU hpos);have r1:=row1 hpos;obtain⟨x,hx⟩: ∃x,x=es.getD 0 dU:=⟨_,rfl⟩;rw[<-hx]at e1 q1 q2 q3 q4 kt kn r1;clear hx;obtain⟨gr,tg,ts⟩:=x;simp only at q1 q2 q3 q4 kt kn;have hgl:gr.toNat<gs.length:=oO;have kg:=hg _ (ai dL hgl);have e3:=getD_map cz gs dL hgl;have hmQ:fo gs c l ⟨gr,tg,ts⟩=ts.foldl (o6 (num (gs.getD gr.toNat dL).1) l) (dM (num (gs.getD gr.toNat dL).1) (num tg) (!(c==[])) (num c)):=rfl;obtain⟨z,hz⟩: ∃z,z=gs.getD gr.toNat dL:=⟨_,rfl⟩;rw[<-hz]at q3 kt kg e3 hmQ;clear hz;obtain⟨m,o⟩:=z;simp only at q3 kt kg hmQ;obtain⟨kE,klm,klo⟩:=kg;obtain⟨vt,gt⟩:=(dH kE).1 q3;have m1:=(nD kE).2.2.1;obtain⟨P,hP⟩: ∃P,P=HE c l ⟨gr,tg,ts⟩:=⟨_,rfl⟩;have hPl:P.length=ts.length+1:=by rw[hP,HE,List.length_cons,au]
 have hPs: ∀k,k<ts.length->P.take (k+2)=P.take (k+1)++[rG l (ts.getD k dN)]:=fun k hk=>by
  rw[aL d0F (show k+1<P.length by omega),hP,HE]
  congr 2;simp[bu,hk]
 have hP1:P.take 1=[(num tg,(!(c==[]),c))]:=by rw[hP];rfl
 have hp:=o8 klm klo kE P oO (fun p hp=>by
  rw[hP,HE]at hp;rcases cM.1 hp with rfl|hp
  ·exact⟨gt,vc,by cases(c==([]:Bytes))<;>rfl⟩
  ·obtain⟨t,ht,rfl⟩:=cx.1 hp;obtain⟨t1,t2,t3,t4⟩:=kt t ht;have ta:=kn t ht;have kr:=hl _ (ai eT (show t.var.toNat<l.length by omega))
   refine⟨((dH kE).1 t3).2,?_,?_⟩
   ·have hpl:num t.abs*num (l.getD t.var.toNat eT).2<256^40:=by
     have h1:num t.abs<256^16:=bM (cO _) (dp oC ta);have h2:num (l.getD t.var.toNat eT).2<256^24:=bM (cO _) (dp oC kr);have:=fT h1 h2
     rwa[<-dD]at this
    exact vB (bM hpl (dp oC oC))
   ·simp only[rG]
    cases(b7 (num t.abs*num (l.getD t.var.toNat eT).2)==([]:Bytes))<;>simp)
 have hval:pD (num m) 1 P=fo gs c l ⟨gr,tg,ts⟩:=by
  rw[hP,HE,hmQ,pD,iL,oH oO l ts _ fun t ht=>((dH kE).1 (kt t ht).2.2.1).2.unit]
  congr 1;exact bV (aV _ oO)
 rw[hval]at hp;have hP0:ts=[]->P=[(num tg,(!(c==[]),c))]:=fun e=>by rw[hP,e];rfl
 clear hval hmQ hP gt;generalize fo gs c l ⟨gr,tg,ts⟩=mm at*;have l4:(ts.map dx.pv).length=ts.length:=au ..;simp only[cz]at e3;simp only[bZ.pv]at e1
 by_cases k0:ts=[]
 ·have hPe:=hP0 k0;subst k0;clear hP0;subst hPe;simp only[b8,cb,qE,fA vt]at hp;refine jA (aN @l1 (aN @l3 (aN @e1 (aN @e3 @l5)))) @nt ?_;refine aq ?_;refine jA (aN @l1 (aN @l3 (aN @e1 (aN @e3 @l5)))) @hp ?_;refine ah (α:=Nat) (fun j=>es.length-(j+1)) (fun j=>⟨[(1, .v (.s c)),(2, .v (.sl (l.map ca))),(3, .p 1000 0 0),(7, .rs 1048 j 0 (j+1) 1),(8,E' (j+1))],[(1000,⟨0,[.v (.sl (gs.map cz)), .v (.sl (vs.map bO)), .v (.sl (es.map bZ.pv))],false,none⟩),(1048,⟨j,aP (fun q=>N (fo gs c l q)) (es.take (j+1)),true,some 22⟩)],1053⟩) (fun j=>j+1<=es.length) 0 (fun _=>cd rfl) hpos ?_ ?_
  ·rw[eX,r1,List.take_zero,rn1];exact lE
  ·clear e1 e3 q1 q2 q3 q4 hp r1 l4 kn kt hPl hPs hP1 vt kE;intro i hi R hR;have hj1:(es.take (i+1)).length=i+1:=by rw[bQ];omega
   have p1:=bT hM (es.take (i+1));have p2:=cf hM (es.take (i+1));rw[hj1,dr]at p1 p2
   by_cases hlt:i+1<es.length
   ·have hgo:=hR (i+1) oO oO;clear hR;have e1:=getD_map bZ.pv es dU hlt;obtain⟨q1,q2,q3,q4,kt⟩:=hq _ (ai dU hlt);have kn:=hT _ (ai dU hlt);have r1:=row1 hlt;obtain⟨x,hx⟩: ∃x,x=es.getD (i+1) dU:=⟨_,rfl⟩;rw[<-hx]at e1 q1 q2 q3 q4 kt kn r1;clear hx;obtain⟨gr,tg,ts⟩:=x;simp only at q1 q2 q3 q4 kt kn;have hgl:gr.toNat<gs.length:=oO;have kg:=hg _ (ai dL hgl);have e3:=getD_map cz gs dL hgl;have hmQ:fo gs c l ⟨gr,tg,ts⟩=ts.foldl (o6 (num (gs.getD gr.toNat dL).1) l) (dM (num (gs.getD gr.toNat dL).1) (num tg) (!(c==[])) (num c)):=rfl;obtain⟨z,hz⟩: ∃z,z=gs.getD gr.toNat dL:=⟨_,rfl⟩;rw[<-hz]at q3 kt kg e3 hmQ;clear hz;obtain⟨m,o⟩:=z;simp only at q3 kt kg hmQ;obtain⟨kE,klm,klo⟩:=kg;obtain⟨vt,gt⟩:=(dH kE).1 q3;have m1:=(nD kE).2.2.1;obtain⟨P,hP⟩: ∃P,P=HE c l ⟨gr,tg,ts⟩:=⟨_,rfl⟩;have hPl:P.length=ts.length+1:=by rw[hP,HE,List.length_cons,au]
    have hPs: ∀k,k<ts.length->P.take (k+2)=P.take (k+1)++[rG l (ts.getD k dN)]:=fun k hk=>by
     rw[aL d0F (show k+1<P.length by omega),hP,HE]
     congr 2;simp[bu,hk]
    have hP1:P.take 1=[(num tg,(!(c==[]),c))]:=by rw[hP];rfl
    have hp:=o8 klm klo kE P oO (fun p hp=>by
     rw[hP,HE]at hp;rcases cM.1 hp with rfl|hp
     ·exact⟨gt,vc,by cases(c==([]:Bytes))<;>rfl⟩
     ·obtain⟨t,ht,rfl⟩:=cx.1 hp;obtain⟨t1,t2,t3,t4⟩:=kt t ht;have ta:=kn t ht;have kr:=hl _ (ai eT (show t.var.toNat<l.length by omega))
      refine⟨((dH kE).1 t3).2,?_,?_⟩
      ·have hpl:num t.abs*num (l.getD t.var.toNat eT).2<256^40:=by
        have h1:num t.abs<256^16:=bM (cO _) (dp oC ta);have h2:num (l.getD t.var.toNat eT).2<256^24:=bM (cO _) (dp oC kr);have:=fT h1 h2
        rwa[<-dD]at this
       exact vB (bM hpl (dp oC oC))
      ·simp only[rG]
       cases(b7 (num t.abs*num (l.getD t.var.toNat eT).2)==([]:Bytes))<;>simp)
    have hval:pD (num m) 1 P=fo gs c l ⟨gr,tg,ts⟩:=by
     rw[hP,HE,hmQ,pD,iL,oH oO l ts _ fun t ht=>((dH kE).1 (kt t ht).2.2.1).2.unit]
     congr 1;exact bV (aV _ oO)
    rw[hval]at hp;have hP0:ts=[]->P=[(num tg,(!(c==[]),c))]:=fun e=>by rw[hP,e];rfl
    clear hval hmQ hP gt;generalize fo gs c l ⟨gr,tg,ts⟩=mm at*;have l4:(ts.map dx.pv).length=ts.length:=au ..;simp only[cz]at e3;simp only[bZ.pv]at e1;rw[r1]at hgo
    by_cases k0:ts=[]
    ·have hPe:=hP0 k0;subst k0;clear hP0;subst hPe;simp only[b8,cb,qE,fA vt]at hp;refine jA (aN @l1 (aN @l3 (aN @e1 (aN @e3 (aN @l5 (aN @p1 @p2)))))) @nt ?_;refine aq ?_;refine gR (aN @l1 (aN @l3 (aN @e1 (aN @e3 (aN @l5 (aN @p1 @p2)))))) @hp ?_;refine hgo _ ?_
     (refine AS.Le.of (by first|decide|omega) ?_ ?_<;>simp[cU,cT,aO,az,AV.bd,AV.bd.bdL,u8,aj,ak,an])
     all_goals (intro c hc;rcases hc with h|h<;>first|exact bj h|(subst h;rfl))
    have tpos:0<ts.length:=gF.2 k0;refine jA (aN @l1 (aN @l3 (aN @e1 (aN @l4 @l5)))) @nt ?_;refine aq ?_;have f1:=getD_map dx.pv ts dN tpos;obtain⟨t1,t2,t3,t4⟩:=kt _ (ai dN tpos);have ta:=kn _ (ai dN tpos);have gP:=hPs 0 tpos;have g1:aP (fun p:xM=>N p.1) (P.take (0+2))=aP (fun p:xM=>N p.1) (P.take (0+1))++[.v (N (num (ts.getD 0 dN).base))]:=by rw[gP,bU];rfl
    have g2:aP qE (P.take (0+2))=aP qE (P.take (0+1))++[.v (.b (rG l (ts.getD 0 dN)).2.1), .v (.s (rG l (ts.getD 0 dN)).2.2)]:=by rw[gP,bU];rfl
    simp only[rG]at g2;obtain⟨y,hy⟩: ∃y,y=ts.getD 0 dN:=⟨_,rfl⟩;rw[<-hy]at f1 t1 t2 t3 t4 ta g1 g2;clear hy gP;obtain⟨b,v,n,a⟩:=y;simp only at t1 t2 t3 t4 ta g1 g2;rw[fA (fP kE t3)]at g1;have f2:=getD_map ca l eT (i:=v.toNat) oO;have kr:=hl _ (ai eT (show v.toNat<l.length by omega))
    have hd3: ∀ _:True,v<(l.length:Int):=fun _=>oO
    obtain⟨u,hu⟩: ∃u,u=l.getD v.toNat eT:=⟨_,rfl⟩;rw[<-hu]at f2 kr g2;clear hu;obtain⟨rn,ra⟩:=u;simp only at kr g2;have hx:=kq n rn (a1:=a) (a2:=ra) oO oO;generalize b7 (num a*num ra)=pp at*;generalize ((n !=rn)&& !(pp==[]))=sg at*;simp only[dx.pv]at f1;simp only[ca]at f2;refine Bw (aN @l1 (aN @l3 (aN @e1 (aN @f1 (aN @f2 (aN @l4 (aN @l5 (hd3 oT)))))))) @nt @hx ?_;refine ah (α:=Nat) (fun j=>ts.length-(j+1)) (fun j=>⟨[(1, .v (.s c)),(2, .v (.sl (l.map ca))),(3, .p 1000 0 0),(7, .rs 1048 i 0 (i+1) 1),(8,E' (i+1)),(9, .p 1063 0 0),(10, .rs 1088 j 0 (j+2) 1),(11, .rs 1108 j 0 (j+2) 2),(12,E' (j+1))],[(1000,⟨0,[.v (.sl (gs.map cz)), .v (.sl (vs.map bO)), .v (.sl (es.map bZ.pv))],false,none⟩),(1063,⟨0,[.v (.i .i64 gr), .v (.s tg), .v (.sl (ts.map dx.pv))],false,some 119⟩),(1088,⟨j,aP (fun p:xM=>N p.1) (P.take (j+2)),true,some 22⟩),(1108,⟨j,aP qE (P.take (j+2)),true,some 77⟩),(1048,⟨i,aP (fun q=>N (fo gs c l q)) (es.take (i+1)),true,some 22⟩)],1113⟩) (fun j=>j+1<=ts.length) 0 (fun _=>cd rfl) tpos ?_ ?_
    ·have z1:aP (fun p:xM=>N p.1) (P.take (0+1))=[.v (.s tg)]:=by rw[hP1,<-fA vt];rfl
     have z2:aP qE (P.take (0+1))=[.v (.b (!(c==[]))), .v (.s c)]:=by rw[hP1];rfl
     rw[g1,g2,z1,z2];simp only[List.cons_append,List.nil_append]
     (refine AS.Le.of (by first|decide|omega) ?_ ?_<;>simp[cU,cT,aO,az,AV.bd,AV.bd.bdL,u8,aj,ak,an])
     all_goals (intro c hc;exact bj hc)
    ·clear f1 f2 hx g1 g2 t1 t2 t3 t4 ta kr hd3;intro j hj R' hR';have hj1:(P.take (j+2)).length=j+2:=by rw[bQ];omega
     have b1:=bT pT (P.take (j+2));have b2:=cf pT (P.take (j+2));have b5:=bT pU (P.take (j+2));have b6:=cf pU (P.take (j+2));rw[hj1]at b1 b2 b5 b6;rw[dr]at b1 b2
     by_cases hjt:j+1<ts.length
     ·have hgo':=hR' (j+1) oO oO;clear hR';have f1:=getD_map dx.pv ts dN hjt;obtain⟨t1,t2,t3,t4⟩:=kt _ (ai dN hjt);have ta:=kn _ (ai dN hjt);have gP:=hPs (j+1) hjt;have g1:aP (fun p:xM=>N p.1) (P.take ((j+1)+2))=aP (fun p:xM=>N p.1) (P.take ((j+1)+1))++[.v (N (num (ts.getD (j+1) dN).base))]:=by rw[gP,bU];rfl
      have g2:aP qE (P.take ((j+1)+2))=aP qE (P.take ((j+1)+1))++[.v (.b (rG l (ts.getD (j+1) dN)).2.1), .v (.s (rG l (ts.getD (j+1) dN)).2.2)]:=by rw[gP,bU];rfl
      simp only[rG]at g2;obtain⟨y,hy⟩: ∃y,y=ts.getD (j+1) dN:=⟨_,rfl⟩;rw[<-hy]at f1 t1 t2 t3 t4 ta g1 g2;clear hy gP;obtain⟨b,v,n,a⟩:=y;simp only at t1 t2 t3 t4 ta g1 g2;rw[fA (fP kE t3)]at g1;have f2:=getD_map ca l eT (i:=v.toNat) oO;have kr:=hl _ (ai eT (show v.toNat<l.length by omega))
      have hd3: ∀ _:True,v<(l.length:Int):=fun _=>oO
      obtain⟨u,hu⟩: ∃u,u=l.getD v.toNat eT:=⟨_,rfl⟩;rw[<-hu]at f2 kr g2;clear hu;obtain⟨rn,ra⟩:=u;simp only at kr g2;have hx:=kq n rn (a1:=a) (a2:=ra) oO oO;generalize b7 (num a*num ra)=pp at*;generalize ((n !=rn)&& !(pp==[]))=sg at*;simp only[dx.pv]at f1;simp only[ca]at f2;rw[g1,g2]at hgo';refine gR (aN @l4 (aN @l5 (aN @f1 (aN @f2 (aN @b1 (aN @b2 (aN @b5 (aN @b6 (hd3 oT))))))))) @hx ?_;refine hgo' _ ?_
      (refine AS.Le.of (by first|decide|omega) ?_ ?_<;>simp[cU,cT,aO,az,AV.bd,AV.bd.bdL,u8,aj,ak,an])
      all_goals ((repeat' apply And.intro)<;>(intro c hc;first|exact bj hc|(rcases hc with h|h<;>first|exact bj h|(rcases h with rfl|rfl<;>rfl)|(subst h;rfl))))
     ·obtain hjv:j+2=P.length:=oO;clear hR';rw[hjv,bm]at b1 b2 b5 b6;rw[hjv,bm];repeat' first|simp only[go_sem,seval,l1,l3,l4,e1,e3,p1,p2]|(refine He (l:=P) (g:=fun p:xM=>N p.1) (l':=P) (g':=qE) (gr:=true) (gr':=true) (el:=some 22) (el':=some 77) hp pT pU rfl (by simp[az]) (by simp[az]) rfl rfl ?_)|refine oE ?_|apply xX<;>intro hc
      refine hgo _ ?_
      (refine AS.Le.of (by first|decide|omega) ?_ ?_<;>simp[cU,cT,aO,az,AV.bd,AV.bd.bdL,u8,aj,ak,an])
      all_goals (intro c hc;rcases hc with h|h<;>first|exact bj h|(subst h;rfl))
   ·obtain hjv:i+1=es.length:=oO;rw[hjv,bm]at p1 p2;rw[hjv,bm];have p3:=dI hM es;have p4:chunk 1 es.length (List.flatMap (fun x=>[PV.s (b7 (fo gs c l x))]) es)=es.map fun q=>N (fo gs c l q):=cK hM es
    repeat' first|simp only[go_sem,seval,l3,p1,p2,p3,p4,dj]|refine oE ?_|apply xX<;>intro hc
    all_goals first|rfl|exact congrArg PV.sl p4
 have tpos:0<ts.length:=gF.2 k0;refine jA (aN @l1 (aN @l3 (aN @e1 (aN @l4 @l5)))) @nt ?_;refine aq ?_;have f1:=getD_map dx.pv ts dN tpos;obtain⟨t1,t2,t3,t4⟩:=kt _ (ai dN tpos);have ta:=kn _ (ai dN tpos);have gP:=hPs 0 tpos;have g1:aP (fun p:xM=>N p.1) (P.take (0+2))=aP (fun p:xM=>N p.1) (P.take (0+1))++[.v (N (num (ts.getD 0 dN).base))]:=by rw[gP,bU];rfl
 have g2:aP qE (P.take (0+2))=aP qE (P.take (0+1))++[.v (.b (rG l (ts.getD 0 dN)).2.1), .v (.s (rG l (ts.getD 0 dN)).2.2)]:=by rw[gP,bU];rfl
 simp only[rG]at g2;obtain⟨y,hy⟩: ∃y,y=ts.getD 0 dN:=⟨_,rfl⟩;rw[<-hy]at f1 t1 t2 t3 t4 ta g1 g2;clear hy gP;obtain⟨b,v,n,a⟩:=y;simp only at t1 t2 t3 t4 ta g1 g2;rw[fA (fP kE t3)]at g1;have f2:=getD_map ca l eT (i:=v.toNat) oO;have kr:=hl _ (ai eT (show v.toNat<l.length by omega))
 have hd3: ∀ _:True,v<(l.length:Int):=fun _=>oO
 obtain⟨u,hu⟩: ∃u,u=l.getD v.toNat eT:=⟨_,rfl⟩;rw[<-hu]at f2 kr g2;clear hu;obtain⟨rn,ra⟩:=u;simp only at kr g2;have hx:=kq n rn (a1:=a) (a2:=ra) oO oO;generalize b7 (num a*num ra)=pp at*;generalize ((n !=rn)&& !(pp==[]))=sg at*;simp only[dx.pv]at f1;simp only[ca]at f2;refine Bw (aN @l1 (aN @l3 (aN @e1 (aN @f1 (aN @f2 (aN @l4 (aN @l5 (hd3 oT)))))))) @nt @hx ?_;refine ah (α:=Nat) (fun j=>ts.length-(j+1)) (fun j=>⟨[(1, .v (.s c)),(2, .v (.sl (l.map ca))),(3, .p 1000 0 0),(7, .sn),(8,E' 0),(9, .p 1014 0 0),(10, .rs 1039 j 0 (j+2) 1),(11, .rs 1059 j 0 (j+2) 2),(12,E' (j+1))],[(1000,⟨0,[.v (.sl (gs.map cz)), .v (.sl (vs.map bO)), .v (.sl (es.map bZ.pv))],false,none⟩),(1014,⟨0,[.v (.i .i64 gr), .v (.s tg), .v (.sl (ts.map dx.pv))],false,some 119⟩),(1039,⟨j,aP (fun p:xM=>N p.1) (P.take (j+2)),true,some 22⟩),(1059,⟨j,aP qE (P.take (j+2)),true,some 77⟩)],1064⟩) (fun j=>j+1<=ts.length) 0 (fun _=>cd rfl) tpos ?_ ?_
 ·have z1:aP (fun p:xM=>N p.1) (P.take (0+1))=[.v (.s tg)]:=by rw[hP1,<-fA vt];rfl
  have z2:aP qE (P.take (0+1))=[.v (.b (!(c==[]))), .v (.s c)]:=by rw[hP1];rfl
  rw[g1,g2,z1,z2];simp only[List.cons_append,List.nil_append]
  (refine AS.Le.of (by first|decide|omega) ?_ ?_<;>simp[cU,cT,aO,az,AV.bd,AV.bd.bdL,u8,aj,ak,an])
  skip
 ·clear f1 f2 hx g1 g2 t1 t2 t3 t4 ta kr hd3;intro j hj R' hR';have hj1:(P.take (j+2)).length=j+2:=by rw[bQ];omega
  have b1:=bT pT (P.take (j+2));have b2:=cf pT (P.take (j+2));have b5:=bT pU (P.take (j+2));have b6:=cf pU (P.take (j+2));rw[hj1]at b1 b2 b5 b6;rw[dr]at b1 b2
  by_cases hjt:j+1<ts.length
  ·have hgo':=hR' (j+1) oO oO;clear hR';have f1:=getD_map dx.pv ts dN hjt;obtain⟨t1,t2,t3,t4⟩:=kt _ (ai dN hjt);have ta:=kn _ (ai dN hjt);have gP:=hPs (j+1) hjt;have g1:aP (fun p:xM=>N p.1) (P.take ((j+1)+2))=aP (fun p:xM=>N p.1) (P.take ((j+1)+1))++[.v (N (num (ts.getD (j+1) dN).base))]:=by rw[gP,bU];rfl
   have g2:aP qE (P.take ((j+1)+2))=aP qE (P.take ((j+1)+1))++[.v (.b (rG l (ts.getD (j+1) dN)).2.1), .v (.s (rG l (ts.getD (j+1) dN)).2.2)]:=by rw[gP,bU];rfl
   simp only[rG]at g2;obtain⟨y,hy⟩: ∃y,y=ts.getD (j+1) dN:=⟨_,rfl⟩;rw[<-hy]at f1 t1 t2 t3 t4 ta g1 g2;clear hy gP;obtain⟨b,v,n,a⟩:=y;simp only at t1 t2 t3 t4 ta g1 g2;rw[fA (fP kE t3)]at g1;have f2:=getD_map ca l eT (i:=v.toNat) oO;have kr:=hl _ (ai eT (show v.toNat<l.length by omega))
   have hd3: ∀ _:True,v<(l.length:Int):=fun _=>oO
   obtain⟨u,hu⟩: ∃u,u=l.getD v.toNat eT:=⟨_,rfl⟩;rw[<-hu]at f2 kr g2;clear hu;obtain⟨rn,ra⟩:=u;simp only at kr g2;have hx:=kq n rn (a1:=a) (a2:=ra) oO oO;generalize b7 (num a*num ra)=pp at*;generalize ((n !=rn)&& !(pp==[]))=sg at*;simp only[dx.pv]at f1;simp only[ca]at f2;rw[g1,g2]at hgo';refine gR (aN @l4 (aN @l5 (aN @f1 (aN @f2 (aN @b1 (aN @b2 (aN @b5 (aN @b6 (hd3 oT))))))))) @hx ?_;refine hgo' _ ?_
   (refine AS.Le.of (by first|decide|omega) ?_ ?_<;>simp[cU,cT,aO,az,AV.bd,AV.bd.bdL,u8,aj,ak,an])
   all_goals ((repeat' apply And.intro)<;>(intro c hc;first|exact bj hc|(rcases hc with h|h<;>first|exact bj h|(rcases h with rfl|rfl<;>rfl)|(subst h;rfl))))
  ·obtain hjv:j+2=P.length:=oO;clear hR';rw[hjv,bm]at b1 b2 b5 b6;rw[hjv,bm];repeat' first|simp only[go_sem,seval,l1,l3,l4,e1,e3]|(refine He (l:=P) (g:=fun p:xM=>N p.1) (l':=P) (g':=qE) (gr:=true) (gr':=true) (el:=some 22) (el':=some 77) hp pT pU rfl (by simp[az]) (by simp[az]) rfl rfl ?_)|refine oE ?_|apply xX<;>intro hc
   refine ah (α:=Nat) (fun j=>es.length-(j+1)) (fun j=>⟨[(1, .v (.s c)),(2, .v (.sl (l.map ca))),(3, .p 1000 0 0),(7, .rs 1086 j 0 (j+1) 1),(8,E' (j+1))],[(1000,⟨0,[.v (.sl (gs.map cz)), .v (.sl (vs.map bO)), .v (.sl (es.map bZ.pv))],false,none⟩),(1086,⟨j,aP (fun q=>N (fo gs c l q)) (es.take (j+1)),true,some 22⟩)],1091⟩) (fun j=>j+1<=es.length) 0 (fun _=>cd rfl) hpos ?_ ?_
   ·rw[eX,r1,List.take_zero,rn1];exact lE
   ·clear e1 e3 q1 q2 q3 q4 hp r1 b1 b2 b5 b6 hjv l4 tpos kn kt hPl hPs hP1 vt kE;intro i hi R hR;have hj1:(es.take (i+1)).length=i+1:=by rw[bQ];omega
    have p1:=bT hM (es.take (i+1));have p2:=cf hM (es.take (i+1));rw[hj1,dr]at p1 p2
    by_cases hlt:i+1<es.length
    ·have hgo:=hR (i+1) oO oO;clear hR;have e1:=getD_map bZ.pv es dU hlt;obtain⟨q1,q2,q3,q4,kt⟩:=hq _ (ai dU hlt);have kn:=hT _ (ai dU hlt);have r1:=row1 hlt;obtain⟨x,hx⟩: ∃x,x=es.getD (i+1) dU:=⟨_,rfl⟩;rw[<-hx]at e1 q1 q2 q3 q4 kt kn r1;clear hx;obtain⟨gr,tg,ts⟩:=x;simp only at q1 q2 q3 q4 kt kn;have hgl:gr.toNat<gs.length:=oO;have kg:=hg _ (ai dL hgl);have e3:=getD_map cz gs dL hgl;have hmQ:fo gs c l ⟨gr,tg,ts⟩=ts.foldl (o6 (num (gs.getD gr.toNat dL).1) l) (dM (num (gs.getD gr.toNat dL).1) (num tg) (!(c==[])) (num c)):=rfl;obtain⟨z,hz⟩: ∃z,z=gs.getD gr.toNat dL:=⟨_,rfl⟩;rw[<-hz]at q3 kt kg e3 hmQ;clear hz;obtain⟨m,o⟩:=z;simp only at q3 kt kg hmQ;obtain⟨kE,klm,klo⟩:=kg;obtain⟨vt,gt⟩:=(dH kE).1 q3;have m1:=(nD kE).2.2.1;obtain⟨P,hP⟩: ∃P,P=HE c l ⟨gr,tg,ts⟩:=⟨_,rfl⟩;have hPl:P.length=ts.length+1:=by rw[hP,HE,List.length_cons,au]
     have hPs: ∀k,k<ts.length->P.take (k+2)=P.take (k+1)++[rG l (ts.getD k dN)]:=fun k hk=>by
      rw[aL d0F (show k+1<P.length by omega),hP,HE]
      congr 2;simp[bu,hk]
     have hP1:P.take 1=[(num tg,(!(c==[]),c))]:=by rw[hP];rfl
     have hp:=o8 klm klo kE P oO (fun p hp=>by
      rw[hP,HE]at hp;rcases cM.1 hp with rfl|hp
      ·exact⟨gt,vc,by cases(c==([]:Bytes))<;>rfl⟩
      ·obtain⟨t,ht,rfl⟩:=cx.1 hp;obtain⟨t1,t2,t3,t4⟩:=kt t ht;have ta:=kn t ht;have kr:=hl _ (ai eT (show t.var.toNat<l.length by omega))
       refine⟨((dH kE).1 t3).2,?_,?_⟩
       ·have hpl:num t.abs*num (l.getD t.var.toNat eT).2<256^40:=by
         have h1:num t.abs<256^16:=bM (cO _) (dp oC ta);have h2:num (l.getD t.var.toNat eT).2<256^24:=bM (cO _) (dp oC kr);have:=fT h1 h2
         rwa[<-dD]at this
        exact vB (bM hpl (dp oC oC))
       ·simp only[rG]
        cases(b7 (num t.abs*num (l.getD t.var.toNat eT).2)==([]:Bytes))<;>simp)
     have hval:pD (num m) 1 P=fo gs c l ⟨gr,tg,ts⟩:=by
      rw[hP,HE,hmQ,pD,iL,oH oO l ts _ fun t ht=>((dH kE).1 (kt t ht).2.2.1).2.unit]
      congr 1;exact bV (aV _ oO)
     rw[hval]at hp;have hP0:ts=[]->P=[(num tg,(!(c==[]),c))]:=fun e=>by rw[hP,e];rfl
     clear hval hmQ hP gt;generalize fo gs c l ⟨gr,tg,ts⟩=mm at*;have l4:(ts.map dx.pv).length=ts.length:=au ..;simp only[cz]at e3;simp only[bZ.pv]at e1;rw[r1]at hgo
     by_cases k0:ts=[]
     ·have hPe:=hP0 k0;subst k0;clear hP0;subst hPe;simp only[b8,cb,qE,fA vt]at hp;refine jA (aN @l1 (aN @l3 (aN @e1 (aN @e3 (aN @l5 (aN @p1 @p2)))))) @nt ?_;refine aq ?_;refine gR (aN @l1 (aN @l3 (aN @e1 (aN @e3 (aN @l5 (aN @p1 @p2)))))) @hp ?_;refine hgo _ ?_
      (refine AS.Le.of (by first|decide|omega) ?_ ?_<;>simp[cU,cT,aO,az,AV.bd,AV.bd.bdL,u8,aj,ak,an])
      all_goals (intro c hc;rcases hc with h|h<;>first|exact bj h|(subst h;rfl))
     have tpos:0<ts.length:=gF.2 k0;refine jA (aN @l1 (aN @l3 (aN @e1 (aN @l4 @l5)))) @nt ?_;refine aq ?_;have f1:=getD_map dx.pv ts dN tpos;obtain⟨t1,t2,t3,t4⟩:=kt _ (ai dN tpos);have ta:=kn _ (ai dN tpos);have gP:=hPs 0 tpos;have g1:aP (fun p:xM=>N p.1) (P.take (0+2))=aP (fun p:xM=>N p.1) (P.take (0+1))++[.v (N (num (ts.getD 0 dN).base))]:=by rw[gP,bU];rfl
     have g2:aP qE (P.take (0+2))=aP qE (P.take (0+1))++[.v (.b (rG l (ts.getD 0 dN)).2.1), .v (.s (rG l (ts.getD 0 dN)).2.2)]:=by rw[gP,bU];rfl
     simp only[rG]at g2;obtain⟨y,hy⟩: ∃y,y=ts.getD 0 dN:=⟨_,rfl⟩;rw[<-hy]at f1 t1 t2 t3 t4 ta g1 g2;clear hy gP;obtain⟨b,v,n,a⟩:=y;simp only at t1 t2 t3 t4 ta g1 g2;rw[fA (fP kE t3)]at g1;have f2:=getD_map ca l eT (i:=v.toNat) oO;have kr:=hl _ (ai eT (show v.toNat<l.length by omega))
     have hd3: ∀ _:True,v<(l.length:Int):=fun _=>oO
     obtain⟨u,hu⟩: ∃u,u=l.getD v.toNat eT:=⟨_,rfl⟩;rw[<-hu]at f2 kr g2;clear hu;obtain⟨rn,ra⟩:=u;simp only at kr g2;have hx:=kq n rn (a1:=a) (a2:=ra) oO oO;generalize b7 (num a*num ra)=pp at*;generalize ((n !=rn)&& !(pp==[]))=sg at*;simp only[dx.pv]at f1;simp only[ca]at f2;refine Bw (aN @l1 (aN @l3 (aN @e1 (aN @f1 (aN @f2 (aN @l4 (aN @l5 (hd3 oT)))))))) @nt @hx ?_;refine ah (α:=Nat) (fun j=>ts.length-(j+1)) (fun j=>⟨[(1, .v (.s c)),(2, .v (.sl (l.map ca))),(3, .p 1000 0 0),(7, .rs 1086 i 0 (i+1) 1),(8,E' (i+1)),(9, .p 1101 0 0),(10, .rs 1126 j 0 (j+2) 1),(11, .rs 1146 j 0 (j+2) 2),(12,E' (j+1))],[(1000,⟨0,[.v (.sl (gs.map cz)), .v (.sl (vs.map bO)), .v (.sl (es.map bZ.pv))],false,none⟩),(1101,⟨0,[.v (.i .i64 gr), .v (.s tg), .v (.sl (ts.map dx.pv))],false,some 119⟩),(1126,⟨j,aP (fun p:xM=>N p.1) (P.take (j+2)),true,some 22⟩),(1146,⟨j,aP qE (P.take (j+2)),true,some 77⟩),(1086,⟨i,aP (fun q=>N (fo gs c l q)) (es.take (i+1)),true,some 22⟩)],1151⟩) (fun j=>j+1<=ts.length) 0 (fun _=>cd rfl) tpos ?_ ?_
     ·have z1:aP (fun p:xM=>N p.1) (P.take (0+1))=[.v (.s tg)]:=by rw[hP1,<-fA vt];rfl
      have z2:aP qE (P.take (0+1))=[.v (.b (!(c==[]))), .v (.s c)]:=by rw[hP1];rfl
      rw[g1,g2,z1,z2];simp only[List.cons_append,List.nil_append]
      (refine AS.Le.of (by first|decide|omega) ?_ ?_<;>simp[cU,cT,aO,az,AV.bd,AV.bd.bdL,u8,aj,ak,an])
      all_goals (intro c hc;exact bj hc)
     ·clear f1 f2 hx g1 g2 t1 t2 t3 t4 ta kr hd3;intro j hj R' hR';have hj1:(P.take (j+2)).length=j+2:=by rw[bQ];omega
      have b1:=bT pT (P.take (j+2));have b2:=cf pT (P.take (j+2));have b5:=bT pU (P.take (j+2));have b6:=cf pU (P.take (j+2));rw[hj1]at b1 b2 b5 b6;rw[dr]at b1 b2
      by_cases hjt:j+1<ts.length
      ·have hgo':=hR' (j+1) oO oO;clear hR';have f1:=getD_map dx.pv ts dN hjt;obtain⟨t1,t2,t3,t4⟩:=kt _ (ai dN hjt);have ta:=kn _ (ai dN hjt);have gP:=hPs (j+1) hjt;have g1:aP (fun p:xM=>N p.1) (P.take ((j+1)+2))=aP (fun p:xM=>N p.1) (P.take ((j+1)+1))++[.v (N (num (ts.getD (j+1) dN).base))]:=by rw[gP,bU];rfl
       have g2:aP qE (P.take ((j+1)+2))=aP qE (P.take ((j+1)+1))++[.v (.b (rG l (ts.getD (j+1) dN)).2.1), .v (.s (rG l (ts.getD (j+1) dN)).2.2)]:=by rw[gP,bU];rfl
       simp only[rG]at g2;obtain⟨y,hy⟩: ∃y,y=ts.getD (j+1) dN:=⟨_,rfl⟩;rw[<-hy]at f1 t1 t2 t3 t4 ta g1 g2;clear hy gP;obtain⟨b,v,n,a⟩:=y;simp only at t1 t2 t3 t4 ta g1 g2;rw[fA (fP kE t3)]at g1;have f2:=getD_map ca l eT (i:=v.toNat) oO;have kr:=hl _ (ai eT (show v.toNat<l.length by omega))
       have hd3: ∀ _:True,v<(l.length:Int):=fun _=>oO
       obtain⟨u,hu⟩: ∃u,u=l.getD v.toNat eT:=⟨_,rfl⟩;rw[<-hu]at f2 kr g2;clear hu;obtain⟨rn,ra⟩:=u;simp only at kr g2;have hx:=kq n rn (a1:=a) (a2:=ra) oO oO;generalize b7 (num a*num ra)=pp at*;generalize ((n !=rn)&& !(pp==[]))=sg at*;simp only[dx.pv]at f1;simp only[ca]at f2;rw[g1,g2]at hgo';refine gR (aN @l4 (aN @l5 (aN @f1 (aN @f2 (aN @b1 (aN @b2 (aN @b5 (aN @b6 (hd3 oT))))))))) @hx ?_;refine hgo' _ ?_
       (refine AS.Le.of (by first|decide|omega) ?_ ?_<;>simp[cU,cT,aO,az,AV.bd,AV.bd.bdL,u8,aj,ak,an])
       all_goals ((repeat' apply And.intro)<;>(intro c hc;first|exact bj hc|(rcases hc with h|h<;>first|exact bj h|(rcases h with rfl|rfl<;>rfl)|(subst h;rfl))))
      ·obtain hjv:j+2=P.length:=oO;clear hR';rw[hjv,bm]at b1 b2 b5 b6;rw[hjv,bm];repeat' first|simp only[go_sem,seval,l1,l3,l4,e1,e3,p1,p2]|(refine He (l:=P) (g:=fun p:xM=>N p.1) (l':=P) (g':=qE) (gr:=true) (gr':=true) (el:=some 22) (el':=some 77) hp pT pU rfl (by simp[az]) (by simp[az]) rfl rfl ?_)|refine oE ?_|apply xX<;>intro hc
       refine hgo _ ?_
       (refine AS.Le.of (by first|decide|omega) ?_ ?_<;>simp[cU,cT,aO,az,AV.bd,AV.bd.bdL,u8,aj,ak,an])
       all_goals (intro c hc;rcases hc with h|h<;>first|exact bj h|(subst h;rfl))
    ·obtain hjv:i+1=es.length:=oO;rw[hjv,bm]at p1 p2;rw[hjv,bm];have p3:=dI hM es;have p4:chunk 1 es.length (List.flatMap (fun x=>[PV.s (b7 (fo gs c l x))]) es)=es.map fun q=>N (fo gs c l q):=cK hM es
     repeat' first|simp only[go_sem,seval,l3,p1,p2,p3,p4,dj]|refine oE ?_|apply xX<;>intro hc
     all_goals first|rfl|exact congrArg PV.sl p4
