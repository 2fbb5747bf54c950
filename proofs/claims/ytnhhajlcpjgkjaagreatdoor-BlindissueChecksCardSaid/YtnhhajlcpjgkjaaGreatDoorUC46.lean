/- Part of the proof. -/
import Derived.Test.YtnhhajlcpjgkjaaGreatDoorUC38
set_option linter.all false
set_option maxHeartbeats 16000000
set_option maxRecDepth 100000
namespace Go.Proofs.Tryz
open Go Go.Dom Go.Num
abbrev Dj:=Nat×(Bool×Bytes)
def Z6:Dj:=(0,(false,[]))
def u7 (l:List (Bool×Bytes)) (t:eD):Dj:=
 (num t.base,((t.neg !=(l.getD t.var.toNat fh).1)&& !(bR (num t.abs*num (l.getD t.var.toNat fh).2)==[]),bR (num t.abs*num (l.getD t.var.toNat fh).2)))
def Ok (c:Bytes) (l:List (Bool×Bytes)) (q:dr):List Dj:=(num q.tgt,(!(c==[]),c))::q.terms.map (u7 l)
theorem PH {M:Nat} (h0:0<M) (l:List (Bool×Bytes)) (t:eD) (hu:eg M (num t.base)):dw M (u7 l t).1 (u7 l t).2.1 (num (u7 l t).2.2)=dw M (dw M (num t.base) t.neg (num t.abs)) (l.getD t.var.toNat fh).1 (num (l.getD t.var.toNat fh).2):=by
 rw[AJ hu h0];unfold u7;simp only[aY]
 by_cases hz:num t.abs*num (l.getD t.var.toNat fh).2=0
 ·rw[hz,nO,nO]
 ·have:(bR (num t.abs*num (l.getD t.var.toNat fh).2)==([]:Bytes))=false:=pK hz;rw[this];simp
theorem pM {M:Nat} (h0:0<M) (l:List (Bool×Bytes)): ∀(ts:List eD) (x:Nat),(∀t∈ts,eg M (num t.base))->nP M x (ts.map (u7 l))=ts.foldl (qN M l) x
 |[],x,_=>rfl
 |t::ts,x,h=>by
  rw[bV,List.foldl_cons,show u7 l t=((u7 l t).1,(u7 l t).2.1,(u7 l t).2.2)from rfl,nP,PH h0 l t (h t (qD ..)),pM h0 l ts _ fun t ht=>h t (iQ _ ht)]
  rfl
theorem uf:cT (fun p:Dj=>N p.1) 1:=⟨fun _=>rfl,fun _ y hy=>by cases fR.1 hy;rfl,fun _ _=>rfl,fun h=>aM rfl h⟩
theorem ug:cT rX 2:=⟨fun _=>rfl,fun x y hy=>by simp[rX,PV.cells]at hy;rcases hy with rfl|rfl<;>rfl,fun h=>oO,fun _ x=>rfl⟩
def SN (s:cK):Prop:= ∀q∈s.eqs,q.terms≠[]/\ ∀t∈q.terms,t.abs.length<=8
theorem J5 {s:cK} (hs:Rx s) (hT:SN s) (h0:s.eqs≠[]) {c:Bytes} (vc:aa c=true) {l:List (Bool×Bytes)} (hlen:l.length=s.vars.length) (hl: ∀x∈l,x.2.length<=24):aE 392 [s.pv, .s c, .sl (l.map cU)] (.sl (s.eqs.map fun q=>N (fP s.groups c l q))):=by
 obtain⟨gs,vs,es⟩:=s;obtain⟨hg,hq,ng,nv,ne⟩:=hs;unfold SN at hT;simp only at hg hq ng nv ne h0 hlen hT;have hpos:0<es.length:=lh.2 h0;have l1:(gs.map dS).length=gs.length:=aL ..;have l3:(es.map dr.pv).length=es.length:=aL ..;have l5:(l.map cU).length=l.length:=aL ..;have nt:=J4 false c;have hM:cT (fun q=>N (fP gs c l q)) 1:=⟨fun _=>rfl,fun _ y hy=>by cases fR.1 hy;rfl,fun _ _=>rfl,fun h=>aM rfl h⟩
 have row1: ∀{i:Nat},i<es.length->aX (fun q=>N (fP gs c l q)) (es.take (i+1))=aX (fun q=>N (fP gs c l q)) (es.take i)++[.v (N (fP gs c l (es.getD i gN)))]:=fun h=>by
  rw[aQ gN h,cu];rfl
 have rn1:aX (fun q=>N (fP gs c l q)) []=[]:=rfl
 unfold cK.pv;simp only;refine eW call392 func392 ?_;refine qY ?_;refine aj ?_;have e1:=getD_map dr.pv es gN hpos;obtain⟨q1,q2,q3,q4,kt⟩:=hq _ (aC gN hpos);obtain⟨k0,kn⟩:=hT _ (aC gN hpos);have r1:=row1 hpos;obtain⟨x,hx⟩: ∃x,x=es.getD 0 gN:=⟨_,rfl⟩;rw[<-hx]at e1 q1 q2 q3 q4 kt kn k0 r1;clear hx;obtain⟨gr,tg,ts⟩:=x;simp only at q1 q2 q3 q4 kt kn k0;have hgl:gr.toNat<gs.length:=oO;have kg:=hg _ (aC eU hgl);have e3:=getD_map dS gs eU hgl;have hmQ:fP gs c l ⟨gr,tg,ts⟩=ts.foldl (qN (num (gs.getD gr.toNat eU).1) l) (dw (num (gs.getD gr.toNat eU).1) (num tg) (!(c==[])) (num c)):=rfl;obtain⟨z,hz⟩: ∃z,z=gs.getD gr.toNat eU:=⟨_,rfl⟩;rw[<-hz]at q3 kt kg e3 hmQ;clear hz;obtain⟨m,o⟩:=z;simp only at q3 kt kg hmQ;obtain⟨kE,klm,klo⟩:=kg;obtain⟨vt,gt⟩:=(cL kE).1 q3;have m1:=(mc kE).2.2.1;obtain⟨P,hP⟩: ∃P,P=Ok c l ⟨gr,tg,ts⟩:=⟨_,rfl⟩;have hPl:P.length=ts.length+1:=by rw[hP,Ok,List.length_cons,aL]
 have hPs: ∀k,k<ts.length->P.take (k+2)=P.take (k+1)++[u7 l (ts.getD k fj)]:=fun k hk=>by
  rw[aQ Z6 (show k+1<P.length by omega),hP,Ok]
  congr 2;simp[ca,hk]
 have hP1:P.take 1=[(num tg,(!(c==[]),c))]:=by rw[hP];rfl
 have hp:=ky klm klo kE P oO (fun p hp=>by
  rw[hP,Ok]at hp;rcases cd.1 hp with rfl|hp
  ·exact⟨gt,vc,by cases(c==([]:Bytes))<;>rfl⟩
  ·obtain⟨t,ht,rfl⟩:=cv.1 hp;obtain⟨t1,t2,t3,t4⟩:=kt t ht;have ta:=kn t ht;have kr:=hl _ (aC fh (show t.var.toNat<l.length by omega))
   refine⟨((cL kE).1 t3).2,?_,?_⟩
   ·have hpl:num t.abs*num (l.getD t.var.toNat fh).2<256^32:=by
     have h1:num t.abs<256^8:=b9 (ct _) (cM oC ta);have h2:num (l.getD t.var.toNat fh).2<256^24:=b9 (ct _) (cM oC kr);have:=fE h1 h2
     rwa[<-cY]at this
    exact vB (b9 hpl (cM oC oC))
   ·simp only[u7]
    cases(bR (num t.abs*num (l.getD t.var.toNat fh).2)==([]:Bytes))<;>simp)
 have hval:nP (num m) 1 P=fP gs c l ⟨gr,tg,ts⟩:=by
  rw[hP,Ok,hmQ,nP,iv,pM oO l ts _ fun t ht=>((cL kE).1 (kt t ht).2.2.1).2.unit]
  congr 1;exact bw (aP _ oO)
 rw[hval]at hp;clear hval hmQ hP gt;generalize fP gs c l ⟨gr,tg,ts⟩=mm at*;have tpos:0<ts.length:=lh.2 k0;have l4:(ts.map eD.pv).length=ts.length:=aL ..;simp only[dS]at e3;simp only[dr.pv]at e1;refine rU (aN @l1 (aN @l3 (aN @e1 (aN @l4 @l5)))) @nt ?_;refine aj ?_;have f1:=getD_map eD.pv ts fj tpos;obtain⟨t1,t2,t3,t4⟩:=kt _ (aC fj tpos);have ta:=kn _ (aC fj tpos);have gP:=hPs 0 tpos;have g1:aX (fun p:Dj=>N p.1) (P.take (0+2))=aX (fun p:Dj=>N p.1) (P.take (0+1))++[.v (N (num (ts.getD 0 fj).base))]:=by rw[gP,cu];rfl
 have g2:aX rX (P.take (0+2))=aX rX (P.take (0+1))++[.v (.b (u7 l (ts.getD 0 fj)).2.1), .v (.s (u7 l (ts.getD 0 fj)).2.2)]:=by rw[gP,cu];rfl
 simp only[u7]at g2;obtain⟨y,hy⟩: ∃y,y=ts.getD 0 fj:=⟨_,rfl⟩;rw[<-hy]at f1 t1 t2 t3 t4 ta g1 g2;clear hy gP;obtain⟨b,v,n,a⟩:=y;simp only at t1 t2 t3 t4 ta g1 g2;rw[dZ (gG kE t3)]at g1;have f2:=getD_map cU l fh (i:=v.toNat) oO;have kr:=hl _ (aC fh (show v.toNat<l.length by omega))
 have hd3: ∀ _:True,v<(l.length:Int):=fun _=>oO
 obtain⟨u,hu⟩: ∃u,u=l.getD v.toNat fh:=⟨_,rfl⟩;rw[<-hu]at f2 kr g2;clear hu;obtain⟨rn,ra⟩:=u;simp only at kr g2;have hx:=mW n rn (a1:=a) (a2:=ra) oO oO;generalize bR (num a*num ra)=pp at*;generalize ((n !=rn)&& !(pp==[]))=sg at*;simp only[eD.pv]at f1;simp only[cU]at f2;refine G4 (aN @l1 (aN @l3 (aN @e1 (aN @f1 (aN @f2 (aN @l4 (aN @l5 (hd3 oT)))))))) @nt @hx ?_;refine ak (α:=Nat) (fun j=>ts.length-(j+1)) (fun j=>⟨[(1, .v (.s c)),(2, .v (.sl (l.map cU))),(3, .p 1000 0 0),(7, .sn),(8,E' 0),(9, .p 1014 0 0),(10, .rs 1039 j 0 (j+2) 1),(11, .rs 1059 j 0 (j+2) 2),(12,E' (j+1))],[(1000,⟨0,[.v (.sl (gs.map dS)), .v (.sl (vs.map cO)), .v (.sl (es.map dr.pv))],false,none⟩),(1014,⟨0,[.v (.i .i64 gr), .v (.s tg), .v (.sl (ts.map eD.pv))],false,some 184⟩),(1039,⟨j,aX (fun p:Dj=>N p.1) (P.take (j+2)),true,some 22⟩),(1059,⟨j,aX rX (P.take (j+2)),true,some 94⟩)],1064⟩) (fun j=>j+1<=ts.length) 0 (fun _=>dF rfl) tpos ?_ ?_
 ·have z1:aX (fun p:Dj=>N p.1) (P.take (0+1))=[.v (.s tg)]:=by rw[hP1,<-dZ vt];rfl
  have z2:aX rX (P.take (0+1))=[.v (.b (!(c==[]))), .v (.s c)]:=by rw[hP1];rfl
  rw[g1,g2,z1,z2];simp only[List.cons_append,List.nil_append]
  (refine AS.Le.of (by first|decide|omega) ?_ ?_<;>simp[dA,dz,aS,aB,AV.bd,AV.bd.bdL,u8,aq,au,aA])
  skip
 ·clear f1 f2 hx g1 g2 t1 t2 t3 t4 ta kr hd3;intro j hj R' hR';have hj1:(P.take (j+2)).length=j+2:=by rw[cf];omega
  have b1:=cF uf (P.take (j+2));have b2:=cR uf (P.take (j+2));have b5:=cF ug (P.take (j+2));have b6:=cR ug (P.take (j+2));rw[hj1]at b1 b2 b5 b6;rw[dK]at b1 b2
  by_cases hjt:j+1<ts.length
  ·have hgo':=hR' (j+1) oO oO;clear hR';have f1:=getD_map eD.pv ts fj hjt;obtain⟨t1,t2,t3,t4⟩:=kt _ (aC fj hjt);have ta:=kn _ (aC fj hjt);have gP:=hPs (j+1) hjt;have g1:aX (fun p:Dj=>N p.1) (P.take ((j+1)+2))=aX (fun p:Dj=>N p.1) (P.take ((j+1)+1))++[.v (N (num (ts.getD (j+1) fj).base))]:=by rw[gP,cu];rfl
   have g2:aX rX (P.take ((j+1)+2))=aX rX (P.take ((j+1)+1))++[.v (.b (u7 l (ts.getD (j+1) fj)).2.1), .v (.s (u7 l (ts.getD (j+1) fj)).2.2)]:=by rw[gP,cu];rfl
   simp only[u7]at g2;obtain⟨y,hy⟩: ∃y,y=ts.getD (j+1) fj:=⟨_,rfl⟩;rw[<-hy]at f1 t1 t2 t3 t4 ta g1 g2;clear hy gP;obtain⟨b,v,n,a⟩:=y;simp only at t1 t2 t3 t4 ta g1 g2;rw[dZ (gG kE t3)]at g1;have f2:=getD_map cU l fh (i:=v.toNat) oO;have kr:=hl _ (aC fh (show v.toNat<l.length by omega))
   have hd3: ∀ _:True,v<(l.length:Int):=fun _=>oO
   obtain⟨u,hu⟩: ∃u,u=l.getD v.toNat fh:=⟨_,rfl⟩;rw[<-hu]at f2 kr g2;clear hu;obtain⟨rn,ra⟩:=u;simp only at kr g2;have hx:=mW n rn (a1:=a) (a2:=ra) oO oO;generalize bR (num a*num ra)=pp at*;generalize ((n !=rn)&& !(pp==[]))=sg at*;simp only[eD.pv]at f1;simp only[cU]at f2;rw[g1,g2]at hgo';refine jd (aN @l4 (aN @l5 (aN @f1 (aN @f2 (aN @b1 (aN @b2 (aN @b5 (aN @b6 (hd3 oT))))))))) @hx ?_;refine hgo' _ ?_
   (refine AS.Le.of (by first|decide|omega) ?_ ?_<;>simp[dA,dz,aS,aB,AV.bd,AV.bd.bdL,u8,aq,au,aA])
   all_goals ((repeat' apply And.intro)<;>(intro c hc;first|exact cI hc|(rcases hc with h|h<;>first|exact cI h|(rcases h with rfl|rfl<;>rfl)|(subst h;rfl))))
  ·obtain hjv:j+2=P.length:=oO;clear hR';rw[hjv,cg]at b1 b2 b5 b6;rw[hjv,cg];repeat' first|simp only[go_sem,seval,l1,l3,l4,e1,e3]|(refine Kx (l:=P) (g:=fun p:Dj=>N p.1) (l':=P) (g':=rX) (gr:=true) (gr':=true) (el:=some 22) (el':=some 94) hp uf ug rfl (by simp[aB]) (by simp[aB]) rfl rfl ?_)|refine oE ?_|apply xX<;>intro hc
   refine ak (α:=Nat) (fun j=>es.length-(j+1)) (fun j=>⟨[(1, .v (.s c)),(2, .v (.sl (l.map cU))),(3, .p 1000 0 0),(7, .rs 1086 j 0 (j+1) 1),(8,E' (j+1))],[(1000,⟨0,[.v (.sl (gs.map dS)), .v (.sl (vs.map cO)), .v (.sl (es.map dr.pv))],false,none⟩),(1086,⟨j,aX (fun q=>N (fP gs c l q)) (es.take (j+1)),true,some 22⟩)],1091⟩) (fun j=>j+1<=es.length) 0 (fun _=>dF rfl) hpos ?_ ?_
   ·rw[eK,r1,List.take_zero,rn1];exact lE
   ·clear e1 e3 q1 q2 q3 q4 hp r1 b1 b2 b5 b6 hjv l4 tpos kn k0 kt hPl hPs hP1 vt kE;intro i hi R hR;have hj1:(es.take (i+1)).length=i+1:=by rw[cf];omega
    have p1:=cF hM (es.take (i+1));have p2:=cR hM (es.take (i+1));rw[hj1,dK]at p1 p2
    by_cases hlt:i+1<es.length
    ·have hgo:=hR (i+1) oO oO;clear hR;have e1:=getD_map dr.pv es gN hlt;obtain⟨q1,q2,q3,q4,kt⟩:=hq _ (aC gN hlt);obtain⟨k0,kn⟩:=hT _ (aC gN hlt);have r1:=row1 hlt;obtain⟨x,hx⟩: ∃x,x=es.getD (i+1) gN:=⟨_,rfl⟩;rw[<-hx]at e1 q1 q2 q3 q4 kt kn k0 r1;clear hx;obtain⟨gr,tg,ts⟩:=x;simp only at q1 q2 q3 q4 kt kn k0;have hgl:gr.toNat<gs.length:=oO;have kg:=hg _ (aC eU hgl);have e3:=getD_map dS gs eU hgl;have hmQ:fP gs c l ⟨gr,tg,ts⟩=ts.foldl (qN (num (gs.getD gr.toNat eU).1) l) (dw (num (gs.getD gr.toNat eU).1) (num tg) (!(c==[])) (num c)):=rfl;obtain⟨z,hz⟩: ∃z,z=gs.getD gr.toNat eU:=⟨_,rfl⟩;rw[<-hz]at q3 kt kg e3 hmQ;clear hz;obtain⟨m,o⟩:=z;simp only at q3 kt kg hmQ;obtain⟨kE,klm,klo⟩:=kg;obtain⟨vt,gt⟩:=(cL kE).1 q3;have m1:=(mc kE).2.2.1;obtain⟨P,hP⟩: ∃P,P=Ok c l ⟨gr,tg,ts⟩:=⟨_,rfl⟩;have hPl:P.length=ts.length+1:=by rw[hP,Ok,List.length_cons,aL]
     have hPs: ∀k,k<ts.length->P.take (k+2)=P.take (k+1)++[u7 l (ts.getD k fj)]:=fun k hk=>by
      rw[aQ Z6 (show k+1<P.length by omega),hP,Ok]
      congr 2;simp[ca,hk]
     have hP1:P.take 1=[(num tg,(!(c==[]),c))]:=by rw[hP];rfl
     have hp:=ky klm klo kE P oO (fun p hp=>by
      rw[hP,Ok]at hp;rcases cd.1 hp with rfl|hp
      ·exact⟨gt,vc,by cases(c==([]:Bytes))<;>rfl⟩
      ·obtain⟨t,ht,rfl⟩:=cv.1 hp;obtain⟨t1,t2,t3,t4⟩:=kt t ht;have ta:=kn t ht;have kr:=hl _ (aC fh (show t.var.toNat<l.length by omega))
       refine⟨((cL kE).1 t3).2,?_,?_⟩
       ·have hpl:num t.abs*num (l.getD t.var.toNat fh).2<256^32:=by
         have h1:num t.abs<256^8:=b9 (ct _) (cM oC ta);have h2:num (l.getD t.var.toNat fh).2<256^24:=b9 (ct _) (cM oC kr);have:=fE h1 h2
         rwa[<-cY]at this
        exact vB (b9 hpl (cM oC oC))
       ·simp only[u7]
        cases(bR (num t.abs*num (l.getD t.var.toNat fh).2)==([]:Bytes))<;>simp)
     have hval:nP (num m) 1 P=fP gs c l ⟨gr,tg,ts⟩:=by
      rw[hP,Ok,hmQ,nP,iv,pM oO l ts _ fun t ht=>((cL kE).1 (kt t ht).2.2.1).2.unit]
      congr 1;exact bw (aP _ oO)
     rw[hval]at hp;clear hval hmQ hP gt;generalize fP gs c l ⟨gr,tg,ts⟩=mm at*;have tpos:0<ts.length:=lh.2 k0;have l4:(ts.map eD.pv).length=ts.length:=aL ..;simp only[dS]at e3;simp only[dr.pv]at e1;rw[r1]at hgo;refine rU (aN @l1 (aN @l3 (aN @e1 (aN @l4 @l5)))) @nt ?_;refine aj ?_;have f1:=getD_map eD.pv ts fj tpos;obtain⟨t1,t2,t3,t4⟩:=kt _ (aC fj tpos);have ta:=kn _ (aC fj tpos);have gP:=hPs 0 tpos;have g1:aX (fun p:Dj=>N p.1) (P.take (0+2))=aX (fun p:Dj=>N p.1) (P.take (0+1))++[.v (N (num (ts.getD 0 fj).base))]:=by rw[gP,cu];rfl
     have g2:aX rX (P.take (0+2))=aX rX (P.take (0+1))++[.v (.b (u7 l (ts.getD 0 fj)).2.1), .v (.s (u7 l (ts.getD 0 fj)).2.2)]:=by rw[gP,cu];rfl
     simp only[u7]at g2;obtain⟨y,hy⟩: ∃y,y=ts.getD 0 fj:=⟨_,rfl⟩;rw[<-hy]at f1 t1 t2 t3 t4 ta g1 g2;clear hy gP;obtain⟨b,v,n,a⟩:=y;simp only at t1 t2 t3 t4 ta g1 g2;rw[dZ (gG kE t3)]at g1;have f2:=getD_map cU l fh (i:=v.toNat) oO;have kr:=hl _ (aC fh (show v.toNat<l.length by omega))
     have hd3: ∀ _:True,v<(l.length:Int):=fun _=>oO
     obtain⟨u,hu⟩: ∃u,u=l.getD v.toNat fh:=⟨_,rfl⟩;rw[<-hu]at f2 kr g2;clear hu;obtain⟨rn,ra⟩:=u;simp only at kr g2;have hx:=mW n rn (a1:=a) (a2:=ra) oO oO;generalize bR (num a*num ra)=pp at*;generalize ((n !=rn)&& !(pp==[]))=sg at*;simp only[eD.pv]at f1;simp only[cU]at f2;refine G4 (aN @l1 (aN @l3 (aN @e1 (aN @f1 (aN @f2 (aN @l4 (aN @l5 (hd3 oT)))))))) @nt @hx ?_;refine ak (α:=Nat) (fun j=>ts.length-(j+1)) (fun j=>⟨[(1, .v (.s c)),(2, .v (.sl (l.map cU))),(3, .p 1000 0 0),(7, .rs 1086 i 0 (i+1) 1),(8,E' (i+1)),(9, .p 1101 0 0),(10, .rs 1126 j 0 (j+2) 1),(11, .rs 1146 j 0 (j+2) 2),(12,E' (j+1))],[(1000,⟨0,[.v (.sl (gs.map dS)), .v (.sl (vs.map cO)), .v (.sl (es.map dr.pv))],false,none⟩),(1101,⟨0,[.v (.i .i64 gr), .v (.s tg), .v (.sl (ts.map eD.pv))],false,some 184⟩),(1126,⟨j,aX (fun p:Dj=>N p.1) (P.take (j+2)),true,some 22⟩),(1146,⟨j,aX rX (P.take (j+2)),true,some 94⟩),(1086,⟨i,aX (fun q=>N (fP gs c l q)) (es.take (i+1)),true,some 22⟩)],1151⟩) (fun j=>j+1<=ts.length) 0 (fun _=>dF rfl) tpos ?_ ?_
     ·have z1:aX (fun p:Dj=>N p.1) (P.take (0+1))=[.v (.s tg)]:=by rw[hP1,<-dZ vt];rfl
      have z2:aX rX (P.take (0+1))=[.v (.b (!(c==[]))), .v (.s c)]:=by rw[hP1];rfl
      rw[g1,g2,z1,z2];simp only[List.cons_append,List.nil_append]
      (refine AS.Le.of (by first|decide|omega) ?_ ?_<;>simp[dA,dz,aS,aB,AV.bd,AV.bd.bdL,u8,aq,au,aA])
      all_goals (intro c hc;exact cI hc)
     ·clear f1 f2 hx g1 g2 t1 t2 t3 t4 ta kr hd3;intro j hj R' hR';have hj1:(P.take (j+2)).length=j+2:=by rw[cf];omega
      have b1:=cF uf (P.take (j+2));have b2:=cR uf (P.take (j+2));have b5:=cF ug (P.take (j+2));have b6:=cR ug (P.take (j+2));rw[hj1]at b1 b2 b5 b6;rw[dK]at b1 b2
      by_cases hjt:j+1<ts.length
      ·have hgo':=hR' (j+1) oO oO;clear hR';have f1:=getD_map eD.pv ts fj hjt;obtain⟨t1,t2,t3,t4⟩:=kt _ (aC fj hjt);have ta:=kn _ (aC fj hjt);have gP:=hPs (j+1) hjt;have g1:aX (fun p:Dj=>N p.1) (P.take ((j+1)+2))=aX (fun p:Dj=>N p.1) (P.take ((j+1)+1))++[.v (N (num (ts.getD (j+1) fj).base))]:=by rw[gP,cu];rfl
       have g2:aX rX (P.take ((j+1)+2))=aX rX (P.take ((j+1)+1))++[.v (.b (u7 l (ts.getD (j+1) fj)).2.1), .v (.s (u7 l (ts.getD (j+1) fj)).2.2)]:=by rw[gP,cu];rfl
       simp only[u7]at g2;obtain⟨y,hy⟩: ∃y,y=ts.getD (j+1) fj:=⟨_,rfl⟩;rw[<-hy]at f1 t1 t2 t3 t4 ta g1 g2;clear hy gP;obtain⟨b,v,n,a⟩:=y;simp only at t1 t2 t3 t4 ta g1 g2;rw[dZ (gG kE t3)]at g1;have f2:=getD_map cU l fh (i:=v.toNat) oO;have kr:=hl _ (aC fh (show v.toNat<l.length by omega))
       have hd3: ∀ _:True,v<(l.length:Int):=fun _=>oO
       obtain⟨u,hu⟩: ∃u,u=l.getD v.toNat fh:=⟨_,rfl⟩;rw[<-hu]at f2 kr g2;clear hu;obtain⟨rn,ra⟩:=u;simp only at kr g2;have hx:=mW n rn (a1:=a) (a2:=ra) oO oO;generalize bR (num a*num ra)=pp at*;generalize ((n !=rn)&& !(pp==[]))=sg at*;simp only[eD.pv]at f1;simp only[cU]at f2;rw[g1,g2]at hgo';refine jd (aN @l4 (aN @l5 (aN @f1 (aN @f2 (aN @b1 (aN @b2 (aN @b5 (aN @b6 (hd3 oT))))))))) @hx ?_;refine hgo' _ ?_
       (refine AS.Le.of (by first|decide|omega) ?_ ?_<;>simp[dA,dz,aS,aB,AV.bd,AV.bd.bdL,u8,aq,au,aA])
       all_goals ((repeat' apply And.intro)<;>(intro c hc;first|exact cI hc|(rcases hc with h|h<;>first|exact cI h|(rcases h with rfl|rfl<;>rfl)|(subst h;rfl))))
      ·obtain hjv:j+2=P.length:=oO;clear hR';rw[hjv,cg]at b1 b2 b5 b6;rw[hjv,cg];repeat' first|simp only[go_sem,seval,l1,l3,l4,e1,e3,p1,p2]|(refine Kx (l:=P) (g:=fun p:Dj=>N p.1) (l':=P) (g':=rX) (gr:=true) (gr':=true) (el:=some 22) (el':=some 94) hp uf ug rfl (by simp[aB]) (by simp[aB]) rfl rfl ?_)|refine oE ?_|apply xX<;>intro hc
       refine hgo _ ?_
       (refine AS.Le.of (by first|decide|omega) ?_ ?_<;>simp[dA,dz,aS,aB,AV.bd,AV.bd.bdL,u8,aq,au,aA])
       all_goals (intro c hc;rcases hc with h|h<;>first|exact cI h|(subst h;rfl))
    ·obtain hjv:i+1=es.length:=oO;rw[hjv,cg]at p1 p2;rw[hjv,cg];have p3:=dU hM es;have p4:chunk 1 es.length (List.flatMap (fun x=>[PV.s (bR (fP gs c l x))]) es)=es.map fun q=>N (fP gs c l q):=dj hM es
     repeat' first|simp only[go_sem,seval,l3,p1,p2,p3,p4,eJ]|refine oE ?_|apply xX<;>intro hc
     all_goals first|rfl|exact congrArg PV.sl p4
