/- Part of the proof. -/
import Derived.Test.YtkmahpcpmgedkaaGreatDoorFC34
set_option linter.all false
set_option maxHeartbeats 16000000
set_option maxRecDepth 100000
namespace Go.Proofs.Tryz
open Go Go.Dom Go.Num
theorem Za (l:List Int):(l.map nf).map cT=l.map Zp:=by rw[iV];rfl
theorem xp {w:List Int} (hw: ∀x∈w,x.natAbs<dZ):(w.map nf).all cz=true:=by
 rw[bH];intro x hx;obtain⟨z,hz,rfl⟩:=bm.1 hx;exact u9 (hw z hz)
theorem Rf {s:cU} (hs:Ca s) {w:List (Bool×Bytes)} (hw:w.length<1000000):aE 251 [s.pv, .sl (w.map cT)] (E (if !(w.all cz)then 3 else if w.length≠s.vars.length then 6 else 0)):=by
 have hf:=Np hs.b;have hc:=It hs.b;rw[hs.ck]at hc;rw[show pW s=true from by have:=hs.ck;unfold Nn at this;cases h:pW s<;>simp_all]at hf
 have hcf:=gD w _ _ oO Re;rw[np]at hcf;have l1:(w.map cT).length=w.length:=aC ..;obtain⟨gs,vs,es⟩:=s;have l2:(vs.map cO).length=vs.length:=aC ..;simp only[cU.pv,ax]at hf hc⊢;generalize w.all cz=b at*;cases b
 ·refine eW call251 func251 ?_;exact wJ (aN @l1 @l2) @hf @hc @hcf oT
 ·by_cases hl:w.length=vs.length
  ·have hI:((w.length:Int) !=vs.length)=false:=by rw[hl];simp
   rw[ae (by simp),ae (by simpa using hl)]
   refine eW call251 func251 ?_;exact wJ (aN @l1 (aN @l2 @hI)) @hf @hc @hcf oT
  ·have hI:((w.length:Int) !=vs.length)=true:=by rw[bne_iff_ne];omega
   rw[ae (by simp),ah (by simpa using hl)]
   refine eW call251 func251 ?_;exact wJ (aN @l1 (aN @l2 @hI)) @hf @hc @hcf oT
theorem IC {s:cU} (hs:Ca s) {w:List Int} (hwl:w.length=s.vars.length) (hw: ∀x∈w,x.natAbs<dZ):aE 251 [s.pv, .sl (w.map Zp)] (E 0):=by
 have nv:=hs.nv;have:=Rf hs (w:=w.map nf) (by rw[aC];omega)
 rwa[Za,xp hw,aC,ae (by simp),ae (by simpa using hwl)]at this
def WS (s:cU) (w:List Int):Prop:= ∀q∈s.eqs,WB q.terms w
theorem PE {s:cU} (hs:Ca s) {w:List Int} (hwl:w.length=s.vars.length) (hw: ∀x∈w,x.natAbs<dZ) (hW:WS s w):aE 150 [s.pv, .sl (w.map Zp)] (.tup [.sl ((yX s w).map .s),E 0]):=by
 have hr:=IC hs hwl hw;have hi:=Iq hs hW;generalize yX s w=L at*;obtain⟨gs,vs,es⟩:=s;simp only[cU.pv]at hr hi⊢;refine eW call150 func150 ?_;exact z2 @hr @hi
def fK (o b:Bytes):Nat:=if b=[]then num o else num b
def kC (b:Bytes) (x:Int) (L:Nat):Bool:=decide (x.natAbs<L)&& !(decide (b=[])&&decide (x<0))
def CD (o:Bytes) (us:List Bytes) (w:List Int):Bool:=(List.range us.length).all fun i=>kC (us.getD i []) (w.getD i 0) (fK o (us.getD i []))
theorem fa {gs:List (Bytes×Bytes)} (h: ∀p∈gs,gE p.1 p.2=0/\p.1.length<=8/\p.2.length<=8):aa (bM gs)=true/\(bM gs).length<=8:=by
 induction gs with
 |nil=>exact⟨rfl,by simp[bM]⟩
 |cons g r ih=>
  rw[bM];obtain⟨g1,g2,g3⟩:=h g (pM ..);split
  ·exact ih fun p hp=>h p (iY _ hp)
  ·exact⟨(jf g1).2.1,g3⟩
theorem Kd {s:cU} (hs:Ca s) {w:List Int} (hwl:w.length=s.vars.length) (hw: ∀x∈w,x.natAbs<dZ):aE 252 [s.pv, .sl (w.map Zp)] (.b (CD (bM s.groups) s.vars w)):=by
 have hv:=hs.v;have nv:=hs.nv;have hor:=BA s (by have:=hs.ng;omega)
 have hoV:=fa hs.g;obtain⟨gs,vs,es⟩:=s;simp only at hv hwl nv hor hoV⊢;have l2:(vs.map cO).length=vs.length:=aC ..;have l5:(w.map Zp).length=vs.length:=by rw[aC];exact hwl
 generalize bM gs=oq at*;unfold cU.pv at*;simp only at*;refine eW call252 func252 ?_;refine dH @l2 ?_;refine af (α:=Nat) (fun i=>vs.length-i) (fun i=>⟨[(1, .v (.sl (w.map Zp))),(2, .p 1000 0 0),(9, .v (.sl (vs.map cO))),(10,E' vs.length),(11,E' i)],[(1000,⟨0,[.v (.sl (gs.map eB)), .v (.sl (vs.map cO)), .v (.sl (es.map dx.pv))],false,none⟩)],_⟩) (fun i=>i<=vs.length/\ ∀j,j<i->kC (vs.getD j []) (w.getD j 0) (fK oq (vs.getD j []))=true) 0 (fun _=>aA _) ⟨aI _,fun j hj=>oO⟩ ?_ ?_
 ·exact lE
 ·rintro i ⟨hi,hall⟩ R hR
  by_cases hlt:i<vs.length
  ·have e1:=getD_map cO vs [] hlt;have e2:=getD_map Zp w 0 (i:=i) oO;have kb:=hv _ (an [] hlt);have kw:=hw _ (an 0 (show i<w.length by omega))
   have hgo:=fun h=>hR (i+1) ⟨oO,h⟩ oO
   have hbad:=fun h: ¬kC (vs.getD i []) (w.getD i 0) (fK oq (vs.getD i []))=true=>qE (p:=fun i=>kC (vs.getD i []) (w.getD i 0) (fK oq (vs.getD i []))) hlt (fz.2 h)
   have hnx:kC (vs.getD i []) (w.getD i 0) (fK oq (vs.getD i []))=true-> ∀j,j<i+1->kC (vs.getD j []) (w.getD j 0) (fK oq (vs.getD j []))=true:=fun h j hj=>by
    by_cases hji:j<i
    ·exact hall j hji
    ·obtain rfl:j=i:=oO;exact h
   rw[<-CD]at hbad;clear hR hall;generalize vs.getD i []=b at*;generalize w.getD i 0=x at*;have hz:=(u9 kw);simp only[nf,cz,ba]at hz;have hc:=sZ hz.1 kb.1;have hc':=sZ hz.1 hoV.1;simp only[CQ]at hc hc';have hd: ∀L:Nat,decide (bc x.natAbs L>=0)= !decide (x.natAbs<L):=fun L=>SZ _ _
   simp only[cO]at e1;simp only[Zp,cT,nf]at e2;simp only[kC,fK]at hbad hnx
   by_cases hb:b=[]
   ·subst hb;simp only[ax,decide_true,cr]at hbad hnx;have hzs:zs x=decide (x<0):=rfl;have h1:=hd (num oq);clear hd hc kb;generalize bc x.natAbs (num oq)=cm at*;generalize decide (x.natAbs<num oq)=p at*;generalize hq:decide (x<0)=q at*;cases q
    ·cases p
     ·rw[hbad (by simp)]
      exact B8 (aN @l2 (aN @l5 (aN @e1 (aN @e2 (aN @hzs (aN @h1 @nn)))))) @hor @hc'
     ·have hgo:=hgo (hnx (by simp))
      exact vY (aN @l2 (aN @l5 (aN @e1 (aN @e2 (aN @hzs (aN @h1 @nn)))))) @hgo @hor @hc'
    ·rw[hbad (by simp)]
     exact B8 (aN @l2 (aN @l5 (aN @e1 (aN @e2 (aN @hzs (aN @h1 @nn)))))) @hor @hc'
   ·have hbb:(b==[])=false:=by simpa using hb
    simp only[ae hb,aG hb,dK,cv,jK]at hbad hnx;have h1:=hd (num b);clear hd hc' kb;generalize bc x.natAbs (num b)=cm at*;generalize decide (x.natAbs<num b)=p at*;cases p
    ·rw[hbad (by simp)]
     exact m9 (aN @l2 (aN @l5 (aN @e1 (aN @e2 (aN @hbb @h1))))) @hc
    ·have hgo:=hgo (hnx rfl);exact gV (aN @l2 (aN @l5 (aN @e1 (aN @e2 (aN @hbb @h1))))) @hgo @hc
  ·obtain rfl:i=vs.length:=oO;have hg:CD oq vs w=true:=qf fun j hj=>hall j hj
   rw[hg];exact z0
noncomputable def J6 (s:cU) (w:List Int):Bool:=decide (yX s w=s.eqs.map (·.tgt))
theorem Kc {s:cU} (hs:Ca s) {w:List Int} (hwl:w.length=s.vars.length) (hw: ∀x∈w,x.natAbs<dZ) (hW:CD (bM s.groups) s.vars w=true->WS s w):aE 146 [s.pv, .sl (w.map Zp)] (.tup [.b (CD (bM s.groups) s.vars w&&J6 s w),E 0]):=by
 have ne:=hs.ne;have hr:=IC hs hwl hw;have hi:=Kd hs hwl hw;have hm:=fun h=>Iq hs (hW h)
 have hL:=CB s w;unfold J6;generalize yX s w=L at*;obtain⟨gs,vs,es⟩:=s;simp only[cU.pv]at hr hi hm hL⊢;have l3:(es.map dx.pv).length=es.length:=aC ..;have l4:(L.map PV.s).length=es.length:=by rw[aC];exact hL
 simp only at ne;clear hs hW hw hwl;generalize CD (bM gs) vs w=b at*;cases b
 ·refine eW call146 func146 ?_;exact z2 @hr @hi
 have hm:=hm rfl;refine eW call146 func146 ?_;refine uE @l3 @hr @hi @hm oT ?_;refine af (α:=Nat) (fun i=>es.length-i) (fun i=>⟨[(2, .p 1000 0 0),(7, .v (.sl (L.map .s))),(31, .v (.sl (es.map dx.pv))),(32,E' es.length),(33,E' i)],[(1000,⟨0,[.v (.sl (gs.map eB)), .v (.sl (vs.map cO)), .v (.sl (es.map dx.pv))],false,none⟩)],_⟩) (fun i=>i<=es.length/\ ∀j,j<i->L.getD j []=(es.getD j hG).tgt) 0 (fun _=>aA _) ⟨aI _,fun j hj=>oO⟩ ?_ ?_
 ·exact lE
 ·rintro i ⟨hi,hall⟩ R hR
  by_cases hlt:i<es.length
  ·have e1:=getD_map dx.pv es hG hlt;have e2:=getD_map PV.s L [] (i:=i) oO;have hgo:=fun h=>hR (i+1) ⟨oO,h⟩ oO
   have hnx:L.getD i []=(es.getD i hG).tgt-> ∀j,j<i+1->L.getD j []=(es.getD j hG).tgt:=fun h j hj=>by
    by_cases hji:j<i
    ·exact hall j hji
    ·obtain rfl:j=i:=oO;exact h
   have hbad: ¬L.getD i []=(es.getD i hG).tgt->decide (L=es.map (·.tgt))=false:=fun h=>aG fun g=>h (by rw[g];simp[br,hlt])
   clear hR hall;generalize es.getD i hG=q at*;generalize L.getD i []=x at*;obtain⟨g,t,ts⟩:=q;simp only[dx.pv]at e1 hbad hnx
   by_cases hxt:x=t
   ·have hgo:=hgo (hnx hxt);have e3:(x==t)=true:=by simpa using hxt
    exact jN (aN @l3 (aN @l4 (aN @e1 (aN @e2 @e3)))) @hgo
   ·have e3:(x==t)=false:=by simpa using hxt
    rw[hbad hxt];exact gi (aN @l3 (aN @l4 (aN @e1 (aN @e2 @e3))))
  ·obtain rfl:i=es.length:=oO;rw[aJ (QO hL hall)];exact z0
theorem Fw (s:cU) (hl:s.groups.length<1000000):aE 87 [s.pv] (.s (bM s.groups)):=by
 obtain⟨gs,vs,es⟩:=s;simp only at hl;have l1:(gs.map eB).length=gs.length:=aC ..;unfold cU.pv;simp only;refine eW call87 func87 ?_;refine qB ?_;refine af (α:=Nat) (fun i=>gs.length-i) (fun i=>⟨[(1, .p 1000 0 0),(3,E' i)],[(1000,⟨0,[.v (.sl (gs.map eB)), .v (.sl (vs.map cO)), .v (.sl (es.map dx.pv))],false,none⟩)],_⟩) (fun i=>i<=gs.length/\bM (gs.drop i)=bM gs) 0 (fun _=>aA _) ⟨aI _,rfl⟩ ?_ ?_
 ·exact lE
 ·rintro i ⟨hi,hf⟩ R hR;rw[<-hf]
  by_cases hlt:i<gs.length
  ·have e1:=getD_map eB gs fj hlt;have hgo:=hR (i+1);rw[<-hf]at hgo;rw[aW fj hlt]at hgo⊢;obtain⟨x,hx⟩: ∃x,x=gs.getD i fj:=⟨_,rfl⟩;rw[<-hx]at e1 hgo⊢;clear hx hf hR;obtain⟨m,o⟩:=x;simp only[bM]at hgo⊢;simp only[eB]at e1
   by_cases ho:o=[]
   ·subst ho;simp only[ax]at hgo⊢;have hgo:=hgo ⟨oO,trivial⟩ oO;exact jN (aN @l1 (aN @e1 @nn)) @hgo
   ·have hb:(o==([]:Bytes))=false:=by simpa using ho
    rw[ae ho];exact gi (aN @l1 (aN @e1 @hb))
  ·obtain rfl:i=gs.length:=oO;rw[da];exact gi @l1
theorem O1 {α:Type} {p:α->Bool} {l:List α} {i:Nat} (d:α) (h:i<l.length):(l.take (i+1)).any p=((l.take i).any p||p (l.getD i d)):=by
 rw[aS d h,List.any_append];simp
theorem Sa {s:cU} (hs:Ca s):aE 401 [s.pv] (.b true):=by
 have hk:=hs.k;have hor:=Fw s (by have:=hs.ng;omega)
 obtain⟨gs,vs,es⟩:=s;obtain⟨-,hg,hv,hq,ng,nv,ne,-⟩:=hs;simp only at hg hv hq ng nv ne;have l1:(gs.map eB).length=gs.length:=aC ..;have l2:(vs.map cO).length=vs.length:=aC ..;have l3:(es.map dx.pv).length=es.length:=aC ..;unfold EP at hk;simp only at hk hor;unfold cU.pv at*;simp only at*;refine eW call401 func401 ?_;refine qB ?_;refine af (α:=Nat) (fun i=>vs.length-i) (fun i=>⟨[(1, .p 1000 0 0),(3, .v (.b ((vs.take i).any fun b=>b==[]))),(4,E' i)],[(1000,⟨0,[.v (.sl (gs.map eB)), .v (.sl (vs.map cO)), .v (.sl (es.map dx.pv))],false,none⟩)],_⟩) (fun i=>i<=vs.length) 0 (fun _=>aA _) (aI _) ?_ ?_
 ·exact lE
 ·intro i hi R hR
  by_cases hlt:i<vs.length
  ·have e1:=getD_map cO vs [] hlt;have hgo:=hR (i+1) oO oO;rw[O1 [] hlt]at hgo;generalize (vs.take i).any (fun b=>b==[])=b1 at*
   generalize vs.getD i []=x at*;clear hR hk;simp only[cO]at e1;cases b1
   ·rw[lA]at hgo;exact jN (aN @l2 @e1) @hgo
   ·rw[pL]at hgo;exact jN (aN @l2 @e1) @hgo
  ·obtain rfl:i=vs.length:=oO;rw[cd]
   cases hb:vs.any (fun b=>b==[])with
   |false=>
    exact gi @l2
   |true=>
    rw[hb]at hk;simp only[bV,lA,ba,fJ]at hk;obtain⟨⟨hk1,hk2⟩,hk3⟩:=hk;generalize bM gs=q at*;clear hR hb;refine oZ (aN @l2 @hk1) @hor ?_;refine af (α:=Nat) (fun i=>gs.length-i) (fun i=>⟨[(1, .p 1000 0 0),(5, .v (.s q)),(6,E' i)],[(1000,⟨0,[.v (.sl (gs.map eB)), .v (.sl (vs.map cO)), .v (.sl (es.map dx.pv))],false,none⟩)],_⟩) (fun i=>i<=gs.length) 0 (fun _=>aA _) (aI _) ?_ ?_
    ·exact lE
    ·intro i hi R hR
     by_cases hlt:i<gs.length
     ·have e1:=getD_map eB gs fj hlt;have hgo:=hR (i+1) oO oO;have ho:GS q (gs.getD i fj)=false:=by
       have:=xV.1 hk2 _ (an fj hlt);simpa using this
      obtain⟨x,hx⟩: ∃x,x=gs.getD i fj:=⟨_,rfl⟩;rw[<-hx]at e1 ho;clear hR hx hk2 hk3;obtain⟨m,o⟩:=x;simp only[eB,GS]at e1 ho
      by_cases h0:(o==([]:Bytes))=true
      ·exact jN (aN @l1 (aN @e1 @h0)) @hgo
      ·have h0:(o==([]:Bytes))=false:=by simpa using h0
       have h1:(o==q)=true:=by rw[h0]at ho;simpa using ho
       exact jN (aN @l1 (aN @e1 (aN @h0 @h1))) @hgo
     ·obtain rfl:i=gs.length:=oO;clear hR;refine dH @l1 ?_;refine af (α:=Nat) (fun i=>es.length-i) (fun i=>⟨[(1, .p 1000 0 0),(7,E' i)],[(1000,⟨0,[.v (.sl (gs.map eB)), .v (.sl (vs.map cO)), .v (.sl (es.map dx.pv))],false,none⟩)],_⟩) (fun i=>i<=es.length) 0 (fun _=>aA _) (aI _) ?_ ?_
      ·exact lE
      ·intro i hi R hR
       by_cases hlt:i<es.length
       ·have e1:=getD_map dx.pv es hG hlt;obtain⟨q1,q2,-,q4,q5⟩:=hq _ (an hG hlt);have hbq:=bH.1 hk3 _ (an hG hlt);have hgo:=hR (i+1) oO oO;obtain⟨x,hx⟩: ∃x,x=es.getD i hG:=⟨_,rfl⟩;rw[<-hx]at e1 q1 q2 q4 q5 hbq;obtain⟨gr,tg,ts⟩:=x;simp only at q1 q2 q4 q5;have hgl:gr.toNat<gs.length:=oO;have e3:=getD_map eB gs fj hgl;have hbb:Jw gs vs ⟨gr,tg,ts⟩=((gs.getD gr.toNat fj).2==[]&&ts.any (AI vs)):=rfl;rw[hbb]at hbq;obtain⟨z,hz⟩: ∃z,z=gs.getD gr.toNat fj:=⟨_,rfl⟩;rw[<-hz]at e3 hbq;obtain⟨m,o⟩:=z;simp only at hbq;have l4:(ts.map eT.pv).length=ts.length:=aC ..;simp only[dx.pv]at e1;simp only[eB]at e3;clear hR hx hz hbb;refine dH (aN @l3 @e1) ?_;refine af (α:=Nat) (fun i=>ts.length-i) (fun j=>⟨[(1, .p 1000 0 0),(7,E' i),(8, .p 1033 0 0),(9,E' j)],[(1000,⟨0,[.v (.sl (gs.map eB)), .v (.sl (vs.map cO)), .v (.sl (es.map dx.pv))],false,none⟩),(1033,⟨0,[.v (.i .i64 gr), .v (.s tg), .v (.sl (ts.map eT.pv))],false,some 154⟩)],_⟩) (fun i=>i<=ts.length) 0 (fun _=>aA _) (aI _) ?_ ?_
        ·exact lE
        ·intro j hj R' hR'
         by_cases hjt:j<ts.length
         ·have e2:=getD_map eT.pv ts fp hjt;obtain⟨t1,t2,-,-⟩:=q5 _ (an fp hjt);have hgo':=hR' (j+1) oO oO;have hbt:((o==[])&&AI vs (ts.getD j fp))=false:=by
           cases h0:(o==([]:Bytes))with
           |false=>rfl
           |true=>
            rw[h0]at hbq;have h2:ts.any (AI vs)=false:=by simpa using hbq
            have:=xV.1 h2 _ (an fp hjt);simpa using this
          obtain⟨y,hy⟩: ∃y,y=ts.getD j fp:=⟨_,rfl⟩;rw[<-hy]at e2 t1 t2 hbt;obtain⟨b,v,n,a⟩:=y;simp only at t1 t2;have e4:=getD_map cO vs [] (i:=v.toNat) oO;simp only[AI]at hbt;simp only[eT.pv]at e2;clear hR' hy hbq q5;generalize vs.getD v.toNat []=u at*;simp only[cO]at e4;generalize h0:(o==([]:Bytes))=p0 at*;generalize h1:(u==([]:Bytes))=p1 at*;cases p1
          ·refine dI (aN @l2 (aN @l4 (aN @e2 (aN @e4 @h1)))) ?_;refine hgo' _ ?_;exact lE
          ·have h0:(o==([]:Bytes))=false:=by rw[h0];simpa using hbt
           refine dI (aN @l1 (aN @l2 (aN @l4 (aN @e2 (aN @e3 (aN @e4 (aN @h1 @h0))))))) ?_;refine hgo' _ ?_;exact lE
         ·obtain rfl:j=ts.length:=oO;exact jN (aN @l3 @l4) @hgo
       ·obtain rfl:i=es.length:=oO;exact gi @l3
theorem KL {s:cU} (hs:Ca s):aE 293 [s.pv] (E 0):=by
 have h1:=Hl hs.m fun b hb=>(hs.v b hb).1
 have h2:=Ou hs.m;have h3:=C7 hs.m;have h4:=Sa hs;clear hs;have h5:aE 298 [s.pv] (E 0):=by
  unfold cU.pv at*;refine eW call298 func298 ?_;exact z4 @h2 @h3 @h4 oT
 unfold cU.pv at*;refine eW call293 func293 ?_;exact z2 @h1 @h5
theorem BL {M:Nat}: ∀(l:List (Nat×(Bool×Bytes))) (x:Nat),x<M->gI M x l=x*wO M l%M
 |[],x,h=>by rw[xt,jx,db,b9 h];rfl
 |(a,e)::r,x,h=>by
  rw[gI,BL r _ (aL _ oO),qn,jM,jx,cM]
theorem Ls {P:Program} [cG P] {Q:AX->AS->Prop} {nx:Nat} {bf:Option (List Nat)} {nn:Nat} {d:Option Nat} {ops:List kB} {k:Nat} {s:AS} {tr:List (Nat×List Nat×List Nat)} {K:List Fr} {nm:Nat} {f:FuncId} {α β:Type} {g:α->PV} {g':β->PV} {z n ver m z' n' ver' m':Nat} {l:List α} {l':List β} {gr gr':Bool} {el el':Option TypeId} {x r:PV}
  (he:rv P f [x, .sl (l.map g), .sl (l'.map g')] r) (hrow:dL g z) (hrow':dL g' z') (hr:r.flat=true) (hg:ay s.h n=some ⟨ver,aX g l,gr,el⟩) (hg':ay s.h n'=some ⟨ver',aX g' l',gr',el'⟩) (hm:m=l.length) (hm':m'=l'.length) (hK:RW P Q nx bf nn ops (k+1) (s.tU d (.v r) []) (At bf k [n,n'] [] tr) K):
  CR P Q nx bf nn nm (.v (.fn (.func f))) [.v x, .rs n ver 0 m z, .rs n' ver' 0 m' z'] d ops k s tr K:=by
 refine o5 he ?_ hr ?_
 ·simp[bz,qV hrow hm hg,qV hrow' hm' hg'];rfl
 ·have:[AV.v x,AV.rs n ver 0 m z,AV.rs n' ver' 0 m' z'].flatMap (aU (ay s.h) 9)=[n,n']:=by simp[pC hrow hm hg,pC hrow' hm' hg'];rfl
  rw[this];exact hK
abbrev D8:=Nat×(Bool×Bytes)
def d0F:D8:=(0,(false,[]))
def wk (l:List (Bool×Bytes)) (t:eT):D8:=
 (num t.base,((t.neg !=(l.getD t.var.toNat fU).1)&& !(aY (num t.abs*num (l.getD t.var.toNat fU).2)==[]),aY (num t.abs*num (l.getD t.var.toNat fU).2)))
def Pp (c:Bytes) (l:List (Bool×Bytes)) (q:dx):List D8:=(num q.tgt,(!(c==[]),c))::q.terms.map (wk l)
theorem QP {M:Nat} (h0:0<M) (l:List (Bool×Bytes)) (t:eT) (hu:fD M (num t.base)):de M (wk l t).1 (wk l t).2.1 (num (wk l t).2.2)=de M (de M (num t.base) t.neg (num t.abs)) (l.getD t.var.toNat fU).1 (num (l.getD t.var.toNat fU).2):=by
 rw[BI hu h0];unfold wk;simp only[aQ]
 by_cases hz:num t.abs*num (l.getD t.var.toNat fU).2=0
 ·rw[hz,oL,oL]
 ·have:(aY (num t.abs*num (l.getD t.var.toNat fU).2)==([]:Bytes))=false:=si hz;rw[this];simp
theorem qo {M:Nat} (h0:0<M) (l:List (Bool×Bytes)): ∀(ts:List eT) (x:Nat),(∀t∈ts,fD M (num t.base))->gI M x (ts.map (wk l))=ts.foldl (r9 M l) x
 |[],x,_=>rfl
 |t::ts,x,h=>by
  rw[bC,List.foldl_cons,show wk l t=((wk l t).1,(wk l t).2.1,(wk l t).2.2)from rfl,gI,QP h0 l t (h t (pM ..)),qo h0 l ts _ fun t ht=>h t (iY _ ht)]
  rfl
theorem uZ:dL (fun p:D8=>N p.1) 1:=⟨fun _=>rfl,fun _ y hy=>by cases cR.1 hy;rfl,fun _ _=>rfl,fun h=>aM rfl h⟩
theorem u6:dL uF 2:=⟨fun _=>rfl,fun x y hy=>by simp[uF,PV.cells]at hy;rcases hy with rfl|rfl<;>rfl,fun h=>oO,fun _ x=>rfl⟩
def TY (s:cU):Prop:= ∀q∈s.eqs,q.terms≠[]/\ ∀t∈q.terms,t.abs.length<=8
theorem KE {s:cU} (hs:TZ s) (hT:TY s) (h0:s.eqs≠[]) {c:Bytes} (vc:aa c=true) {l:List (Bool×Bytes)} (hlen:l.length=s.vars.length) (hl: ∀x∈l,x.2.length<=24):aE 321 [s.pv, .s c, .sl (l.map cT)] (.sl (s.eqs.map fun q=>N (gG s.groups c l q))):=by
 obtain⟨gs,vs,es⟩:=s;obtain⟨hg,hq,ng,nv,ne⟩:=hs;unfold TY at hT;simp only at hg hq ng nv ne h0 hlen hT;have hpos:0<es.length:=iX.2 h0;have l1:(gs.map eB).length=gs.length:=aC ..;have l3:(es.map dx.pv).length=es.length:=aC ..;have l5:(l.map cT).length=l.length:=aC ..;have nt:=KD false c;have hM:dL (fun q=>N (gG gs c l q)) 1:=⟨fun _=>rfl,fun _ y hy=>by cases cR.1 hy;rfl,fun _ _=>rfl,fun h=>aM rfl h⟩
 have row1: ∀{i:Nat},i<es.length->aX (fun q=>N (gG gs c l q)) (es.take (i+1))=aX (fun q=>N (gG gs c l q)) (es.take i)++[.v (N (gG gs c l (es.getD i hG)))]:=fun h=>by
  rw[aS hG h,bU];rfl
 have rn1:aX (fun q=>N (gG gs c l q)) []=[]:=rfl
 unfold cU.pv;simp only;refine eW call321 func321 ?_;refine qB ?_;refine ai ?_;have e1:=getD_map dx.pv es hG hpos;obtain⟨q1,q2,q3,q4,kt⟩:=hq _ (an hG hpos);obtain⟨k0,kn⟩:=hT _ (an hG hpos);have r1:=row1 hpos;obtain⟨x,hx⟩: ∃x,x=es.getD 0 hG:=⟨_,rfl⟩;rw[<-hx]at e1 q1 q2 q3 q4 kt kn k0 r1;clear hx;obtain⟨gr,tg,ts⟩:=x;simp only at q1 q2 q3 q4 kt kn k0;have hgl:gr.toNat<gs.length:=oO;have kg:=hg _ (an fj hgl);have e3:=getD_map eB gs fj hgl;have hmQ:gG gs c l ⟨gr,tg,ts⟩=ts.foldl (r9 (num (gs.getD gr.toNat fj).1) l) (de (num (gs.getD gr.toNat fj).1) (num tg) (!(c==[])) (num c)):=rfl;obtain⟨z,hz⟩: ∃z,z=gs.getD gr.toNat fj:=⟨_,rfl⟩;rw[<-hz]at q3 kt kg e3 hmQ;clear hz;obtain⟨m,o⟩:=z;simp only at q3 kt kg hmQ;obtain⟨kE,klm,klo⟩:=kg;obtain⟨vt,gt⟩:=(ct kE).1 q3;have m1:=(jf kE).2.2.1;obtain⟨P,hP⟩: ∃P,P=Pp c l ⟨gr,tg,ts⟩:=⟨_,rfl⟩;have hPl:P.length=ts.length+1:=by rw[hP,Pp,List.length_cons,aC]
 have hPs: ∀k,k<ts.length->P.take (k+2)=P.take (k+1)++[wk l (ts.getD k fp)]:=fun k hk=>by
  rw[aS d0F (show k+1<P.length by omega),hP,Pp]
  congr 2;simp[br,hk]
 have hP1:P.take 1=[(num tg,(!(c==[]),c))]:=by rw[hP];rfl
 have hp:=oj klm klo kE P oO (fun p hp=>by
  rw[hP,Pp]at hp;rcases cb.1 hp with rfl|hp
  ·exact⟨gt,vc,by cases(c==([]:Bytes))<;>rfl⟩
  ·obtain⟨t,ht,rfl⟩:=bm.1 hp;obtain⟨t1,t2,t3,t4⟩:=kt t ht;have ta:=kn t ht;have kr:=hl _ (an fU (show t.var.toNat<l.length by omega))
   refine⟨((ct kE).1 t3).2,?_,?_⟩
   ·have hpl:num t.abs*num (l.getD t.var.toNat fU).2<256^32:=by
     have h1:num t.abs<256^8:=bE (cC _) (dc oC ta);have h2:num (l.getD t.var.toNat fU).2<256^24:=bE (cC _) (dc oC kr);have:=ga h1 h2
     rwa[<-cY]at this
    exact vB (bE hpl (dc oC oC))
   ·simp only[wk]
    cases(aY (num t.abs*num (l.getD t.var.toNat fU).2)==([]:Bytes))<;>simp)
 have hval:gI (num m) 1 P=gG gs c l ⟨gr,tg,ts⟩:=by
  rw[hP,Pp,hmQ,gI,jL,qo oO l ts _ fun t ht=>((ct kE).1 (kt t ht).2.2.1).2.unit]
  congr 1;exact b9 (aL _ oO)
 rw[hval]at hp;clear hval hmQ hP gt;generalize gG gs c l ⟨gr,tg,ts⟩=mm at*;have tpos:0<ts.length:=iX.2 k0;have l4:(ts.map eT.pv).length=ts.length:=aC ..;simp only[eB]at e3;simp only[dx.pv]at e1;refine oZ (aN @l1 (aN @l3 (aN @e1 (aN @l4 @l5)))) @nt ?_;refine ai ?_;have f1:=getD_map eT.pv ts fp tpos;obtain⟨t1,t2,t3,t4⟩:=kt _ (an fp tpos);have ta:=kn _ (an fp tpos);have gP:=hPs 0 tpos;have g1:aX (fun p:D8=>N p.1) (P.take (0+2))=aX (fun p:D8=>N p.1) (P.take (0+1))++[.v (N (num (ts.getD 0 fp).base))]:=by rw[gP,bU];rfl
 have g2:aX uF (P.take (0+2))=aX uF (P.take (0+1))++[.v (.b (wk l (ts.getD 0 fp)).2.1), .v (.s (wk l (ts.getD 0 fp)).2.2)]:=by rw[gP,bU];rfl
 simp only[wk]at g2;obtain⟨y,hy⟩: ∃y,y=ts.getD 0 fp:=⟨_,rfl⟩;rw[<-hy]at f1 t1 t2 t3 t4 ta g1 g2;clear hy gP;obtain⟨b,v,n,a⟩:=y;simp only at t1 t2 t3 t4 ta g1 g2;rw[eH (gO kE t3)]at g1;have f2:=getD_map cT l fU (i:=v.toNat) oO;have kr:=hl _ (an fU (show v.toNat<l.length by omega))
 have hd3: ∀ _:True,v<(l.length:Int):=fun _=>oO
 obtain⟨u,hu⟩: ∃u,u=l.getD v.toNat fU:=⟨_,rfl⟩;rw[<-hu]at f2 kr g2;clear hu;obtain⟨rn,ra⟩:=u;simp only at kr g2;have hx:=nN n rn (a1:=a) (a2:=ra) oO oO;generalize aY (num a*num ra)=pp at*;generalize ((n !=rn)&& !(pp==[]))=sg at*;simp only[eT.pv]at f1;simp only[cT]at f2;refine HH (aN @l1 (aN @l3 (aN @e1 (aN @f1 (aN @f2 (aN @l4 (aN @l5 (hd3 oT)))))))) @nt @hx ?_;refine af (α:=Nat) (fun j=>ts.length-(j+1)) (fun j=>⟨[(1, .v (.s c)),(2, .v (.sl (l.map cT))),(3, .p 1000 0 0),(7, .sn),(8,E' 0),(9, .p 1014 0 0),(10, .rs 1039 j 0 (j+2) 1),(11, .rs 1059 j 0 (j+2) 2),(12,E' (j+1))],[(1000,⟨0,[.v (.sl (gs.map eB)), .v (.sl (vs.map cO)), .v (.sl (es.map dx.pv))],false,none⟩),(1014,⟨0,[.v (.i .i64 gr), .v (.s tg), .v (.sl (ts.map eT.pv))],false,some 154⟩),(1039,⟨j,aX (fun p:D8=>N p.1) (P.take (j+2)),true,some 22⟩),(1059,⟨j,aX uF (P.take (j+2)),true,some 77⟩)],1064⟩) (fun j=>j+1<=ts.length) 0 (fun _=>bQ rfl) tpos ?_ ?_
 ·have z1:aX (fun p:D8=>N p.1) (P.take (0+1))=[.v (.s tg)]:=by rw[hP1,<-eH vt];rfl
  have z2:aX uF (P.take (0+1))=[.v (.b (!(c==[]))), .v (.s c)]:=by rw[hP1];rfl
  rw[g1,g2,z1,z2];simp only[List.cons_append,List.nil_append]
  (refine AS.Le.of (by first|decide|omega) ?_ ?_<;>simp[dC,dA,aP,ay,AV.bd,AV.bd.bdL,u8,ar,au,az])
  skip
 ·clear f1 f2 hx g1 g2 t1 t2 t3 t4 ta kr hd3;intro j hj R' hR';have hj1:(P.take (j+2)).length=j+2:=by rw[bL];omega
  have b1:=cj uZ (P.take (j+2));have b2:=cq uZ (P.take (j+2));have b5:=cj u6 (P.take (j+2));have b6:=cq u6 (P.take (j+2));rw[hj1]at b1 b2 b5 b6;rw[db]at b1 b2
  by_cases hjt:j+1<ts.length
  ·have hgo':=hR' (j+1) oO oO;clear hR';have f1:=getD_map eT.pv ts fp hjt;obtain⟨t1,t2,t3,t4⟩:=kt _ (an fp hjt);have ta:=kn _ (an fp hjt);have gP:=hPs (j+1) hjt;have g1:aX (fun p:D8=>N p.1) (P.take ((j+1)+2))=aX (fun p:D8=>N p.1) (P.take ((j+1)+1))++[.v (N (num (ts.getD (j+1) fp).base))]:=by rw[gP,bU];rfl
   have g2:aX uF (P.take ((j+1)+2))=aX uF (P.take ((j+1)+1))++[.v (.b (wk l (ts.getD (j+1) fp)).2.1), .v (.s (wk l (ts.getD (j+1) fp)).2.2)]:=by rw[gP,bU];rfl
   simp only[wk]at g2;obtain⟨y,hy⟩: ∃y,y=ts.getD (j+1) fp:=⟨_,rfl⟩;rw[<-hy]at f1 t1 t2 t3 t4 ta g1 g2;clear hy gP;obtain⟨b,v,n,a⟩:=y;simp only at t1 t2 t3 t4 ta g1 g2;rw[eH (gO kE t3)]at g1;have f2:=getD_map cT l fU (i:=v.toNat) oO;have kr:=hl _ (an fU (show v.toNat<l.length by omega))
   have hd3: ∀ _:True,v<(l.length:Int):=fun _=>oO
   obtain⟨u,hu⟩: ∃u,u=l.getD v.toNat fU:=⟨_,rfl⟩;rw[<-hu]at f2 kr g2;clear hu;obtain⟨rn,ra⟩:=u;simp only at kr g2;have hx:=nN n rn (a1:=a) (a2:=ra) oO oO;generalize aY (num a*num ra)=pp at*;generalize ((n !=rn)&& !(pp==[]))=sg at*;simp only[eT.pv]at f1;simp only[cT]at f2;rw[g1,g2]at hgo';refine jm (aN @l4 (aN @l5 (aN @f1 (aN @f2 (aN @b1 (aN @b2 (aN @b5 (aN @b6 (hd3 oT))))))))) @hx ?_;refine hgo' _ ?_
   (refine AS.Le.of (by first|decide|omega) ?_ ?_<;>simp[dC,dA,aP,ay,AV.bd,AV.bd.bdL,u8,ar,au,az])
   all_goals ((repeat' apply And.intro)<;>(intro c hc;first|exact cL hc|(rcases hc with h|h<;>first|exact cL h|(rcases h with rfl|rfl<;>rfl)|(subst h;rfl))))
  ·obtain hjv:j+2=P.length:=oO;clear hR';rw[hjv,cd]at b1 b2 b5 b6;rw[hjv,cd];repeat' first|simp only[go_sem,seval,l1,l3,l4,e1,e3]|(refine Ls (l:=P) (g:=fun p:D8=>N p.1) (l':=P) (g':=uF) (gr:=true) (gr':=true) (el:=some 22) (el':=some 77) hp uZ u6 rfl (by simp[ay]) (by simp[ay]) rfl rfl ?_)|refine oE ?_|apply xX<;>intro hc
   refine af (α:=Nat) (fun j=>es.length-(j+1)) (fun j=>⟨[(1, .v (.s c)),(2, .v (.sl (l.map cT))),(3, .p 1000 0 0),(7, .rs 1086 j 0 (j+1) 1),(8,E' (j+1))],[(1000,⟨0,[.v (.sl (gs.map eB)), .v (.sl (vs.map cO)), .v (.sl (es.map dx.pv))],false,none⟩),(1086,⟨j,aX (fun q=>N (gG gs c l q)) (es.take (j+1)),true,some 22⟩)],1091⟩) (fun j=>j+1<=es.length) 0 (fun _=>bQ rfl) hpos ?_ ?_
   ·rw[dF,r1,List.take_zero,rn1];exact lE
   ·clear e1 e3 q1 q2 q3 q4 hp r1 b1 b2 b5 b6 hjv l4 tpos kn k0 kt hPl hPs hP1 vt kE;intro i hi R hR;have hj1:(es.take (i+1)).length=i+1:=by rw[bL];omega
    have p1:=cj hM (es.take (i+1));have p2:=cq hM (es.take (i+1));rw[hj1,db]at p1 p2
    by_cases hlt:i+1<es.length
    ·have hgo:=hR (i+1) oO oO;clear hR;have e1:=getD_map dx.pv es hG hlt;obtain⟨q1,q2,q3,q4,kt⟩:=hq _ (an hG hlt);obtain⟨k0,kn⟩:=hT _ (an hG hlt);have r1:=row1 hlt;obtain⟨x,hx⟩: ∃x,x=es.getD (i+1) hG:=⟨_,rfl⟩;rw[<-hx]at e1 q1 q2 q3 q4 kt kn k0 r1;clear hx;obtain⟨gr,tg,ts⟩:=x;simp only at q1 q2 q3 q4 kt kn k0;have hgl:gr.toNat<gs.length:=oO;have kg:=hg _ (an fj hgl);have e3:=getD_map eB gs fj hgl;have hmQ:gG gs c l ⟨gr,tg,ts⟩=ts.foldl (r9 (num (gs.getD gr.toNat fj).1) l) (de (num (gs.getD gr.toNat fj).1) (num tg) (!(c==[])) (num c)):=rfl;obtain⟨z,hz⟩: ∃z,z=gs.getD gr.toNat fj:=⟨_,rfl⟩;rw[<-hz]at q3 kt kg e3 hmQ;clear hz;obtain⟨m,o⟩:=z;simp only at q3 kt kg hmQ;obtain⟨kE,klm,klo⟩:=kg;obtain⟨vt,gt⟩:=(ct kE).1 q3;have m1:=(jf kE).2.2.1;obtain⟨P,hP⟩: ∃P,P=Pp c l ⟨gr,tg,ts⟩:=⟨_,rfl⟩;have hPl:P.length=ts.length+1:=by rw[hP,Pp,List.length_cons,aC]
     have hPs: ∀k,k<ts.length->P.take (k+2)=P.take (k+1)++[wk l (ts.getD k fp)]:=fun k hk=>by
      rw[aS d0F (show k+1<P.length by omega),hP,Pp]
      congr 2;simp[br,hk]
     have hP1:P.take 1=[(num tg,(!(c==[]),c))]:=by rw[hP];rfl
     have hp:=oj klm klo kE P oO (fun p hp=>by
      rw[hP,Pp]at hp;rcases cb.1 hp with rfl|hp
      ·exact⟨gt,vc,by cases(c==([]:Bytes))<;>rfl⟩
      ·obtain⟨t,ht,rfl⟩:=bm.1 hp;obtain⟨t1,t2,t3,t4⟩:=kt t ht;have ta:=kn t ht;have kr:=hl _ (an fU (show t.var.toNat<l.length by omega))
       refine⟨((ct kE).1 t3).2,?_,?_⟩
       ·have hpl:num t.abs*num (l.getD t.var.toNat fU).2<256^32:=by
         have h1:num t.abs<256^8:=bE (cC _) (dc oC ta);have h2:num (l.getD t.var.toNat fU).2<256^24:=bE (cC _) (dc oC kr);have:=ga h1 h2
         rwa[<-cY]at this
        exact vB (bE hpl (dc oC oC))
       ·simp only[wk]
        cases(aY (num t.abs*num (l.getD t.var.toNat fU).2)==([]:Bytes))<;>simp)
     have hval:gI (num m) 1 P=gG gs c l ⟨gr,tg,ts⟩:=by
      rw[hP,Pp,hmQ,gI,jL,qo oO l ts _ fun t ht=>((ct kE).1 (kt t ht).2.2.1).2.unit]
      congr 1;exact b9 (aL _ oO)
     rw[hval]at hp;clear hval hmQ hP gt;generalize gG gs c l ⟨gr,tg,ts⟩=mm at*;have tpos:0<ts.length:=iX.2 k0;have l4:(ts.map eT.pv).length=ts.length:=aC ..;simp only[eB]at e3;simp only[dx.pv]at e1;rw[r1]at hgo;refine oZ (aN @l1 (aN @l3 (aN @e1 (aN @l4 @l5)))) @nt ?_;refine ai ?_;have f1:=getD_map eT.pv ts fp tpos;obtain⟨t1,t2,t3,t4⟩:=kt _ (an fp tpos);have ta:=kn _ (an fp tpos);have gP:=hPs 0 tpos;have g1:aX (fun p:D8=>N p.1) (P.take (0+2))=aX (fun p:D8=>N p.1) (P.take (0+1))++[.v (N (num (ts.getD 0 fp).base))]:=by rw[gP,bU];rfl
     have g2:aX uF (P.take (0+2))=aX uF (P.take (0+1))++[.v (.b (wk l (ts.getD 0 fp)).2.1), .v (.s (wk l (ts.getD 0 fp)).2.2)]:=by rw[gP,bU];rfl
     simp only[wk]at g2;obtain⟨y,hy⟩: ∃y,y=ts.getD 0 fp:=⟨_,rfl⟩;rw[<-hy]at f1 t1 t2 t3 t4 ta g1 g2;clear hy gP;obtain⟨b,v,n,a⟩:=y;simp only at t1 t2 t3 t4 ta g1 g2;rw[eH (gO kE t3)]at g1;have f2:=getD_map cT l fU (i:=v.toNat) oO;have kr:=hl _ (an fU (show v.toNat<l.length by omega))
     have hd3: ∀ _:True,v<(l.length:Int):=fun _=>oO
     obtain⟨u,hu⟩: ∃u,u=l.getD v.toNat fU:=⟨_,rfl⟩;rw[<-hu]at f2 kr g2;clear hu;obtain⟨rn,ra⟩:=u;simp only at kr g2;have hx:=nN n rn (a1:=a) (a2:=ra) oO oO;generalize aY (num a*num ra)=pp at*;generalize ((n !=rn)&& !(pp==[]))=sg at*;simp only[eT.pv]at f1;simp only[cT]at f2;refine HH (aN @l1 (aN @l3 (aN @e1 (aN @f1 (aN @f2 (aN @l4 (aN @l5 (hd3 oT)))))))) @nt @hx ?_;refine af (α:=Nat) (fun j=>ts.length-(j+1)) (fun j=>⟨[(1, .v (.s c)),(2, .v (.sl (l.map cT))),(3, .p 1000 0 0),(7, .rs 1086 i 0 (i+1) 1),(8,E' (i+1)),(9, .p 1101 0 0),(10, .rs 1126 j 0 (j+2) 1),(11, .rs 1146 j 0 (j+2) 2),(12,E' (j+1))],[(1000,⟨0,[.v (.sl (gs.map eB)), .v (.sl (vs.map cO)), .v (.sl (es.map dx.pv))],false,none⟩),(1101,⟨0,[.v (.i .i64 gr), .v (.s tg), .v (.sl (ts.map eT.pv))],false,some 154⟩),(1126,⟨j,aX (fun p:D8=>N p.1) (P.take (j+2)),true,some 22⟩),(1146,⟨j,aX uF (P.take (j+2)),true,some 77⟩),(1086,⟨i,aX (fun q=>N (gG gs c l q)) (es.take (i+1)),true,some 22⟩)],1151⟩) (fun j=>j+1<=ts.length) 0 (fun _=>bQ rfl) tpos ?_ ?_
     ·have z1:aX (fun p:D8=>N p.1) (P.take (0+1))=[.v (.s tg)]:=by rw[hP1,<-eH vt];rfl
      have z2:aX uF (P.take (0+1))=[.v (.b (!(c==[]))), .v (.s c)]:=by rw[hP1];rfl
      rw[g1,g2,z1,z2];simp only[List.cons_append,List.nil_append]
      (refine AS.Le.of (by first|decide|omega) ?_ ?_<;>simp[dC,dA,aP,ay,AV.bd,AV.bd.bdL,u8,ar,au,az])
      all_goals (intro c hc;exact cL hc)
     ·clear f1 f2 hx g1 g2 t1 t2 t3 t4 ta kr hd3;intro j hj R' hR';have hj1:(P.take (j+2)).length=j+2:=by rw[bL];omega
      have b1:=cj uZ (P.take (j+2));have b2:=cq uZ (P.take (j+2));have b5:=cj u6 (P.take (j+2));have b6:=cq u6 (P.take (j+2));rw[hj1]at b1 b2 b5 b6;rw[db]at b1 b2
      by_cases hjt:j+1<ts.length
      ·have hgo':=hR' (j+1) oO oO;clear hR';have f1:=getD_map eT.pv ts fp hjt;obtain⟨t1,t2,t3,t4⟩:=kt _ (an fp hjt);have ta:=kn _ (an fp hjt);have gP:=hPs (j+1) hjt;have g1:aX (fun p:D8=>N p.1) (P.take ((j+1)+2))=aX (fun p:D8=>N p.1) (P.take ((j+1)+1))++[.v (N (num (ts.getD (j+1) fp).base))]:=by rw[gP,bU];rfl
       have g2:aX uF (P.take ((j+1)+2))=aX uF (P.take ((j+1)+1))++[.v (.b (wk l (ts.getD (j+1) fp)).2.1), .v (.s (wk l (ts.getD (j+1) fp)).2.2)]:=by rw[gP,bU];rfl
       simp only[wk]at g2;obtain⟨y,hy⟩: ∃y,y=ts.getD (j+1) fp:=⟨_,rfl⟩;rw[<-hy]at f1 t1 t2 t3 t4 ta g1 g2;clear hy gP;obtain⟨b,v,n,a⟩:=y;simp only at t1 t2 t3 t4 ta g1 g2;rw[eH (gO kE t3)]at g1;have f2:=getD_map cT l fU (i:=v.toNat) oO;have kr:=hl _ (an fU (show v.toNat<l.length by omega))
       have hd3: ∀ _:True,v<(l.length:Int):=fun _=>oO
       obtain⟨u,hu⟩: ∃u,u=l.getD v.toNat fU:=⟨_,rfl⟩;rw[<-hu]at f2 kr g2;clear hu;obtain⟨rn,ra⟩:=u;simp only at kr g2;have hx:=nN n rn (a1:=a) (a2:=ra) oO oO;generalize aY (num a*num ra)=pp at*;generalize ((n !=rn)&& !(pp==[]))=sg at*;simp only[eT.pv]at f1;simp only[cT]at f2;rw[g1,g2]at hgo';refine jm (aN @l4 (aN @l5 (aN @f1 (aN @f2 (aN @b1 (aN @b2 (aN @b5 (aN @b6 (hd3 oT))))))))) @hx ?_;refine hgo' _ ?_
       (refine AS.Le.of (by first|decide|omega) ?_ ?_<;>simp[dC,dA,aP,ay,AV.bd,AV.bd.bdL,u8,ar,au,az])
       all_goals ((repeat' apply And.intro)<;>(intro c hc;first|exact cL hc|(rcases hc with h|h<;>first|exact cL h|(rcases h with rfl|rfl<;>rfl)|(subst h;rfl))))
      ·obtain hjv:j+2=P.length:=oO;clear hR';rw[hjv,cd]at b1 b2 b5 b6;rw[hjv,cd];repeat' first|simp only[go_sem,seval,l1,l3,l4,e1,e3,p1,p2]|(refine Ls (l:=P) (g:=fun p:D8=>N p.1) (l':=P) (g':=uF) (gr:=true) (gr':=true) (el:=some 22) (el':=some 77) hp uZ u6 rfl (by simp[ay]) (by simp[ay]) rfl rfl ?_)|refine oE ?_|apply xX<;>intro hc
       refine hgo _ ?_
       (refine AS.Le.of (by first|decide|omega) ?_ ?_<;>simp[dC,dA,aP,ay,AV.bd,AV.bd.bdL,u8,ar,au,az])
       all_goals (intro c hc;rcases hc with h|h<;>first|exact cL h|(subst h;rfl))
    ·obtain hjv:i+1=es.length:=oO;rw[hjv,cd]at p1 p2;rw[hjv,cd];have p3:=dQ hM es;have p4:chunk 1 es.length (List.flatMap (fun x=>[PV.s (aY (gG gs c l x))]) es)=es.map fun q=>N (gG gs c l q):=cJ hM es
     repeat' first|simp only[go_sem,seval,l3,p1,p2,p3,p4,ec]|refine oE ?_|apply xX<;>intro hc
     all_goals first|rfl|exact congrArg PV.sl p4
