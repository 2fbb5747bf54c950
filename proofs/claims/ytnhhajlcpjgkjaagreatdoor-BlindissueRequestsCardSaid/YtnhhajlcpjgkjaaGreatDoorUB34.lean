/- Part of the proof. -/
import Derived.Test.YtnhhajlcpjgkjaaGreatDoorUB25
set_option linter.all false
set_option maxHeartbeats 16000000
set_option maxRecDepth 100000
namespace Go.Proofs.Tryz
open Go Go.Dom Go.Num
structure Xt (s:cG):Prop where
 g: ∀p∈s.groups,p.1.length<=8/\p.2.length<=8
 v: ∀b∈s.vars,b.length<=16
 q: ∀q∈s.eqs,q.terms.length<=1000/\ ∀t∈q.terms,t.abs.length<=16
 ng:s.groups.length<=1000
 nv:s.vars.length<=1000
 ne:s.eqs.length<=1000
def gB (g:Bytes×Bytes):Bool:=aa g.1&&aa g.2
def Tc (nv:Nat) (t:dM):Bool:=(decide (0<=t.var)&&decide (t.var<nv))&&(aa t.base&&cg (t.neg,t.abs))
def Nh (ng nv:Nat) (q:c9):Bool:=(decide (0<=q.lL)&&decide (q.lL<ng)&&aa q.tgt)&&q.terms.all (Tc nv)
def qa (s:cG):Bool:=s.groups.all gB&&(s.vars.all aa&&s.eqs.all (Nh s.groups.length s.vars.length))
theorem Oc {s:cG} (hb:Xt s):aE 417 [s.pv] (E (if qa s then 0 else 3)):=by
 obtain⟨gs,vs,es⟩:=s;obtain⟨-,-,bq,ng,nv,ne⟩:=hb;simp only at bq ng nv ne;have l1:(gs.map dO).length=gs.length:=aG ..;have l2:(vs.map cz).length=vs.length:=aG ..;have l3:(es.map c9.pv).length=es.length:=aG ..;unfold cG.pv;simp only;refine eW call417 func417 ?_;refine dH @l1 ?_;refine ak (α:=Nat) (fun i=>gs.length-i) (fun i=>⟨[(1, .p 1000 0 0),(12, .v (.sl (gs.map dO))),(13,E' gs.length),(14,E' i)],[(1000,⟨0,[.v (.sl (gs.map dO)), .v (.sl (vs.map cz)), .v (.sl (es.map c9.pv))],false,none⟩)],_⟩) (fun i=>i<=gs.length/\(gs.drop i).all gB=gs.all gB) 0 (fun _=>aD _) ⟨aO _,rfl⟩ ?_ ?_
 ·exact lE
 ·rintro i ⟨hi,hf⟩ R hR
  by_cases hlt:i<gs.length
  ·have e1:=getD_map dO gs eV hlt;have hgo:=fun h=>hR (i+1) ⟨oO,h⟩ oO
   rw[aY eV hlt,List.all_cons]at hf;obtain⟨x,hx⟩: ∃x,x=gs.getD i eV:=⟨_,rfl⟩;rw[<-hx]at e1 hf;obtain⟨m,o⟩:=x;have v1:=aI m;have v2:=aI o;clear hR hx;simp only[dO]at e1
   cases hg:gB (m,o)with
   |true=>
    rw[hg,cq]at hf;obtain⟨vm,vo⟩:aa m=true/\aa o=true:=by simpa[gB]using hg
    rw[vm]at v1;rw[vo]at v2;refine tu (aN @l1 @e1) @v1 @v2 ?_;refine hgo hf _ ?_;exact lE
   |false=>
    rw[hg,cY]at hf;have hz:qa ⟨gs,vs,es⟩=false:=by simp only[qa,<-hf,cY]
    rw[hz];have hg:(aa m&&aa o)=false:=hg;clear hgo hf hz;generalize aa m=b1 at*;generalize aa o=b2 at*;exact Tj (aN @l1 @e1) @v1 @v2
  ·obtain rfl:i=gs.length:=oO;rw[dj]at hf;have hf1:gs.all gB=true:=hf.symm;clear hf hR;refine dH (aN @l1 @l2) ?_;refine ak (α:=Nat) (fun i=>vs.length-i) (fun i=>⟨[(1, .p 1000 0 0),(30, .v (.sl (vs.map cz))),(31,E' vs.length),(32,E' i)],[(1000,⟨0,[.v (.sl (gs.map dO)), .v (.sl (vs.map cz)), .v (.sl (es.map c9.pv))],false,none⟩)],_⟩) (fun i=>i<=vs.length/\(vs.drop i).all aa=vs.all aa) 0 (fun _=>aD _) ⟨aO _,rfl⟩ ?_ ?_
   ·exact lE
   ·rintro i ⟨hi,hf⟩ R hR
    by_cases hlt:i<vs.length
    ·have e1:=getD_map cz vs [] hlt;have hgo:=fun h=>hR (i+1) ⟨oO,h⟩ oO
     rw[aY [] hlt,List.all_cons]at hf;generalize vs.getD i []=x at*;have v1:=aI x;clear hR;simp only[cz]at e1
     cases hg:aa x with
     |true=>
      rw[hg]at v1;rw[hg,cq]at hf;refine iy (aN @l2 @e1) @v1 ?_;refine hgo hf _ ?_;exact lE
     |false=>
      rw[hg]at v1;rw[hg,cY]at hf;have hz:qa ⟨gs,vs,es⟩=false:=by simp only[qa,<-hf,cY,nS]
      rw[hz];clear hgo;exact jE (aN @l2 @e1) @v1
    ·obtain rfl:i=vs.length:=oO;rw[dj]at hf;have hf2:vs.all aa=true:=hf.symm;have hz:qa ⟨gs,vs,es⟩=es.all (Nh gs.length vs.length):=by simp only[qa,hf1,hf2,cq]
     rw[hz];clear hf hR hz;refine dH (aN @l2 @l3) ?_;refine ak (α:=Nat) (fun i=>es.length-i) (fun i=>⟨[(1, .p 1000 0 0),(42, .v (.sl (es.map c9.pv))),(43,E' es.length),(44,E' i)],[(1000,⟨0,[.v (.sl (gs.map dO)), .v (.sl (vs.map cz)), .v (.sl (es.map c9.pv))],false,none⟩)],_⟩) (fun i=>i<=es.length/\(es.drop i).all (Nh gs.length vs.length)=es.all (Nh gs.length vs.length)) 0 (fun _=>aD _) ⟨aO _,rfl⟩ ?_ ?_
     ·exact lE
     ·rintro i ⟨hi,hf⟩ R hR
      by_cases hlt:i<es.length
      ·have e1:=getD_map c9.pv es fJ hlt;have q4:=(bq _ (au fJ hlt)).1;have hgo:=fun h=>hR (i+1) ⟨oO,h⟩ oO
       rw[aY fJ hlt,List.all_cons]at hf;obtain⟨x,hx⟩: ∃x,x=es.getD i fJ:=⟨_,rfl⟩;rw[<-hx]at e1 q4 hf;obtain⟨gr,tg,ts⟩:=x;simp only at q4;have v1:=aI tg;have l4:(ts.map dM.pv).length=ts.length:=aG ..;simp only[c9.pv]at e1;clear hR hx
       cases hg:(decide (0<=gr)&&decide (gr<gs.length)&&aa tg)with
       |false=>
        have hq:Nh gs.length vs.length ⟨gr,tg,ts⟩=false:=by simp only[Nh,hg,cY]
        rw[hq,cY]at hf;rw[<-hf];clear hgo hf hq;generalize aa tg=b1 at*;repeat' first|simp only[go_sem,seval,l1,l3,e1]|refine cP v1 ?_|refine oE ?_|apply xX<;>intro hc
        all_goals simp_all
        all_goals omega
       |true=>
        have hq:Nh gs.length vs.length ⟨gr,tg,ts⟩=ts.all (Tc vs.length):=by simp only[Nh,hg,cq]
        rw[hq]at hf;simp only[aZ,bw]at hg;obtain⟨⟨g1,g2⟩,vt⟩:=hg;rw[vt]at v1;have hd1:decide (gr<0)=false:=bu oO;have hd2:decide (gr>=(gs.length:Int))=false:=bu oO;clear hq g1 g2 vt;refine m9 (aN @l1 (aN @l3 (aN @l4 (aN @e1 (aN @hd1 @hd2))))) @v1 ?_;refine ak (α:=Nat) (fun i=>ts.length-i) (fun j=>⟨[(1, .p 1000 0 0),(42, .v (.sl (es.map c9.pv))),(43,E' es.length),(44,E' i),(66, .v (.sl (ts.map dM.pv))),(67,E' ts.length),(68,E' j)],[(1000,⟨0,[.v (.sl (gs.map dO)), .v (.sl (vs.map cz)), .v (.sl (es.map c9.pv))],false,none⟩)],_⟩) (fun i=>i<=ts.length/\(ts.drop i).all (Tc vs.length)=ts.all (Tc vs.length)) 0 (fun _=>aD _) ⟨aO _,rfl⟩ ?_ ?_
        ·exact lE
        ·rintro j ⟨hj,hk⟩ R' hR'
         by_cases hjt:j<ts.length
         ·have e2:=getD_map dM.pv ts dE hjt;have hgo':=fun h=>hR' (j+1) ⟨oO,h⟩ oO
          rw[aY dE hjt,List.all_cons]at hk;obtain⟨y,hy⟩: ∃y,y=ts.getD j dE:=⟨_,rfl⟩;rw[<-hy]at e2 hk;obtain⟨b,v,n,a⟩:=y;have v2:=aI b;have v3:=il n a;rw[show(aa a&& !(n&&a==[]))=cg (n,a)from rfl]at v3
          simp only[dM.pv]at e2;clear hR' hy
          cases ht:Tc vs.length ⟨b,v,n,a⟩with
          |true=>
           rw[ht,cq]at hk;simp only[Tc,aZ,bw]at ht;obtain⟨⟨t1,t2⟩,t3,t4⟩:=ht;rw[t3]at v2;rw[t4]at v3;have hd3:decide (v<0)=false:=bu oO;have hd4:decide (v>=(vs.length:Int))=false:=bu oO;refine tu (aN @l2 (aN @l4 (aN @e2 (aN @hd3 @hd4)))) @v2 @v3 ?_;refine hgo' hk _ ?_;exact lE
          |false=>
           rw[ht,cY]at hk;rw[<-hk,cY]at hf;rw[<-hf];simp only[Tc]at ht;clear hgo' hgo hk hf;generalize aa b=b1 at*;generalize cg (n,a)=b2 at*;repeat' first|simp only[go_sem,seval,l2,l4,e2]|refine cP v2 ?_|refine cP v3 ?_|refine oE ?_|apply xX<;>intro hc
           all_goals simp_all
           all_goals omega
         ·obtain rfl:j=ts.length:=oO;rw[dj]at hk;rw[<-hk]at hf;refine eJ (aN @l3 @l4) ?_;refine hgo hf _ ?_;exact lE
      ·obtain rfl:i=es.length:=oO;rw[dj]at hf;rw[<-hf];exact fP @l3
def KU (s:cG):Bool:=decide (8<s.groups.length)||(decide (64<s.vars.length)||(decide (64<s.eqs.length)||s.eqs.any fun q=>decide (64<q.terms.length)))
theorem RZ {s:cG} (hb:Xt s):aE 418 [s.pv] (E (if KU s then 6 else 0)):=by
 have h1:=vg s.eqs _ _ (by have:=hb.ne;omega) R4
 obtain⟨gs,vs,es⟩:=s;have ng:=hb.ng;have nv:=hb.nv;have ne:=hb.ne;simp only at ng nv ne h1;have l1:(gs.map dO).length=gs.length:=aG ..;have l2:(vs.map cz).length=vs.length:=aG ..;have l3:(es.map c9.pv).length=es.length:=aG ..;clear hb;unfold cG.pv KU;simp only;generalize (es.any fun q=>decide (64<q.terms.length))=b at*
 have d1:decide ((gs.length:Int)>8)=decide (8<gs.length):=by rw[fh];omega
 have d2:decide ((vs.length:Int)>64)=decide (64<vs.length):=by rw[fh];omega
 have d3:decide ((es.length:Int)>64)=decide (64<es.length):=by rw[fh];omega
 refine eW call418 func418 ?_;repeat' first|simp only[go_sem,seval,l1,l2,l3,d1,d2,d3]|refine cP h1 ?_|refine oE ?_|apply xX<;>intro hc
 all_goals simp_all
 all_goals omega
def lL (s:cG) (q:c9):Bytes×Bytes:=s.groups.getD q.lL.toNat eV
def Kz (gs:List (Bytes×Bytes)) (q:c9):Bool:=xq (gs.getD q.lL.toNat eV).1 (gs.getD q.lL.toNat eV).2 q.tgt&&q.terms.all fun t=>xq (gs.getD q.lL.toNat eV).1 (gs.getD q.lL.toNat eV).2 t.base
def gC (g:Bytes×Bytes):Bool:=decide (gE g.1 g.2=0)
def CP (s:cG):Bool:=s.groups.all gC&&s.eqs.all (Kz s.groups)
theorem Ni {ng nv:Nat} {q:c9} (h:Nh ng nv q=true):0<=q.lL/\q.lL<ng/\ ∀t∈q.terms,0<=t.var/\t.var<nv/\aa t.base=true/\cg (t.neg,t.abs)=true:=by
 simp only[Nh,aZ,bw]at h;refine⟨h.1.1.1,h.1.1.2,fun t ht=> ?_⟩
 have:=bH.1 h.2 t ht;simp only[Tc,aZ,bw]at this;exact⟨this.1.1,this.1.2,this.2.1,this.2.2⟩
theorem Hm {s:cG} (hb:Xt s) (hf:qa s=true):aE 419 [s.pv] (E (if CP s then 0 else 13)):=by
 obtain⟨gs,vs,es⟩:=s;obtain⟨bg,-,bq,ng,nv,ne⟩:=hb;simp only[qa,aZ]at bg bq ng nv ne hf;have hq:=bH.1 hf.2.2;have l1:(gs.map dO).length=gs.length:=aG ..;have l3:(es.map c9.pv).length=es.length:=aG ..;clear hf;unfold cG.pv;simp only;refine eW call419 func419 ?_;refine dH @l1 ?_;refine ak (α:=Nat) (fun i=>gs.length-i) (fun i=>⟨[(1, .p 1000 0 0),(9, .v (.sl (gs.map dO))),(10,E' gs.length),(11,E' i)],[(1000,⟨0,[.v (.sl (gs.map dO)), .v (.sl (vs.map cz)), .v (.sl (es.map c9.pv))],false,none⟩)],_⟩) (fun i=>i<=gs.length/\(gs.drop i).all gC=gs.all gC) 0 (fun _=>aD _) ⟨aO _,rfl⟩ ?_ ?_
 ·exact lE
 ·rintro i ⟨hi,hf⟩ R hR
  by_cases hlt:i<gs.length
  ·have e1:=getD_map dO gs eV hlt;have k:=bg _ (au eV hlt);have hgo:=fun h=>hR (i+1) ⟨oO,h⟩ oO
   rw[aY eV hlt,List.all_cons]at hf;obtain⟨x,hx⟩: ∃x,x=gs.getD i eV:=⟨_,rfl⟩;rw[<-hx]at e1 k hf;obtain⟨m,o⟩:=x;have v1:=oI k.1 k.2;clear hR hx k;simp only[dO]at e1;simp only[gC]at hf
   by_cases hg:gE m o=0
   ·rw[hg]at v1;rw[aU hg,cq]at hf;refine iy (aN @l1 @e1) @v1 ?_;refine hgo hf _ ?_;exact lE
   ·rw[bu hg,cY]at hf;have hz:CP ⟨gs,vs,es⟩=false:=by
     simp only[CP,Et];exact .inl hf.symm
    have hb:(gE m o !=0)=true:=by simpa using hg
    rw[hz];clear hgo hf hz;generalize gE m o=z at*;exact jE (aN @l1 (aN @e1 @hb)) @v1
  ·obtain rfl:i=gs.length:=oO;rw[dj]at hf;have hf1:gs.all gC=true:=hf.symm;have hz:CP ⟨gs,vs,es⟩=es.all (Kz gs):=by simp only[CP,hf1,cq]
   rw[hz];clear hf hR hz hf1;refine dH (aN @l1 @l3) ?_;refine ak (α:=Nat) (fun i=>es.length-i) (fun i=>⟨[(1, .p 1000 0 0),(20, .v (.sl (es.map c9.pv))),(21,E' es.length),(22,E' i)],[(1000,⟨0,[.v (.sl (gs.map dO)), .v (.sl (vs.map cz)), .v (.sl (es.map c9.pv))],false,none⟩)],_⟩) (fun i=>i<=es.length/\(es.drop i).all (Kz gs)=es.all (Kz gs)) 0 (fun _=>aD _) ⟨aO _,rfl⟩ ?_ ?_
   ·exact lE
   ·rintro i ⟨hi,hf⟩ R hR
    by_cases hlt:i<es.length
    ·have e1:=getD_map c9.pv es fJ hlt;obtain⟨q1,q2,-⟩:=Ni (hq _ (au fJ hlt));have q4:=(bq _ (au fJ hlt)).1;have hgo:=fun h=>hR (i+1) ⟨oO,h⟩ oO
     rw[aY fJ hlt,List.all_cons]at hf;obtain⟨x,hx⟩: ∃x,x=es.getD i fJ:=⟨_,rfl⟩;rw[<-hx]at e1 q1 q2 q4 hf;obtain⟨gr,tg,ts⟩:=x;simp only at q1 q2 q4;have hgl:gr.toNat<gs.length:=oO;have kg:=bg _ (au eV hgl);have e3:=getD_map dO gs eV hgl;simp only[Kz]at hf;obtain⟨z,hz⟩: ∃z,z=gs.getD gr.toNat eV:=⟨_,rfl⟩;rw[<-hz]at kg e3 hf;obtain⟨m,o⟩:=z;simp only at kg hf;have v1:=Nw kg.1 kg.2 tg;have v2:=vi ts _ _ _ oO (RR kg.1 kg.2);have hn:(ts.any fun t=> !xq m o t.base)= !ts.all fun t=>xq m o t.base:=jG ..
     rw[hn]at v2;simp only[dO]at e3 v2;simp only[c9.pv]at e1;clear hR hx hz kg hn hq bq bg;generalize xq m o tg=b1 at*;generalize (ts.all fun t=>xq m o t.base)=b2 at*
     cases hbb:(b1&&b2)with
     |true=>
      rw[hbb,cq]at hf;simp only[aZ]at hbb;obtain⟨rfl,rfl⟩:=hbb;repeat' first|simp only[go_sem,seval,l1,l3,e1,e3,bJ]|refine cP v1 ?_|refine cV v2 ?_|refine oE ?_|apply xX<;>intro hc
      refine hgo hf _ ?_;exact lE
     |false=>
      rw[hbb,cY]at hf;rw[<-hf];clear hgo hf;repeat' first|simp only[go_sem,seval,l1,l3,e1,e3,bJ]|refine cP v1 ?_|refine cV v2 ?_|refine oE ?_|apply xX<;>intro hc
      all_goals simp_all
    ·obtain rfl:i=es.length:=oO;rw[dj]at hf;rw[<-hf];exact fP @l3
theorem yI (l:List dM) (f:FuncId) (c:List PV) (p:dM->Bool) (hl:l.length<4611686018427387904) (h: ∀x∈l,aE f (dM.pv x::c) (.b (p x))):aE 516 [.sl (l.map dM.pv), .fc f [] c] (E (eK p 0 l)):=by
 have hlm:(l.map dM.pv).length=l.length:=aG ..;refine eW call516 func516 ?_;refine dH @hlm ?_;refine ak (α:=Nat) (fun i=>l.length-i) (fun i=>⟨[(0, .v (.sl (l.map dM.pv))),(1, .v (.fc f [] c)),(7, .v (.i .i64 l.length)),(8, .v (.i .i64 (i:Nat)))],[],_⟩) (fun i=>i<=l.length/\eK p i (l.drop i)=eK p 0 l) 0 (fun _=>aD _) ⟨aO _,rfl⟩ ?_ ?_
 ·exact lE
 ·rintro i ⟨hi,hx⟩ R hR;rw[<-hx]
  by_cases hlt:i<l.length
  ·have e1:=getD_map dM.pv l dE hlt;have hf:=h (l.getD i dE) (au dE hlt);have hgo:=hR (i+1);rw[<-hx,aY dE hlt]at hgo;rw[aY dE hlt];simp only[eK]at hgo⊢;clear hx hR h;obtain⟨b,hb⟩: ∃b,b=p (l.getD i dE):=⟨_,rfl⟩;rw[<-hb]at hf hgo⊢;clear hb;obtain⟨x,hxx⟩: ∃x,x=l.getD i dE:=⟨_,rfl⟩;rw[<-hxx]at e1 hf;clear hxx;obtain⟨tb,tv,tn,ta⟩:=x;simp only[dM.pv]at e1 hf;cases b
   ·have hgo:=hgo ⟨oO,rfl⟩ oO;repeat' first|simp only[go_sem,seval,hlm,e1]|(refine gQ hf (l9 _ _) ?_)|refine oE ?_|apply xX<;>intro hc
    refine hgo _ ?_;exact lE
   ·repeat' first|simp only[go_sem,seval,hlm,e1]|(refine gQ hf (l9 _ _) ?_)|refine oE ?_|apply xX<;>intro hc
    all_goals rfl
  ·obtain rfl:i=l.length:=oO;rw[dj];repeat' first|simp only[go_sem,seval,hlm]|refine oE ?_|apply xX<;>intro hc
   all_goals simp[eK]
theorem tB (l:List dM) (f:FuncId) (c:List PV) (p:dM->Bool) (hl:l.length<4611686018427387904) (h: ∀x∈l,aE f (dM.pv x::c) (.b (p x))):aE 482 [.sl (l.map dM.pv), .fc f [] c] (.b (l.any p)):=by
 have hi:=yI l f c p hl h;have e:decide (eK p 0 l>=0)=l.any p:=by
  rw[cX,decide_eq_true_iff];exact iY
 refine eW call482 func482 ?_;exact jE @e @hi
theorem yH (l:List (Bytes×Bytes)) (f:FuncId) (c:List PV) (p:(Bytes×Bytes)->Bool) (hl:l.length<4611686018427387904) (h: ∀x∈l,aE f (dO x::c) (.b (p x))):aE 192 [.sl (l.map dO), .fc f [] c] (E (eK p 0 l)):=by
 have hlm:(l.map dO).length=l.length:=aG ..;refine eW call192 func192 ?_;refine dH @hlm ?_;refine ak (α:=Nat) (fun i=>l.length-i) (fun i=>⟨[(0, .v (.sl (l.map dO))),(1, .v (.fc f [] c)),(7, .v (.i .i64 l.length)),(8, .v (.i .i64 (i:Nat)))],[],_⟩) (fun i=>i<=l.length/\eK p i (l.drop i)=eK p 0 l) 0 (fun _=>aD _) ⟨aO _,rfl⟩ ?_ ?_
 ·exact lE
 ·rintro i ⟨hi,hx⟩ R hR;rw[<-hx]
  by_cases hlt:i<l.length
  ·have e1:=getD_map dO l eV hlt;have hf:=h (l.getD i eV) (au eV hlt);have hgo:=hR (i+1);rw[<-hx,aY eV hlt]at hgo;rw[aY eV hlt];simp only[eK]at hgo⊢;clear hx hR h;obtain⟨b,hb⟩: ∃b,b=p (l.getD i eV):=⟨_,rfl⟩;rw[<-hb]at hf hgo⊢;clear hb;obtain⟨x,hxx⟩: ∃x,x=l.getD i eV:=⟨_,rfl⟩;rw[<-hxx]at e1 hf;clear hxx;obtain⟨gm,go⟩:=x;simp only[dO]at e1 hf;cases b
   ·have hgo:=hgo ⟨oO,rfl⟩ oO;repeat' first|simp only[go_sem,seval,hlm,e1]|(refine gQ hf (l9 _ _) ?_)|refine oE ?_|apply xX<;>intro hc
    refine hgo _ ?_;exact lE
   ·repeat' first|simp only[go_sem,seval,hlm,e1]|(refine gQ hf (l9 _ _) ?_)|refine oE ?_|apply xX<;>intro hc
    all_goals rfl
  ·obtain rfl:i=l.length:=oO;rw[dj];repeat' first|simp only[go_sem,seval,hlm]|refine oE ?_|apply xX<;>intro hc
   all_goals simp[eK]
theorem tA (l:List (Bytes×Bytes)) (f:FuncId) (c:List PV) (p:(Bytes×Bytes)->Bool) (hl:l.length<4611686018427387904) (h: ∀x∈l,aE f (dO x::c) (.b (p x))):aE 423 [.sl (l.map dO), .fc f [] c] (.b (l.any p)):=by
 have hi:=yH l f c p hl h;have e:decide (eK p 0 l>=0)=l.any p:=by
  rw[cX,decide_eq_true_iff];exact iY
 refine eW call423 func423 ?_;exact jE @e @hi
theorem BW (s:cG) (hl:s.groups.length<1000000):aE 426 [s.pv] (.s (bj s.groups)):=by
 obtain⟨gs,vs,es⟩:=s;simp only at hl;have l1:(gs.map dO).length=gs.length:=aG ..;unfold cG.pv;simp only;refine eW call426 func426 ?_;refine dH @l1 ?_;refine ak (α:=Nat) (fun i=>gs.length-i) (fun i=>⟨[(1, .p 1000 0 0),(6, .v (.sl (gs.map dO))),(7,E' gs.length),(8,E' i)],[(1000,⟨0,[.v (.sl (gs.map dO)), .v (.sl (vs.map cz)), .v (.sl (es.map c9.pv))],false,none⟩)],_⟩) (fun i=>i<=gs.length/\bj (gs.drop i)=bj gs) 0 (fun _=>aD _) ⟨aO _,rfl⟩ ?_ ?_
 ·exact lE
 ·rintro i ⟨hi,hf⟩ R hR;rw[<-hf]
  by_cases hlt:i<gs.length
  ·have e1:=getD_map dO gs eV hlt;have hgo:=hR (i+1);rw[<-hf]at hgo;rw[aY eV hlt]at hgo⊢;obtain⟨x,hx⟩: ∃x,x=gs.getD i eV:=⟨_,rfl⟩;rw[<-hx]at e1 hgo⊢;clear hx hf hR;obtain⟨m,o⟩:=x;simp only[bj]at hgo⊢;simp only[dO]at e1
   by_cases ho:o=[]
   ·subst ho;simp only[aB]at hgo⊢;have hgo:=hgo ⟨oO,trivial⟩ oO;exact jr (aN @l1 (aN @e1 @nn)) @hgo
   ·have hb:(o==([]:Bytes))=false:=by simpa using ho
    rw[af ho];exact fP (aN @l1 (aN @e1 @hb))
  ·obtain rfl:i=gs.length:=oO;rw[dj];exact fP @l1
def FB (q:Bytes) (g:Bytes×Bytes):Bool:= !(g.2==[])&& !(g.2==q)
def xt (vs:List Bytes) (t:dM):Bool:=vs.getD t.var.toNat []==[]
def Kb (gs:List (Bytes×Bytes)) (vs:List Bytes) (q:c9):Bool:=(gs.getD q.lL.toNat eV).2==[]&&q.terms.any (xt vs)
def C4 (s:cG):Bool:= !(s.vars.any fun b=>b==[])||(!(bj s.groups==[])&& !(s.groups.any (FB (bj s.groups)))&&s.eqs.all fun q=> !Kb s.groups s.vars q)
theorem VK (q:Bytes) (g:Bytes×Bytes):aE 485 [dO g, .pt (.agg [.s q]) 0] (.b (FB q g)):=by
 obtain⟨m,o⟩:=g;simp only[dO,FB];refine eW call485 func485 ?_;repeat' first|simp only[go_sem,seval,bne]|refine oE ?_|apply xX<;>intro hc
 all_goals simp_all[bne]
theorem VL {s:cG} {t:dM} (h0:0<=t.var) (h1:t.var<s.vars.length):aE 486 [t.pv, .pt s.pv 0] (.b (xt s.vars t)):=by
 obtain⟨gs,vs,es⟩:=s;obtain⟨b,v,n,a⟩:=t;simp only at h0 h1;have l2:(vs.map cz).length=vs.length:=aG ..;have e1:=getD_map cz vs [] (i:=v.toNat) oO;simp only[cG.pv,dM.pv,xt,cz]at*;refine eW call486 func486 ?_;exact fP (aN @l2 @e1)
theorem RU {s:cG} (hb:Xt s) (hf:qa s=true):aE 420 [s.pv] (E (if C4 s then 0 else 10)):=by
 have h1:=vj s.vars _ _ (by have:=hb.nv;omega) VJ
 have hor:=BW s (by have:=hb.ng;omega)
 have h2:=tA s.groups _ _ _ (by have:=hb.ng;omega) fun x _=>VK (bj s.groups) x
 have h3:=fun q (hq:q∈s.eqs)=>tB q.terms 486 [.pt s.pv 0] (xt s.vars) (by have:=(hb.q q hq).1;omega) fun t ht=>by
  simp only[qa,aZ]at hf;obtain⟨-,-,k⟩:=Ni (bH.1 hf.2.2 q hq);exact VL (k t ht).1 (k t ht).2.1
 have ng:=hb.ng;have ne:=hb.ne;have bq:=hb.q;obtain⟨gs,vs,es⟩:=s;simp only[qa,aZ]at hf ng ne bq;have hq:=bH.1 hf.2.2;have l1:(gs.map dO).length=gs.length:=aG ..;have l3:(es.map c9.pv).length=es.length:=aG ..;unfold C4;simp only at*;clear hb hf;generalize (vs.any fun b=>b==[])=bv at*
 generalize bj gs=q at*;generalize (gs.any (FB q))=bo at*;unfold cG.pv at*;simp only at*;cases bv
 ·refine eW call420 func420 ?_;exact z1 @h1
 by_cases hq0:q=[]
 ·subst hq0;refine eW call420 func420 ?_;repeat' first|simp only[go_sem,seval,bJ,nn]|refine cP h1 ?_|refine cP hor ?_|refine cV h2 ?_|refine oE ?_|apply xX<;>intro hc
  all_goals rfl
 have hb:(q==([]:Bytes))=false:=by simpa using hq0
 rw[hb];simp only[cr,cC,cq,jX];cases bo
 ·refine eW call420 func420 ?_;repeat' first|simp only[go_sem,seval,bJ,hb]|refine cP h1 ?_|refine cP hor ?_|refine cV h2 ?_|refine oE ?_|apply xX<;>intro hc
  refine ak (α:=Nat) (fun i=>es.length-i) (fun i=>⟨[(1, .p 1000 0 0),(21, .v (.sl (es.map c9.pv))),(22,E' es.length),(23,E' i)],[(1000,⟨0,[.v (.sl (gs.map dO)), .v (.sl (vs.map cz)), .v (.sl (es.map c9.pv))],false,none⟩)],_⟩) (fun i=>i<=es.length/\((es.drop i).all fun q=> !Kb gs vs q)=es.all fun q=> !Kb gs vs q) 0 (fun _=>aD _) ⟨aO _,rfl⟩ ?_ ?_
  ·exact lE
  ·rintro i ⟨hi,hf⟩ R hR
   by_cases hlt:i<es.length
   ·have e1:=getD_map c9.pv es fJ hlt;have v2:=h3 _ (au fJ hlt);obtain⟨q1,q2,-⟩:=Ni (hq _ (au fJ hlt));have hgo:=fun h=>hR (i+1) ⟨oO,h⟩ oO
    rw[aY fJ hlt,List.all_cons]at hf;obtain⟨x,hx⟩: ∃x,x=es.getD i fJ:=⟨_,rfl⟩;rw[<-hx]at e1 q1 q2 v2 hf;obtain⟨gr,tg,ts⟩:=x;simp only at q1 q2 v2;have hgl:gr.toNat<gs.length:=oO;have e3:=getD_map dO gs eV hgl;have hbq:Kb gs vs ⟨gr,tg,ts⟩=((gs.getD gr.toNat eV).2==[]&&ts.any (xt vs)):=rfl;rw[hbq]at hf;obtain⟨z,hz⟩: ∃z,z=gs.getD gr.toNat eV:=⟨_,rfl⟩;rw[<-hz]at e3 hf;obtain⟨m,o⟩:=z;simp only at hf;simp only[dO]at e3;simp only[c9.pv]at e1;clear hR hx hz h3 hq bq h1 h2 hor;generalize ts.any (xt vs)=bt at*
    by_cases ho:o=[]
    ·subst ho;cases bt
     ·simp only[nn,nS,cC,cq]at hf;repeat' first|simp only[go_sem,seval,l1,l3,e1,e3,bJ,nn,mq]|refine cV v2 ?_|refine oE ?_|apply xX<;>intro hc
      refine hgo hf _ ?_;exact lE
     ·simp only[nn,gi,cr,cY]at hf;rw[<-hf];repeat' first|simp only[go_sem,seval,l1,l3,e1,e3,bJ,nn,mq]|refine cV v2 ?_|refine oE ?_|apply xX<;>intro hc
      all_goals rfl
    ·have hob:(o==([]:Bytes))=false:=by simpa using ho
     have hob2:(o !=([]:Bytes))=true:=by simpa using ho
     simp only[hob,cY,cC,cq]at hf;repeat' first|simp only[go_sem,seval,l1,l3,e1,e3,bJ,hob,hob2]|refine cV v2 ?_|refine oE ?_|apply xX<;>intro hc
     refine hgo hf _ ?_;exact lE
   ·obtain rfl:i=es.length:=oO;rw[dj]at hf;rw[<-hf];exact fP @l3
 ·refine eW call420 func420 ?_;repeat' first|simp only[go_sem,seval,bJ,hb]|refine cP h1 ?_|refine cP hor ?_|refine cV h2 ?_|refine oE ?_|apply xX<;>intro hc
  all_goals rfl
def Oa (s:cG):Int:=if !qa s then 3 else if KU s then 6 else if !CP s then 13 else if !C4 s then 10 else 0
theorem I8 {s:cG} (hb:Xt s):aE 311 [s.pv] (E (Oa s)):=by
 have h1:=Oc hb;have h2:=RZ hb;have h3:=Hm hb;have h4:=RU hb;clear hb;unfold Oa;unfold cG.pv at*;generalize qa s=b1 at*;generalize KU s=b2 at*;generalize CP s=b3 at*;generalize C4 s=b4 at*;cases b1
 ·refine eW call311 func311 ?_;exact Tm @h1 @h2
 have h3:=h3 rfl;have h4:=h4 rfl;cases b2
 ·cases b3
  ·refine eW call311 func311 ?_;exact zu3 @h1 @h2 @h3
  ·cases b4<;>
   ·refine eW call311 func311 ?_;exact zu4 @h1 @h2 @h3 @h4
 ·refine eW call311 func311 ?_;exact Tm @h1 @h2
structure xl (s:cG):Prop where
 b:Xt s
 g: ∀p∈s.groups,gE p.1 p.2=0/\p.1.length<=8/\p.2.length<=8
 v: ∀b∈s.vars,aa b=true/\b.length<=16
 q: ∀q∈s.eqs,0<=q.lL/\q.lL<s.groups.length/\jJ (s.groups.getD q.lL.toNat eV).1 (s.groups.getD q.lL.toNat eV).2 q.tgt=true/\q.terms.length<=64/\
  ∀t∈q.terms,0<=t.var/\t.var<s.vars.length/\jJ (s.groups.getD q.lL.toNat eV).1 (s.groups.getD q.lL.toNat eV).2 t.base=true/\cg (t.neg,t.abs)=true
 ng:s.groups.length<=8
 nv:s.vars.length<=64
 ne:s.eqs.length<=64
 k:C4 s=true
theorem xl.m {s:cG} (h:xl s):UC s:=⟨h.g,h.q,h.ng,h.nv,h.ne⟩
theorem xl.ck {s:cG} (h:xl s):Oa s=0:=by
 have e1:qa s=true:=by
  simp only[qa,aZ,bH];refine⟨fun p hp=> ?_,fun b hb=>(h.v b hb).1,fun q hq=> ?_⟩
  ·obtain⟨vm,vo,-⟩:=lO (h.g p hp).1;simp[gB,vm,vo]
  ·obtain⟨q1,q2,q3,q4,q5⟩:=h.q q hq;have hg:=(h.g _ (au eV (show q.lL.toNat<s.groups.length by omega))).1
   simp only[Nh,aZ,bw,bH];refine⟨⟨⟨q1,q2⟩,gb hg q3⟩,fun t ht=> ?_⟩
   obtain⟨t1,t2,t3,t4⟩:=q5 t ht;simp only[Tc,aZ,bw];exact⟨⟨t1,t2⟩,gb hg t3,t4⟩
 have e2:KU s=false:=by
  simp only[KU,Ep,mw,nR,bw];exact⟨by have:=h.ng;omega,by have:=h.nv;omega,by have:=h.ne;omega,fun q hq=>by have:=(h.q q hq).2.2.2.1;omega⟩
 have e3:CP s=true:=by
  simp only[CP,aZ,bH];refine⟨fun p hp=>by simp[gC,(h.g p hp).1],fun q hq=> ?_⟩
  obtain⟨q1,q2,q3,q4,q5⟩:=h.q q hq;have hg:=(h.g _ (au eV (show q.lL.toNat<s.groups.length by omega))).1
  simp only[Kz,xq,hg,decide_true,cq,aZ,bH];exact⟨q3,fun t ht=>(q5 t ht).2.2.1⟩
 unfold Oa;rw[e1,e2,e3,h.k];rfl
