/- Part of the proof. -/
import Derived.Test.YthlapgdhjcddkaaGreatDoorUF24
set_option linter.all false
set_option maxHeartbeats 16000000
set_option maxRecDepth 100000
namespace Go.Proofs.Tryz
open Go Go.Dom Go.Num
structure qH (s:aT):Prop where
 g: ∀p∈s.groups,p.1.length<=8/\p.2.length<=8
 v: ∀b∈s.vars,b.length<=16
 q: ∀q∈s.eqs,q.terms.length<=1000/\ ∀t∈q.terms,t.abs.length<=16
 ng:s.groups.length<=1000
 nv:s.vars.length<=1000
 ne:s.eqs.length<=1000
def gB (g:Bytes×Bytes):Bool:=ae g.1&&ae g.2
def Ix (nv:Nat) (t:dx):Bool:=(decide (0<=t.var)&&decide (t.var<nv))&&(ae t.base&&cr (t.neg,t.abs))
def Cl (ng nv:Nat) (q:bZ):Bool:=(decide (0<=q.ig)&&decide (q.ig<ng)&&ae q.tgt)&&q.terms.all (Ix nv)
def jD (s:aT):Bool:=s.groups.all gB&&(s.vars.all ae&&s.eqs.all (Cl s.groups.length s.vars.length))
theorem OF {s:aT} (hb:qH s):aH 234 [s.pv] (E (if jD s then 0 else 3)):=by
 obtain⟨gs,vs,es⟩:=s;obtain⟨-,-,bq,ng,nv,ne⟩:=hb;simp only at bq ng nv ne;have l1:(gs.map cz).length=gs.length:=au ..;have l2:(vs.map bO).length=vs.length:=au ..;have l3:(es.map bZ.pv).length=es.length:=au ..;unfold aT.pv;simp only;refine eW call234 func234 ?_;refine dh @l1 ?_;refine ah (α:=Nat) (fun i=>gs.length-i) (fun i=>⟨[(1, .p 1000 0 0),(12, .v (.sl (gs.map cz))),(13,E' gs.length),(14,E' i)],[(1000,⟨0,[.v (.sl (gs.map cz)), .v (.sl (vs.map bO)), .v (.sl (es.map bZ.pv))],false,none⟩)],_⟩) (fun i=>i<=gs.length/\(gs.drop i).all gB=gs.all gB) 0 (fun _=>aA _) ⟨aD _,rfl⟩ ?_ ?_
 ·exact lE
 ·rintro i ⟨hi,hf⟩ R hR
  by_cases hlt:i<gs.length
  ·have e1:=getD_map cz gs dL hlt;have hgo:=fun h=>hR (i+1) ⟨oO,h⟩ oO
   rw[aE dL hlt,List.all_cons]at hf;obtain⟨x,hx⟩: ∃x,x=gs.getD i dL:=⟨_,rfl⟩;rw[<-hx]at e1 hf;obtain⟨m,o⟩:=x;have v1:=aX m;have v2:=aX o;clear hR hx;simp only[cz]at e1
   cases hg:gB (m,o)with
   |true=>
    rw[hg,bE]at hf;obtain⟨vm,vo⟩:ae m=true/\ae o=true:=by simpa[gB]using hg
    rw[vm]at v1;rw[vo]at v2;refine rz (aN @l1 @e1) @v1 @v2 ?_;refine hgo hf _ ?_;exact lE
   |false=>
    rw[hg,br]at hf;have hz:jD ⟨gs,vs,es⟩=false:=by simp only[jD,<-hf,br]
    rw[hz];have hg:(ae m&&ae o)=false:=hg;clear hgo hf hz;generalize ae m=b1 at*;generalize ae o=b2 at*;exact Ur (aN @l1 @e1) @v1 @v2
  ·obtain rfl:i=gs.length:=oO;rw[bw]at hf;have hf1:gs.all gB=true:=hf.symm;clear hf hR;refine dh (aN @l1 @l2) ?_;refine ah (α:=Nat) (fun i=>vs.length-i) (fun i=>⟨[(1, .p 1000 0 0),(30, .v (.sl (vs.map bO))),(31,E' vs.length),(32,E' i)],[(1000,⟨0,[.v (.sl (gs.map cz)), .v (.sl (vs.map bO)), .v (.sl (es.map bZ.pv))],false,none⟩)],_⟩) (fun i=>i<=vs.length/\(vs.drop i).all ae=vs.all ae) 0 (fun _=>aA _) ⟨aD _,rfl⟩ ?_ ?_
   ·exact lE
   ·rintro i ⟨hi,hf⟩ R hR
    by_cases hlt:i<vs.length
    ·have e1:=getD_map bO vs [] hlt;have hgo:=fun h=>hR (i+1) ⟨oO,h⟩ oO
     rw[aE [] hlt,List.all_cons]at hf;generalize vs.getD i []=x at*;have v1:=aX x;clear hR;simp only[bO]at e1
     cases hg:ae x with
     |true=>
      rw[hg]at v1;rw[hg,bE]at hf;refine gR (aN @l2 @e1) @v1 ?_;refine hgo hf _ ?_;exact lE
     |false=>
      rw[hg]at v1;rw[hg,br]at hf;have hz:jD ⟨gs,vs,es⟩=false:=by simp only[jD,<-hf,br,mU]
      rw[hz];clear hgo;exact iE (aN @l2 @e1) @v1
    ·obtain rfl:i=vs.length:=oO;rw[bw]at hf;have hf2:vs.all ae=true:=hf.symm;have hz:jD ⟨gs,vs,es⟩=es.all (Cl gs.length vs.length):=by simp only[jD,hf1,hf2,bE]
     rw[hz];clear hf hR hz;refine dh (aN @l2 @l3) ?_;refine ah (α:=Nat) (fun i=>es.length-i) (fun i=>⟨[(1, .p 1000 0 0),(42, .v (.sl (es.map bZ.pv))),(43,E' es.length),(44,E' i)],[(1000,⟨0,[.v (.sl (gs.map cz)), .v (.sl (vs.map bO)), .v (.sl (es.map bZ.pv))],false,none⟩)],_⟩) (fun i=>i<=es.length/\(es.drop i).all (Cl gs.length vs.length)=es.all (Cl gs.length vs.length)) 0 (fun _=>aA _) ⟨aD _,rfl⟩ ?_ ?_
     ·exact lE
     ·rintro i ⟨hi,hf⟩ R hR
      by_cases hlt:i<es.length
      ·have e1:=getD_map bZ.pv es dU hlt;have q4:=(bq _ (ai dU hlt)).1;have hgo:=fun h=>hR (i+1) ⟨oO,h⟩ oO
       rw[aE dU hlt,List.all_cons]at hf;obtain⟨x,hx⟩: ∃x,x=es.getD i dU:=⟨_,rfl⟩;rw[<-hx]at e1 q4 hf;obtain⟨gr,tg,ts⟩:=x;simp only at q4;have v1:=aX tg;have l4:(ts.map dx.pv).length=ts.length:=au ..;simp only[bZ.pv]at e1;clear hR hx
       cases hg:(decide (0<=gr)&&decide (gr<gs.length)&&ae tg)with
       |false=>
        have hq:Cl gs.length vs.length ⟨gr,tg,ts⟩=false:=by simp only[Cl,hg,br]
        rw[hq,br]at hf;rw[<-hf];clear hgo hf hq;generalize ae tg=b1 at*;repeat' first|simp only[go_sem,seval,l1,l3,e1]|refine cP v1 ?_|refine oE ?_|apply xX<;>intro hc
        all_goals simp_all
        all_goals omega
       |true=>
        have hq:Cl gs.length vs.length ⟨gr,tg,ts⟩=ts.all (Ix vs.length):=by simp only[Cl,hg,bE]
        rw[hq]at hf;simp only[bc,a8]at hg;obtain⟨⟨g1,g2⟩,vt⟩:=hg;rw[vt]at v1;have hd1:decide (gr<0)=false:=aS oO;have hd2:decide (gr>=(gs.length:Int))=false:=aS oO;clear hq g1 g2 vt;refine jA (aN @l1 (aN @l3 (aN @l4 (aN @e1 (aN @hd1 @hd2))))) @v1 ?_;refine ah (α:=Nat) (fun i=>ts.length-i) (fun j=>⟨[(1, .p 1000 0 0),(42, .v (.sl (es.map bZ.pv))),(43,E' es.length),(44,E' i),(66, .v (.sl (ts.map dx.pv))),(67,E' ts.length),(68,E' j)],[(1000,⟨0,[.v (.sl (gs.map cz)), .v (.sl (vs.map bO)), .v (.sl (es.map bZ.pv))],false,none⟩)],_⟩) (fun i=>i<=ts.length/\(ts.drop i).all (Ix vs.length)=ts.all (Ix vs.length)) 0 (fun _=>aA _) ⟨aD _,rfl⟩ ?_ ?_
        ·exact lE
        ·rintro j ⟨hj,hk⟩ R' hR'
         by_cases hjt:j<ts.length
         ·have e2:=getD_map dx.pv ts dN hjt;have hgo':=fun h=>hR' (j+1) ⟨oO,h⟩ oO
          rw[aE dN hjt,List.all_cons]at hk;obtain⟨y,hy⟩: ∃y,y=ts.getD j dN:=⟨_,rfl⟩;rw[<-hy]at e2 hk;obtain⟨b,v,n,a⟩:=y;have v2:=aX b;have v3:=gY n a;rw[show(ae a&& !(n&&a==[]))=cr (n,a)from rfl]at v3
          simp only[dx.pv]at e2;clear hR' hy
          cases ht:Ix vs.length ⟨b,v,n,a⟩with
          |true=>
           rw[ht,bE]at hk;simp only[Ix,bc,a8]at ht;obtain⟨⟨t1,t2⟩,t3,t4⟩:=ht;rw[t3]at v2;rw[t4]at v3;have hd3:decide (v<0)=false:=aS oO;have hd4:decide (v>=(vs.length:Int))=false:=aS oO;refine rz (aN @l2 (aN @l4 (aN @e2 (aN @hd3 @hd4)))) @v2 @v3 ?_;refine hgo' hk _ ?_;exact lE
          |false=>
           rw[ht,br]at hk;rw[<-hk,br]at hf;rw[<-hf];simp only[Ix]at ht;clear hgo' hgo hk hf;generalize ae b=b1 at*;generalize cr (n,a)=b2 at*;repeat' first|simp only[go_sem,seval,l2,l4,e2]|refine cP v2 ?_|refine cP v3 ?_|refine oE ?_|apply xX<;>intro hc
           all_goals simp_all
           all_goals omega
         ·obtain rfl:j=ts.length:=oO;rw[bw]at hk;rw[<-hk]at hf;refine dw (aN @l3 @l4) ?_;refine hgo hf _ ?_;exact lE
      ·obtain rfl:i=es.length:=oO;rw[bw]at hf;rw[<-hf];exact fz @l3
def sG (s:aT):Bool:=decide (8<s.groups.length)||(decide (64<s.vars.length)||(decide (64<s.eqs.length)||s.eqs.any fun q=>decide (64<q.terms.length)))
theorem S8 {s:aT} (hb:qH s):aH 235 [s.pv] (E (if sG s then 6 else 0)):=by
 have h1:=wa s.eqs _ _ (by have:=hb.ne;omega) S9
 obtain⟨gs,vs,es⟩:=s;have ng:=hb.ng;have nv:=hb.nv;have ne:=hb.ne;simp only at ng nv ne h1;have l1:(gs.map cz).length=gs.length:=au ..;have l2:(vs.map bO).length=vs.length:=au ..;have l3:(es.map bZ.pv).length=es.length:=au ..;clear hb;unfold aT.pv sG;simp only;generalize (es.any fun q=>decide (64<q.terms.length))=b at*
 have d1:decide ((gs.length:Int)>8)=decide (8<gs.length):=by rw[fk];omega
 have d2:decide ((vs.length:Int)>64)=decide (64<vs.length):=by rw[fk];omega
 have d3:decide ((es.length:Int)>64)=decide (64<es.length):=by rw[fk];omega
 refine eW call235 func235 ?_;repeat' first|simp only[go_sem,seval,l1,l2,l3,d1,d2,d3]|refine cP h1 ?_|refine oE ?_|apply xX<;>intro hc
 all_goals simp_all
 all_goals omega
def ig (s:aT) (q:bZ):Bytes×Bytes:=s.groups.getD q.ig.toNat dL
def zZ (gs:List (Bytes×Bytes)) (q:bZ):Bool:=vX (gs.getD q.ig.toNat dL).1 (gs.getD q.ig.toNat dL).2 q.tgt&&q.terms.all fun t=>vX (gs.getD q.ig.toNat dL).1 (gs.getD q.ig.toNat dL).2 t.base
def gC (g:Bytes×Bytes):Bool:=decide (gE g.1 g.2=0)
def pS (s:aT):Bool:=s.groups.all gC&&s.eqs.all (zZ s.groups)
theorem Cm {ng nv:Nat} {q:bZ} (h:Cl ng nv q=true):0<=q.ig/\q.ig<ng/\ ∀t∈q.terms,0<=t.var/\t.var<nv/\ae t.base=true/\cr (t.neg,t.abs)=true:=by
 simp only[Cl,bc,a8]at h;refine⟨h.1.1.1,h.1.1.2,fun t ht=> ?_⟩
 have:=bz.1 h.2 t ht;simp only[Ix,bc,a8]at this;exact⟨this.1.1,this.1.2,this.2.1,this.2.2⟩
theorem HM {s:aT} (hb:qH s) (hf:jD s=true):aH 236 [s.pv] (E (if pS s then 0 else 13)):=by
 obtain⟨gs,vs,es⟩:=s;obtain⟨bg,-,bq,ng,nv,ne⟩:=hb;simp only[jD,bc]at bg bq ng nv ne hf;have hq:=bz.1 hf.2.2;have l1:(gs.map cz).length=gs.length:=au ..;have l3:(es.map bZ.pv).length=es.length:=au ..;clear hf;unfold aT.pv;simp only;refine eW call236 func236 ?_;refine dh @l1 ?_;refine ah (α:=Nat) (fun i=>gs.length-i) (fun i=>⟨[(1, .p 1000 0 0),(9, .v (.sl (gs.map cz))),(10,E' gs.length),(11,E' i)],[(1000,⟨0,[.v (.sl (gs.map cz)), .v (.sl (vs.map bO)), .v (.sl (es.map bZ.pv))],false,none⟩)],_⟩) (fun i=>i<=gs.length/\(gs.drop i).all gC=gs.all gC) 0 (fun _=>aA _) ⟨aD _,rfl⟩ ?_ ?_
 ·exact lE
 ·rintro i ⟨hi,hf⟩ R hR
  by_cases hlt:i<gs.length
  ·have e1:=getD_map cz gs dL hlt;have k:=bg _ (ai dL hlt);have hgo:=fun h=>hR (i+1) ⟨oO,h⟩ oO
   rw[aE dL hlt,List.all_cons]at hf;obtain⟨x,hx⟩: ∃x,x=gs.getD i dL:=⟨_,rfl⟩;rw[<-hx]at e1 k hf;obtain⟨m,o⟩:=x;have v1:=pw k.1 k.2;clear hR hx k;simp only[cz]at e1;simp only[gC]at hf
   by_cases hg:gE m o=0
   ·rw[hg]at v1;rw[aQ hg,bE]at hf;refine gR (aN @l1 @e1) @v1 ?_;refine hgo hf _ ?_;exact lE
   ·rw[aS hg,br]at hf;have hz:pS ⟨gs,vs,es⟩=false:=by
     simp only[pS,EN];exact .inl hf.symm
    have hb:(gE m o !=0)=true:=by simpa using hg
    rw[hz];clear hgo hf hz;generalize gE m o=z at*;exact iE (aN @l1 (aN @e1 @hb)) @v1
  ·obtain rfl:i=gs.length:=oO;rw[bw]at hf;have hf1:gs.all gC=true:=hf.symm;have hz:pS ⟨gs,vs,es⟩=es.all (zZ gs):=by simp only[pS,hf1,bE]
   rw[hz];clear hf hR hz hf1;refine dh (aN @l1 @l3) ?_;refine ah (α:=Nat) (fun i=>es.length-i) (fun i=>⟨[(1, .p 1000 0 0),(20, .v (.sl (es.map bZ.pv))),(21,E' es.length),(22,E' i)],[(1000,⟨0,[.v (.sl (gs.map cz)), .v (.sl (vs.map bO)), .v (.sl (es.map bZ.pv))],false,none⟩)],_⟩) (fun i=>i<=es.length/\(es.drop i).all (zZ gs)=es.all (zZ gs)) 0 (fun _=>aA _) ⟨aD _,rfl⟩ ?_ ?_
   ·exact lE
   ·rintro i ⟨hi,hf⟩ R hR
    by_cases hlt:i<es.length
    ·have e1:=getD_map bZ.pv es dU hlt;obtain⟨q1,q2,-⟩:=Cm (hq _ (ai dU hlt));have q4:=(bq _ (ai dU hlt)).1;have hgo:=fun h=>hR (i+1) ⟨oO,h⟩ oO
     rw[aE dU hlt,List.all_cons]at hf;obtain⟨x,hx⟩: ∃x,x=es.getD i dU:=⟨_,rfl⟩;rw[<-hx]at e1 q1 q2 q4 hf;obtain⟨gr,tg,ts⟩:=x;simp only at q1 q2 q4;have hgl:gr.toNat<gs.length:=oO;have kg:=bg _ (ai dL hgl);have e3:=getD_map cz gs dL hgl;simp only[zZ]at hf;obtain⟨z,hz⟩: ∃z,z=gs.getD gr.toNat dL:=⟨_,rfl⟩;rw[<-hz]at kg e3 hf;obtain⟨m,o⟩:=z;simp only at kg hf;have v1:=HG kg.1 kg.2 tg;have v2:=wb ts _ _ _ oO (SZ kg.1 kg.2);have hn:(ts.any fun t=> !vX m o t.base)= !ts.all fun t=>vX m o t.base:=im ..
     rw[hn]at v2;simp only[cz]at e3 v2;simp only[bZ.pv]at e1;clear hR hx hz kg hn hq bq bg;generalize vX m o tg=b1 at*;generalize (ts.all fun t=>vX m o t.base)=b2 at*
     cases hbb:(b1&&b2)with
     |true=>
      rw[hbb,bE]at hf;simp only[bc]at hbb;obtain⟨rfl,rfl⟩:=hbb;repeat' first|simp only[go_sem,seval,l1,l3,e1,e3,aW]|refine cP v1 ?_|refine cV v2 ?_|refine oE ?_|apply xX<;>intro hc
      refine hgo hf _ ?_;exact lE
     |false=>
      rw[hbb,br]at hf;rw[<-hf];clear hgo hf;repeat' first|simp only[go_sem,seval,l1,l3,e1,e3,aW]|refine cP v1 ?_|refine cV v2 ?_|refine oE ?_|apply xX<;>intro hc
      all_goals simp_all
    ·obtain rfl:i=es.length:=oO;rw[bw]at hf;rw[<-hf];exact fz @l3
theorem zt (l:List dx) (f:FuncId) (c:List PV) (p:dx->Bool) (hl:l.length<4611686018427387904) (h: ∀x∈l,aH f (dx.pv x::c) (.b (p x))):aH 354 [.sl (l.map dx.pv), .fc f [] c] (E (dk p 0 l)):=by
 have hlm:(l.map dx.pv).length=l.length:=au ..;refine eW call354 func354 ?_;refine dh @hlm ?_;refine ah (α:=Nat) (fun i=>l.length-i) (fun i=>⟨[(0, .v (.sl (l.map dx.pv))),(1, .v (.fc f [] c)),(7, .v (.i .i64 l.length)),(8, .v (.i .i64 (i:Nat)))],[],_⟩) (fun i=>i<=l.length/\dk p i (l.drop i)=dk p 0 l) 0 (fun _=>aA _) ⟨aD _,rfl⟩ ?_ ?_
 ·exact lE
 ·rintro i ⟨hi,hx⟩ R hR;rw[<-hx]
  by_cases hlt:i<l.length
  ·have e1:=getD_map dx.pv l dN hlt;have hf:=h (l.getD i dN) (ai dN hlt);have hgo:=hR (i+1);rw[<-hx,aE dN hlt]at hgo;rw[aE dN hlt];simp only[dk]at hgo⊢;clear hx hR h;obtain⟨b,hb⟩: ∃b,b=p (l.getD i dN):=⟨_,rfl⟩;rw[<-hb]at hf hgo⊢;clear hb;obtain⟨x,hxx⟩: ∃x,x=l.getD i dN:=⟨_,rfl⟩;rw[<-hxx]at e1 hf;clear hxx;obtain⟨tb,tv,tn,ta⟩:=x;simp only[dx.pv]at e1 hf;cases b
   ·have hgo:=hgo ⟨oO,rfl⟩ oO;repeat' first|simp only[go_sem,seval,hlm,e1]|(refine fX hf (iO _ _) ?_)|refine oE ?_|apply xX<;>intro hc
    refine hgo _ ?_;exact lE
   ·repeat' first|simp only[go_sem,seval,hlm,e1]|(refine fX hf (iO _ _) ?_)|refine oE ?_|apply xX<;>intro hc
    all_goals rfl
  ·obtain rfl:i=l.length:=oO;rw[bw];repeat' first|simp only[go_sem,seval,hlm]|refine oE ?_|apply xX<;>intro hc
   all_goals simp[dk]
theorem tW (l:List dx) (f:FuncId) (c:List PV) (p:dx->Bool) (hl:l.length<4611686018427387904) (h: ∀x∈l,aH f (dx.pv x::c) (.b (p x))):aH 305 [.sl (l.map dx.pv), .fc f [] c] (.b (l.any p)):=by
 have hi:=zt l f c p hl h;have e:decide (dk p 0 l>=0)=l.any p:=by
  rw[cu,decide_eq_true_iff];exact gZ
 refine eW call305 func305 ?_;exact iE @e @hi
theorem zr (l:List (Bytes×Bytes)) (f:FuncId) (c:List PV) (p:(Bytes×Bytes)->Bool) (hl:l.length<4611686018427387904) (h: ∀x∈l,aH f (cz x::c) (.b (p x))):aH 128 [.sl (l.map cz), .fc f [] c] (E (dk p 0 l)):=by
 have hlm:(l.map cz).length=l.length:=au ..;refine eW call128 func128 ?_;refine dh @hlm ?_;refine ah (α:=Nat) (fun i=>l.length-i) (fun i=>⟨[(0, .v (.sl (l.map cz))),(1, .v (.fc f [] c)),(7, .v (.i .i64 l.length)),(8, .v (.i .i64 (i:Nat)))],[],_⟩) (fun i=>i<=l.length/\dk p i (l.drop i)=dk p 0 l) 0 (fun _=>aA _) ⟨aD _,rfl⟩ ?_ ?_
 ·exact lE
 ·rintro i ⟨hi,hx⟩ R hR;rw[<-hx]
  by_cases hlt:i<l.length
  ·have e1:=getD_map cz l dL hlt;have hf:=h (l.getD i dL) (ai dL hlt);have hgo:=hR (i+1);rw[<-hx,aE dL hlt]at hgo;rw[aE dL hlt];simp only[dk]at hgo⊢;clear hx hR h;obtain⟨b,hb⟩: ∃b,b=p (l.getD i dL):=⟨_,rfl⟩;rw[<-hb]at hf hgo⊢;clear hb;obtain⟨x,hxx⟩: ∃x,x=l.getD i dL:=⟨_,rfl⟩;rw[<-hxx]at e1 hf;clear hxx;obtain⟨gm,go⟩:=x;simp only[cz]at e1 hf;cases b
   ·have hgo:=hgo ⟨oO,rfl⟩ oO;repeat' first|simp only[go_sem,seval,hlm,e1]|(refine fX hf (iO _ _) ?_)|refine oE ?_|apply xX<;>intro hc
    refine hgo _ ?_;exact lE
   ·repeat' first|simp only[go_sem,seval,hlm,e1]|(refine fX hf (iO _ _) ?_)|refine oE ?_|apply xX<;>intro hc
    all_goals rfl
  ·obtain rfl:i=l.length:=oO;rw[bw];repeat' first|simp only[go_sem,seval,hlm]|refine oE ?_|apply xX<;>intro hc
   all_goals simp[dk]
theorem nY (l:List (Bytes×Bytes)) (f:FuncId) (c:List PV) (p:(Bytes×Bytes)->Bool) (hl:l.length<4611686018427387904) (h: ∀x∈l,aH f (cz x::c) (.b (p x))):aH 240 [.sl (l.map cz), .fc f [] c] (.b (l.any p)):=by
 have hi:=zr l f c p hl h;have e:decide (dk p 0 l>=0)=l.any p:=by
  rw[cu,decide_eq_true_iff];exact gZ
 refine eW call240 func240 ?_;exact iE @e @hi
theorem Cy (s:aT) (hl:s.groups.length<1000000):aH 278 [s.pv] (.s (ba s.groups)):=by
 obtain⟨gs,vs,es⟩:=s;simp only at hl;have l1:(gs.map cz).length=gs.length:=au ..;unfold aT.pv;simp only;refine eW call278 func278 ?_;refine dh @l1 ?_;refine ah (α:=Nat) (fun i=>gs.length-i) (fun i=>⟨[(1, .p 1000 0 0),(6, .v (.sl (gs.map cz))),(7,E' gs.length),(8,E' i)],[(1000,⟨0,[.v (.sl (gs.map cz)), .v (.sl (vs.map bO)), .v (.sl (es.map bZ.pv))],false,none⟩)],_⟩) (fun i=>i<=gs.length/\ba (gs.drop i)=ba gs) 0 (fun _=>aA _) ⟨aD _,rfl⟩ ?_ ?_
 ·exact lE
 ·rintro i ⟨hi,hf⟩ R hR;rw[<-hf]
  by_cases hlt:i<gs.length
  ·have e1:=getD_map cz gs dL hlt;have hgo:=hR (i+1);rw[<-hf]at hgo;rw[aE dL hlt]at hgo⊢;obtain⟨x,hx⟩: ∃x,x=gs.getD i dL:=⟨_,rfl⟩;rw[<-hx]at e1 hgo⊢;clear hx hf hR;obtain⟨m,o⟩:=x;simp only[ba]at hgo⊢;simp only[cz]at e1
   by_cases ho:o=[]
   ·subst ho;simp only[aC]at hgo⊢;have hgo:=hgo ⟨oO,trivial⟩ oO;exact gH (aN @l1 (aN @e1 @nn)) @hgo
   ·have hb:(o==([]:Bytes))=false:=by simpa using ho
    rw[aa ho];exact fz (aN @l1 (aN @e1 @hb))
  ·obtain rfl:i=gs.length:=oO;rw[bw];exact fz @l1
def xW (q:Bytes) (g:Bytes×Bytes):Bool:= !(g.2==[])&& !(g.2==q)
def sH (vs:List Bytes) (t:dx):Bool:=vs.getD t.var.toNat []==[]
def BG (gs:List (Bytes×Bytes)) (vs:List Bytes) (q:bZ):Bool:=(gs.getD q.ig.toNat dL).2==[]&&q.terms.any (sH vs)
def uF (s:aT):Bool:= !(s.vars.any fun b=>b==[])||(!(ba s.groups==[])&& !(s.groups.any (xW (ba s.groups)))&&s.eqs.all fun q=> !BG s.groups s.vars q)
theorem WZ (q:Bytes) (g:Bytes×Bytes):aH 308 [cz g, .pt (.agg [.s q]) 0] (.b (xW q g)):=by
 obtain⟨m,o⟩:=g;simp only[cz,xW];refine eW call308 func308 ?_;repeat' first|simp only[go_sem,seval,bne]|refine oE ?_|apply xX<;>intro hc
 all_goals simp_all[bne]
theorem W0 {s:aT} {t:dx} (h0:0<=t.var) (h1:t.var<s.vars.length):aH 309 [t.pv, .pt s.pv 0] (.b (sH s.vars t)):=by
 obtain⟨gs,vs,es⟩:=s;obtain⟨b,v,n,a⟩:=t;simp only at h0 h1;have l2:(vs.map bO).length=vs.length:=au ..;have e1:=getD_map bO vs [] (i:=v.toNat) oO;simp only[aT.pv,dx.pv,sH,bO]at*;refine eW call309 func309 ?_;exact fz (aN @l2 @e1)
theorem S4 {s:aT} (hb:qH s) (hf:jD s=true):aH 237 [s.pv] (E (if uF s then 0 else 10)):=by
 have h1:=pj s.vars _ _ (by have:=hb.nv;omega) WY
 have hor:=Cy s (by have:=hb.ng;omega)
 have h2:=nY s.groups _ _ _ (by have:=hb.ng;omega) fun x _=>WZ (ba s.groups) x
 have h3:=fun q (hq:q∈s.eqs)=>tW q.terms 309 [.pt s.pv 0] (sH s.vars) (by have:=(hb.q q hq).1;omega) fun t ht=>by
  simp only[jD,bc]at hf;obtain⟨-,-,k⟩:=Cm (bz.1 hf.2.2 q hq);exact W0 (k t ht).1 (k t ht).2.1
 have ng:=hb.ng;have ne:=hb.ne;have bq:=hb.q;obtain⟨gs,vs,es⟩:=s;simp only[jD,bc]at hf ng ne bq;have hq:=bz.1 hf.2.2;have l1:(gs.map cz).length=gs.length:=au ..;have l3:(es.map bZ.pv).length=es.length:=au ..;unfold uF;simp only at*;clear hb hf;generalize (vs.any fun b=>b==[])=bv at*
 generalize ba gs=q at*;generalize (gs.any (xW q))=bo at*;unfold aT.pv at*;simp only at*;cases bv
 ·refine eW call237 func237 ?_;exact z1 @h1
 by_cases hq0:q=[]
 ·subst hq0;refine eW call237 func237 ?_;repeat' first|simp only[go_sem,seval,aW,nn]|refine cP h1 ?_|refine cP hor ?_|refine cV h2 ?_|refine oE ?_|apply xX<;>intro hc
  all_goals rfl
 have hb:(q==([]:Bytes))=false:=by simpa using hq0
 rw[hb];simp only[dy,dW,bE,eH];cases bo
 ·refine eW call237 func237 ?_;repeat' first|simp only[go_sem,seval,aW,hb]|refine cP h1 ?_|refine cP hor ?_|refine cV h2 ?_|refine oE ?_|apply xX<;>intro hc
  refine ah (α:=Nat) (fun i=>es.length-i) (fun i=>⟨[(1, .p 1000 0 0),(21, .v (.sl (es.map bZ.pv))),(22,E' es.length),(23,E' i)],[(1000,⟨0,[.v (.sl (gs.map cz)), .v (.sl (vs.map bO)), .v (.sl (es.map bZ.pv))],false,none⟩)],_⟩) (fun i=>i<=es.length/\((es.drop i).all fun q=> !BG gs vs q)=es.all fun q=> !BG gs vs q) 0 (fun _=>aA _) ⟨aD _,rfl⟩ ?_ ?_
  ·exact lE
  ·rintro i ⟨hi,hf⟩ R hR
   by_cases hlt:i<es.length
   ·have e1:=getD_map bZ.pv es dU hlt;have v2:=h3 _ (ai dU hlt);obtain⟨q1,q2,-⟩:=Cm (hq _ (ai dU hlt));have hgo:=fun h=>hR (i+1) ⟨oO,h⟩ oO
    rw[aE dU hlt,List.all_cons]at hf;obtain⟨x,hx⟩: ∃x,x=es.getD i dU:=⟨_,rfl⟩;rw[<-hx]at e1 q1 q2 v2 hf;obtain⟨gr,tg,ts⟩:=x;simp only at q1 q2 v2;have hgl:gr.toNat<gs.length:=oO;have e3:=getD_map cz gs dL hgl;have hbq:BG gs vs ⟨gr,tg,ts⟩=((gs.getD gr.toNat dL).2==[]&&ts.any (sH vs)):=rfl;rw[hbq]at hf;obtain⟨z,hz⟩: ∃z,z=gs.getD gr.toNat dL:=⟨_,rfl⟩;rw[<-hz]at e3 hf;obtain⟨m,o⟩:=z;simp only at hf;simp only[cz]at e3;simp only[bZ.pv]at e1;clear hR hx hz h3 hq bq h1 h2 hor;generalize ts.any (sH vs)=bt at*
    by_cases ho:o=[]
    ·subst ho;cases bt
     ·simp only[nn,mU,dW,bE]at hf;repeat' first|simp only[go_sem,seval,l1,l3,e1,e3,aW,nn,iz]|refine cV v2 ?_|refine oE ?_|apply xX<;>intro hc
      refine hgo hf _ ?_;exact lE
     ·simp only[nn,me,dy,br]at hf;rw[<-hf];repeat' first|simp only[go_sem,seval,l1,l3,e1,e3,aW,nn,iz]|refine cV v2 ?_|refine oE ?_|apply xX<;>intro hc
      all_goals rfl
    ·have hob:(o==([]:Bytes))=false:=by simpa using ho
     have hob2:(o !=([]:Bytes))=true:=by simpa using ho
     simp only[hob,br,dW,bE]at hf;repeat' first|simp only[go_sem,seval,l1,l3,e1,e3,aW,hob,hob2]|refine cV v2 ?_|refine oE ?_|apply xX<;>intro hc
     refine hgo hf _ ?_;exact lE
   ·obtain rfl:i=es.length:=oO;rw[bw]at hf;rw[<-hf];exact fz @l3
 ·refine eW call237 func237 ?_;repeat' first|simp only[go_sem,seval,aW,hb]|refine cP h1 ?_|refine cP hor ?_|refine cV h2 ?_|refine oE ?_|apply xX<;>intro hc
  all_goals rfl
def mP (s:aT):Int:=if !jD s then 3 else if sG s then 6 else if !pS s then 13 else if !uF s then 10 else 0
theorem yu {s:aT} (hb:qH s):aH 148 [s.pv] (E (mP s)):=by
 have h1:=OF hb;have h2:=S8 hb;have h3:=HM hb;have h4:=S4 hb;clear hb;unfold mP;unfold aT.pv at*;generalize jD s=b1 at*;generalize sG s=b2 at*;generalize pS s=b3 at*;generalize uF s=b4 at*;cases b1
 ·refine eW call148 func148 ?_;exact YK @h1 @h2
 have h3:=h3 rfl;have h4:=h4 rfl;cases b2
 ·cases b3
  ·refine eW call148 func148 ?_;exact zu3 @h1 @h2 @h3
  ·cases b4<;>
   ·refine eW call148 func148 ?_;exact zu4 @h1 @h2 @h3 @h4
 ·refine eW call148 func148 ?_;exact YK @h1 @h2
structure xq (s:aT):Prop where
 b:qH s
 g: ∀p∈s.groups,gE p.1 p.2=0/\p.1.length<=8/\p.2.length<=8
 v: ∀b∈s.vars,ae b=true/\b.length<=16
 q: ∀q∈s.eqs,0<=q.ig/\q.ig<s.groups.length/\nU (s.groups.getD q.ig.toNat dL).1 (s.groups.getD q.ig.toNat dL).2 q.tgt=true/\q.terms.length<=64/\
  ∀t∈q.terms,0<=t.var/\t.var<s.vars.length/\nU (s.groups.getD q.ig.toNat dL).1 (s.groups.getD q.ig.toNat dL).2 t.base=true/\cr (t.neg,t.abs)=true
 ng:s.groups.length<=8
 nv:s.vars.length<=64
 ne:s.eqs.length<=64
 k:uF s=true
theorem xq.m {s:aT} (h:xq s):UB s:=⟨h.g,h.q,h.ng,h.nv,h.ne⟩
theorem yv {s:aT} (hb:qH s) (h:mP s=0):xq s:=by
 unfold mP at h
 cases h1:jD s with
 |false=>rw[h1]at h;simp at h
 |true=>
  cases h2:sG s with
  |true=>rw[h1,h2]at h;simp at h
  |false=>
   cases h3:pS s with
   |false=>rw[h1,h2,h3]at h;simp at h
   |true=>
    cases h4:uF s with
    |false=>rw[h1,h2,h3,h4]at h;simp at h
    |true=>
     simp only[sG,yX,kM]at h2;simp only[jD,bc]at h1;simp only[pS,bc]at h3;obtain⟨m1,m2,m3,m4⟩:=h2;refine⟨hb,fun p hp=>⟨?_,hb.g p hp⟩,fun b hv=>⟨bz.1 h1.2.1 b hv,hb.v b hv⟩,fun q hq=> ?_,oO,oO,oO,h4⟩
     ·simpa[gC]using bz.1 h3.1 p hp
     ·obtain⟨k1,k2,k3⟩:=Cm (bz.1 h1.2.2 q hq);have ke:=bz.1 h3.2 q hq;simp only[zZ,bc,vX,a8]at ke;refine⟨k1,k2,ke.1.2,?_,fun t ht=> ?_⟩
      ·have:=kK.1 m4 q hq;simpa using this
      ·obtain⟨j1,j2,j3,j4⟩:=k3 t ht;have:=bz.1 ke.2 t ht;simp only[bc]at this;exact⟨j1,j2,this.2,j4⟩
theorem xq.ck {s:aT} (h:xq s):mP s=0:=by
 have e1:jD s=true:=by
  simp only[jD,bc,bz];refine⟨fun p hp=> ?_,fun b hb=>(h.v b hb).1,fun q hq=> ?_⟩
  ·obtain⟨vm,vo,-⟩:=nD (h.g p hp).1;simp[gB,vm,vo]
  ·obtain⟨q1,q2,q3,q4,q5⟩:=h.q q hq;have hg:=(h.g _ (ai dL (show q.ig.toNat<s.groups.length by omega))).1
   simp only[Cl,bc,a8,bz];refine⟨⟨⟨q1,q2⟩,fP hg q3⟩,fun t ht=> ?_⟩
   obtain⟨t1,t2,t3,t4⟩:=q5 t ht;simp only[Ix,bc,a8];exact⟨⟨t1,t2⟩,fP hg t3,t4⟩
 have e2:sG s=false:=by
  simp only[sG,yX,kM,kK,a8];exact⟨by have:=h.ng;omega,by have:=h.nv;omega,by have:=h.ne;omega,fun q hq=>by have:=(h.q q hq).2.2.2.1;omega⟩
 have e3:pS s=true:=by
  simp only[pS,bc,bz];refine⟨fun p hp=>by simp[gC,(h.g p hp).1],fun q hq=> ?_⟩
  obtain⟨q1,q2,q3,q4,q5⟩:=h.q q hq;have hg:=(h.g _ (ai dL (show q.ig.toNat<s.groups.length by omega))).1
  simp only[zZ,vX,hg,decide_true,bE,bc,bz];exact⟨q3,fun t ht=>(q5 t ht).2.2.1⟩
 unfold mP;rw[e1,e2,e3,h.k];rfl
