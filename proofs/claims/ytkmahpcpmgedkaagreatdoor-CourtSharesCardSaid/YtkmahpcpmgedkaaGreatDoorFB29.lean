/- Part of the proof. -/
import Derived.Test.YtkmahpcpmgedkaaGreatDoorFB26
set_option linter.all false
set_option maxHeartbeats 16000000
set_option maxRecDepth 100000
namespace Go.Proofs.Tryz
open Go Go.Dom Go.Num
structure WD (s:cG):Prop where
 g: ∀p∈s.groups,p.1.length<=8/\p.2.length<=8
 v: ∀b∈s.vars,b.length<=16
 q: ∀q∈s.eqs,q.terms.length<=1000/\ ∀t∈q.terms,t.abs.length<=16
 ng:s.groups.length<=1000
 nv:s.vars.length<=1000
 ne:s.eqs.length<=1000
def gB (g:Bytes×Bytes):Bool:=aa g.1&&aa g.2
def SL (nv:Nat) (t:eF):Bool:=(decide (0<=t.var)&&decide (t.var<nv))&&(aa t.base&&cJ (t.neg,t.abs))
def MI (ng nv:Nat) (q:da):Bool:=(decide (0<=q.mT)&&decide (q.mT<ng)&&aa q.tgt)&&q.terms.all (SL nv)
def pP (s:cG):Bool:=s.groups.all gB&&(s.vars.all aa&&s.eqs.all (MI s.groups.length s.vars.length))
theorem Ny {s:cG} (hb:WD s):aD 367 [s.pv] (E (if pP s then 0 else 3)):=by
 obtain⟨gs,vs,es⟩:=s;obtain⟨-,-,bq,ng,nv,ne⟩:=hb;simp only at bq ng nv ne;have l1:(gs.map eu).length=gs.length:=aB ..;have l2:(vs.map cl).length=vs.length:=aB ..;have l3:(es.map da.pv).length=es.length:=aB ..;unfold cG.pv;simp only;refine eW call367 func367 ?_;refine cU @l1 ?_;refine af (α:=Nat) (fun i=>gs.length-i) (fun i=>⟨[(1, .p 1000 0 0),(12, .v (.sl (gs.map eu))),(13,E' gs.length),(14,E' i)],[(1000,⟨0,[.v (.sl (gs.map eu)), .v (.sl (vs.map cl)), .v (.sl (es.map da.pv))],false,none⟩)],_⟩) (fun i=>i<=gs.length/\(gs.drop i).all gB=gs.all gB) 0 (fun _=>ay _) ⟨aJ _,rfl⟩ ?_ ?_
 ·exact lE
 ·rintro i ⟨hi,hf⟩ R hR
  by_cases hlt:i<gs.length
  ·have e1:=getD_map eu gs fC hlt;have hgo:=fun h=>hR (i+1) ⟨oO,h⟩ oO
   rw[aT fC hlt,List.all_cons]at hf;obtain⟨x,hx⟩: ∃x,x=gs.getD i fC:=⟨_,rfl⟩;rw[<-hx]at e1 hf;obtain⟨m,o⟩:=x;have v1:=aS m;have v2:=aS o;clear hR hx;simp only[eu]at e1
   cases hg:gB (m,o)with
   |true=>
    rw[hg,cj]at hf;obtain⟨vm,vo⟩:aa m=true/\aa o=true:=by simpa[gB]using hg
    rw[vm]at v1;rw[vo]at v2;refine pV (aN @l1 @e1) @v1 @v2 ?_;refine hgo hf _ ?_;exact lE
   |false=>
    rw[hg,dW]at hf;have hz:pP ⟨gs,vs,es⟩=false:=by simp only[pP,<-hf,dW]
    rw[hz];have hg:(aa m&&aa o)=false:=hg;clear hgo hf hz;generalize aa m=b1 at*;generalize aa o=b2 at*;exact Ws (aN @l1 @e1) @v1 @v2
  ·obtain rfl:i=gs.length:=oO;rw[cO]at hf;have hf1:gs.all gB=true:=hf.symm;clear hf hR;refine cU (aN @l1 @l2) ?_;refine af (α:=Nat) (fun i=>vs.length-i) (fun i=>⟨[(1, .p 1000 0 0),(30, .v (.sl (vs.map cl))),(31,E' vs.length),(32,E' i)],[(1000,⟨0,[.v (.sl (gs.map eu)), .v (.sl (vs.map cl)), .v (.sl (es.map da.pv))],false,none⟩)],_⟩) (fun i=>i<=vs.length/\(vs.drop i).all aa=vs.all aa) 0 (fun _=>ay _) ⟨aJ _,rfl⟩ ?_ ?_
   ·exact lE
   ·rintro i ⟨hi,hf⟩ R hR
    by_cases hlt:i<vs.length
    ·have e1:=getD_map cl vs [] hlt;have hgo:=fun h=>hR (i+1) ⟨oO,h⟩ oO
     rw[aT [] hlt,List.all_cons]at hf;generalize vs.getD i []=x at*;have v1:=aS x;clear hR;simp only[cl]at e1
     cases hg:aa x with
     |true=>
      rw[hg]at v1;rw[hg,cj]at hf;refine kz (aN @l2 @e1) @v1 ?_;refine hgo hf _ ?_;exact lE
     |false=>
      rw[hg]at v1;rw[hg,dW]at hf;have hz:pP ⟨gs,vs,es⟩=false:=by simp only[pP,<-hf,dW,uL]
      rw[hz];clear hgo;exact mi (aN @l2 @e1) @v1
    ·obtain rfl:i=vs.length:=oO;rw[cO]at hf;have hf2:vs.all aa=true:=hf.symm;have hz:pP ⟨gs,vs,es⟩=es.all (MI gs.length vs.length):=by simp only[pP,hf1,hf2,cj]
     rw[hz];clear hf hR hz;refine cU (aN @l2 @l3) ?_;refine af (α:=Nat) (fun i=>es.length-i) (fun i=>⟨[(1, .p 1000 0 0),(42, .v (.sl (es.map da.pv))),(43,E' es.length),(44,E' i)],[(1000,⟨0,[.v (.sl (gs.map eu)), .v (.sl (vs.map cl)), .v (.sl (es.map da.pv))],false,none⟩)],_⟩) (fun i=>i<=es.length/\(es.drop i).all (MI gs.length vs.length)=es.all (MI gs.length vs.length)) 0 (fun _=>ay _) ⟨aJ _,rfl⟩ ?_ ?_
     ·exact lE
     ·rintro i ⟨hi,hf⟩ R hR
      by_cases hlt:i<es.length
      ·have e1:=getD_map da.pv es gF hlt;have q4:=(bq _ (aq gF hlt)).1;have hgo:=fun h=>hR (i+1) ⟨oO,h⟩ oO
       rw[aT gF hlt,List.all_cons]at hf;obtain⟨x,hx⟩: ∃x,x=es.getD i gF:=⟨_,rfl⟩;rw[<-hx]at e1 q4 hf;obtain⟨gr,tg,ts⟩:=x;simp only at q4;have v1:=aS tg;have l4:(ts.map eF.pv).length=ts.length:=aB ..;simp only[da.pv]at e1;clear hR hx
       cases hg:(decide (0<=gr)&&decide (gr<gs.length)&&aa tg)with
       |false=>
        have hq:MI gs.length vs.length ⟨gr,tg,ts⟩=false:=by simp only[MI,hg,dW]
        rw[hq,dW]at hf;rw[<-hf];clear hgo hf hq;generalize aa tg=b1 at*;repeat' first|simp only[go_sem,seval,l1,l3,e1]|refine cP v1 ?_|refine oE ?_|apply xX<;>intro hc
        all_goals simp_all
        all_goals omega
       |true=>
        have hq:MI gs.length vs.length ⟨gr,tg,ts⟩=ts.all (SL vs.length):=by simp only[MI,hg,cj]
        rw[hq]at hf;simp only[aZ,cq]at hg;obtain⟨⟨g1,g2⟩,vt⟩:=hg;rw[vt]at v1;have hd1:decide (gr<0)=false:=aH oO;have hd2:decide (gr>=(gs.length:Int))=false:=aH oO;clear hq g1 g2 vt;refine nc (aN @l1 (aN @l3 (aN @l4 (aN @e1 (aN @hd1 @hd2))))) @v1 ?_;refine af (α:=Nat) (fun i=>ts.length-i) (fun j=>⟨[(1, .p 1000 0 0),(42, .v (.sl (es.map da.pv))),(43,E' es.length),(44,E' i),(66, .v (.sl (ts.map eF.pv))),(67,E' ts.length),(68,E' j)],[(1000,⟨0,[.v (.sl (gs.map eu)), .v (.sl (vs.map cl)), .v (.sl (es.map da.pv))],false,none⟩)],_⟩) (fun i=>i<=ts.length/\(ts.drop i).all (SL vs.length)=ts.all (SL vs.length)) 0 (fun _=>ay _) ⟨aJ _,rfl⟩ ?_ ?_
        ·exact lE
        ·rintro j ⟨hj,hk⟩ R' hR'
         by_cases hjt:j<ts.length
         ·have e2:=getD_map eF.pv ts eR hjt;have hgo':=fun h=>hR' (j+1) ⟨oO,h⟩ oO
          rw[aT eR hjt,List.all_cons]at hk;obtain⟨y,hy⟩: ∃y,y=ts.getD j eR:=⟨_,rfl⟩;rw[<-hy]at e2 hk;obtain⟨b,v,n,a⟩:=y;have v2:=aS b;have v3:=hO n a;rw[show(aa a&& !(n&&a==[]))=cJ (n,a)from rfl]at v3
          simp only[eF.pv]at e2;clear hR' hy
          cases ht:SL vs.length ⟨b,v,n,a⟩with
          |true=>
           rw[ht,cj]at hk;simp only[SL,aZ,cq]at ht;obtain⟨⟨t1,t2⟩,t3,t4⟩:=ht;rw[t3]at v2;rw[t4]at v3;have hd3:decide (v<0)=false:=aH oO;have hd4:decide (v>=(vs.length:Int))=false:=aH oO;refine pV (aN @l2 (aN @l4 (aN @e2 (aN @hd3 @hd4)))) @v2 @v3 ?_;refine hgo' hk _ ?_;exact lE
          |false=>
           rw[ht,dW]at hk;rw[<-hk,dW]at hf;rw[<-hf];simp only[SL]at ht;clear hgo' hgo hk hf;generalize aa b=b1 at*;generalize cJ (n,a)=b2 at*;repeat' first|simp only[go_sem,seval,l2,l4,e2]|refine cP v2 ?_|refine cP v3 ?_|refine oE ?_|apply xX<;>intro hc
           all_goals simp_all
           all_goals omega
         ·obtain rfl:j=ts.length:=oO;rw[cO]at hk;rw[<-hk]at hf;refine dH (aN @l3 @l4) ?_;refine hgo hf _ ?_;exact lE
      ·obtain rfl:i=es.length:=oO;rw[cO]at hf;rw[<-hf];exact gn @l3
def Km (s:cG):Bool:=decide (8<s.groups.length)||(decide (64<s.vars.length)||(decide (64<s.eqs.length)||s.eqs.any fun q=>decide (64<q.terms.length)))
theorem Ru {s:cG} (hb:WD s):aD 368 [s.pv] (E (if Km s then 6 else 0)):=by
 have h1:=u6 s.eqs _ _ (by have:=hb.ne;omega) Rv
 obtain⟨gs,vs,es⟩:=s;have ng:=hb.ng;have nv:=hb.nv;have ne:=hb.ne;simp only at ng nv ne h1;have l1:(gs.map eu).length=gs.length:=aB ..;have l2:(vs.map cl).length=vs.length:=aB ..;have l3:(es.map da.pv).length=es.length:=aB ..;clear hb;unfold cG.pv Km;simp only;generalize (es.any fun q=>decide (64<q.terms.length))=b at*
 have d1:decide ((gs.length:Int)>8)=decide (8<gs.length):=by rw[lF];omega
 have d2:decide ((vs.length:Int)>64)=decide (64<vs.length):=by rw[lF];omega
 have d3:decide ((es.length:Int)>64)=decide (64<es.length):=by rw[lF];omega
 refine eW call368 func368 ?_;repeat' first|simp only[go_sem,seval,l1,l2,l3,d1,d2,d3]|refine cP h1 ?_|refine oE ?_|apply xX<;>intro hc
 all_goals simp_all
 all_goals omega
def mT (s:cG) (q:da):Bytes×Bytes:=s.groups.getD q.mT.toNat fC
def J0 (gs:List (Bytes×Bytes)) (q:da):Bool:=jn (gs.getD q.mT.toNat fC).1 (gs.getD q.mT.toNat fC).2 q.tgt&&q.terms.all fun t=>jn (gs.getD q.mT.toNat fC).1 (gs.getD q.mT.toNat fC).2 t.base
def gC (g:Bytes×Bytes):Bool:=decide (gE g.1 g.2=0)
def CQ (s:cG):Bool:=s.groups.all gC&&s.eqs.all (J0 s.groups)
theorem MJ {ng nv:Nat} {q:da} (h:MI ng nv q=true):0<=q.mT/\q.mT<ng/\ ∀t∈q.terms,0<=t.var/\t.var<nv/\aa t.base=true/\cJ (t.neg,t.abs)=true:=by
 simp only[MI,aZ,cq]at h;refine⟨h.1.1.1,h.1.1.2,fun t ht=> ?_⟩
 have:=bM.1 h.2 t ht;simp only[SL,aZ,cq]at this;exact⟨this.1.1,this.1.2,this.2.1,this.2.2⟩
theorem GS {s:cG} (hb:WD s) (hf:pP s=true):aD 369 [s.pv] (E (if CQ s then 0 else 13)):=by
 obtain⟨gs,vs,es⟩:=s;obtain⟨bg,-,bq,ng,nv,ne⟩:=hb;simp only[pP,aZ]at bg bq ng nv ne hf;have hq:=bM.1 hf.2.2;have l1:(gs.map eu).length=gs.length:=aB ..;have l3:(es.map da.pv).length=es.length:=aB ..;clear hf;unfold cG.pv;simp only;refine eW call369 func369 ?_;refine cU @l1 ?_;refine af (α:=Nat) (fun i=>gs.length-i) (fun i=>⟨[(1, .p 1000 0 0),(9, .v (.sl (gs.map eu))),(10,E' gs.length),(11,E' i)],[(1000,⟨0,[.v (.sl (gs.map eu)), .v (.sl (vs.map cl)), .v (.sl (es.map da.pv))],false,none⟩)],_⟩) (fun i=>i<=gs.length/\(gs.drop i).all gC=gs.all gC) 0 (fun _=>ay _) ⟨aJ _,rfl⟩ ?_ ?_
 ·exact lE
 ·rintro i ⟨hi,hf⟩ R hR
  by_cases hlt:i<gs.length
  ·have e1:=getD_map eu gs fC hlt;have k:=bg _ (aq fC hlt);have hgo:=fun h=>hR (i+1) ⟨oO,h⟩ oO
   rw[aT fC hlt,List.all_cons]at hf;obtain⟨x,hx⟩: ∃x,x=gs.getD i fC:=⟨_,rfl⟩;rw[<-hx]at e1 k hf;obtain⟨m,o⟩:=x;have v1:=kL k.1 k.2;clear hR hx k;simp only[eu]at e1;simp only[gC]at hf
   by_cases hg:gE m o=0
   ·rw[hg]at v1;rw[aI hg,cj]at hf;refine kz (aN @l1 @e1) @v1 ?_;refine hgo hf _ ?_;exact lE
   ·rw[aH hg,dW]at hf;have hz:CQ ⟨gs,vs,es⟩=false:=by
     simp only[CQ,Bool.and_eq_false_iff];exact .inl hf.symm
    have hb:(gE m o !=0)=true:=by simpa using hg
    rw[hz];clear hgo hf hz;generalize gE m o=z at*;exact mi (aN @l1 (aN @e1 @hb)) @v1
  ·obtain rfl:i=gs.length:=oO;rw[cO]at hf;have hf1:gs.all gC=true:=hf.symm;have hz:CQ ⟨gs,vs,es⟩=es.all (J0 gs):=by simp only[CQ,hf1,cj]
   rw[hz];clear hf hR hz hf1;refine cU (aN @l1 @l3) ?_;refine af (α:=Nat) (fun i=>es.length-i) (fun i=>⟨[(1, .p 1000 0 0),(20, .v (.sl (es.map da.pv))),(21,E' es.length),(22,E' i)],[(1000,⟨0,[.v (.sl (gs.map eu)), .v (.sl (vs.map cl)), .v (.sl (es.map da.pv))],false,none⟩)],_⟩) (fun i=>i<=es.length/\(es.drop i).all (J0 gs)=es.all (J0 gs)) 0 (fun _=>ay _) ⟨aJ _,rfl⟩ ?_ ?_
   ·exact lE
   ·rintro i ⟨hi,hf⟩ R hR
    by_cases hlt:i<es.length
    ·have e1:=getD_map da.pv es gF hlt;obtain⟨q1,q2,-⟩:=MJ (hq _ (aq gF hlt));have q4:=(bq _ (aq gF hlt)).1;have hgo:=fun h=>hR (i+1) ⟨oO,h⟩ oO
     rw[aT gF hlt,List.all_cons]at hf;obtain⟨x,hx⟩: ∃x,x=es.getD i gF:=⟨_,rfl⟩;rw[<-hx]at e1 q1 q2 q4 hf;obtain⟨gr,tg,ts⟩:=x;simp only at q1 q2 q4;have hgl:gr.toNat<gs.length:=oO;have kg:=bg _ (aq fC hgl);have e3:=getD_map eu gs fC hgl;simp only[J0]at hf;obtain⟨z,hz⟩: ∃z,z=gs.getD gr.toNat fC:=⟨_,rfl⟩;rw[<-hz]at kg e3 hf;obtain⟨m,o⟩:=z;simp only at kg hf;have v1:=zq kg.1 kg.2 tg;have v2:=u7 ts _ _ _ oO (Rk kg.1 kg.2);have hn:(ts.any fun t=> !jn m o t.base)= !ts.all fun t=>jn m o t.base:=nu ..
     rw[hn]at v2;simp only[eu]at e3 v2;simp only[da.pv]at e1;clear hR hx hz kg hn hq bq bg;generalize jn m o tg=b1 at*;generalize (ts.all fun t=>jn m o t.base)=b2 at*
     cases hbb:(b1&&b2)with
     |true=>
      rw[hbb,cj]at hf;simp only[aZ]at hbb;obtain⟨rfl,rfl⟩:=hbb;repeat' first|simp only[go_sem,seval,l1,l3,e1,e3,aV]|refine cP v1 ?_|refine cV v2 ?_|refine oE ?_|apply xX<;>intro hc
      refine hgo hf _ ?_;exact lE
     |false=>
      rw[hbb,dW]at hf;rw[<-hf];clear hgo hf;repeat' first|simp only[go_sem,seval,l1,l3,e1,e3,aV]|refine cP v1 ?_|refine cV v2 ?_|refine oE ?_|apply xX<;>intro hc
      all_goals simp_all
    ·obtain rfl:i=es.length:=oO;rw[cO]at hf;rw[<-hf];exact gn @l3
theorem yL (l:List eF) (f:FuncId) (c:List PV) (p:eF->Bool) (hl:l.length<4611686018427387904) (h: ∀x∈l,aD f (eF.pv x::c) (.b (p x))):aD 470 [.sl (l.map eF.pv), .fc f [] c] (E (eN p 0 l)):=by
 have hlm:(l.map eF.pv).length=l.length:=aB ..;refine eW call470 func470 ?_;refine cU @hlm ?_;refine af (α:=Nat) (fun i=>l.length-i) (fun i=>⟨[(0, .v (.sl (l.map eF.pv))),(1, .v (.fc f [] c)),(7, .v (.i .i64 l.length)),(8, .v (.i .i64 (i:Nat)))],[],_⟩) (fun i=>i<=l.length/\eN p i (l.drop i)=eN p 0 l) 0 (fun _=>ay _) ⟨aJ _,rfl⟩ ?_ ?_
 ·exact lE
 ·rintro i ⟨hi,hx⟩ R hR;rw[<-hx]
  by_cases hlt:i<l.length
  ·have e1:=getD_map eF.pv l eR hlt;have hf:=h (l.getD i eR) (aq eR hlt);have hgo:=hR (i+1);rw[<-hx,aT eR hlt]at hgo;rw[aT eR hlt];simp only[eN]at hgo⊢;clear hx hR h;obtain⟨b,hb⟩: ∃b,b=p (l.getD i eR):=⟨_,rfl⟩;rw[<-hb]at hf hgo⊢;clear hb;obtain⟨x,hxx⟩: ∃x,x=l.getD i eR:=⟨_,rfl⟩;rw[<-hxx]at e1 hf;clear hxx;obtain⟨tb,tv,tn,ta⟩:=x;simp only[eF.pv]at e1 hf;cases b
   ·have hgo:=hgo ⟨oO,rfl⟩ oO;repeat' first|simp only[go_sem,seval,hlm,e1]|(refine jb hf (nM _ _) ?_)|refine oE ?_|apply xX<;>intro hc
    refine hgo _ ?_;exact lE
   ·repeat' first|simp only[go_sem,seval,hlm,e1]|(refine jb hf (nM _ _) ?_)|refine oE ?_|apply xX<;>intro hc
    all_goals rfl
  ·obtain rfl:i=l.length:=oO;rw[cO];repeat' first|simp only[go_sem,seval,hlm]|refine oE ?_|apply xX<;>intro hc
   all_goals simp[eN]
theorem sL (l:List eF) (f:FuncId) (c:List PV) (p:eF->Bool) (hl:l.length<4611686018427387904) (h: ∀x∈l,aD f (eF.pv x::c) (.b (p x))):aD 438 [.sl (l.map eF.pv), .fc f [] c] (.b (l.any p)):=by
 have hi:=yL l f c p hl h;have e:decide (eN p 0 l>=0)=l.any p:=by
  rw[dK,decide_eq_true_iff];exact iX
 refine eW call438 func438 ?_;exact mi @e @hi
theorem yK (l:List (Bytes×Bytes)) (f:FuncId) (c:List PV) (p:(Bytes×Bytes)->Bool) (hl:l.length<4611686018427387904) (h: ∀x∈l,aD f (eu x::c) (.b (p x))):aD 143 [.sl (l.map eu), .fc f [] c] (E (eN p 0 l)):=by
 have hlm:(l.map eu).length=l.length:=aB ..;refine eW call143 func143 ?_;refine cU @hlm ?_;refine af (α:=Nat) (fun i=>l.length-i) (fun i=>⟨[(0, .v (.sl (l.map eu))),(1, .v (.fc f [] c)),(7, .v (.i .i64 l.length)),(8, .v (.i .i64 (i:Nat)))],[],_⟩) (fun i=>i<=l.length/\eN p i (l.drop i)=eN p 0 l) 0 (fun _=>ay _) ⟨aJ _,rfl⟩ ?_ ?_
 ·exact lE
 ·rintro i ⟨hi,hx⟩ R hR;rw[<-hx]
  by_cases hlt:i<l.length
  ·have e1:=getD_map eu l fC hlt;have hf:=h (l.getD i fC) (aq fC hlt);have hgo:=hR (i+1);rw[<-hx,aT fC hlt]at hgo;rw[aT fC hlt];simp only[eN]at hgo⊢;clear hx hR h;obtain⟨b,hb⟩: ∃b,b=p (l.getD i fC):=⟨_,rfl⟩;rw[<-hb]at hf hgo⊢;clear hb;obtain⟨x,hxx⟩: ∃x,x=l.getD i fC:=⟨_,rfl⟩;rw[<-hxx]at e1 hf;clear hxx;obtain⟨gm,go⟩:=x;simp only[eu]at e1 hf;cases b
   ·have hgo:=hgo ⟨oO,rfl⟩ oO;repeat' first|simp only[go_sem,seval,hlm,e1]|(refine jb hf (nM _ _) ?_)|refine oE ?_|apply xX<;>intro hc
    refine hgo _ ?_;exact lE
   ·repeat' first|simp only[go_sem,seval,hlm,e1]|(refine jb hf (nM _ _) ?_)|refine oE ?_|apply xX<;>intro hc
    all_goals rfl
  ·obtain rfl:i=l.length:=oO;rw[cO];repeat' first|simp only[go_sem,seval,hlm]|refine oE ?_|apply xX<;>intro hc
   all_goals simp[eN]
theorem sK (l:List (Bytes×Bytes)) (f:FuncId) (c:List PV) (p:(Bytes×Bytes)->Bool) (hl:l.length<4611686018427387904) (h: ∀x∈l,aD f (eu x::c) (.b (p x))):aD 373 [.sl (l.map eu), .fc f [] c] (.b (l.any p)):=by
 have hi:=yK l f c p hl h;have e:decide (eN p 0 l>=0)=l.any p:=by
  rw[dK,decide_eq_true_iff];exact iX
 refine eW call373 func373 ?_;exact mi @e @hi
theorem BV (s:cG) (hl:s.groups.length<1000000):aD 376 [s.pv] (.s (bA s.groups)):=by
 obtain⟨gs,vs,es⟩:=s;simp only at hl;have l1:(gs.map eu).length=gs.length:=aB ..;unfold cG.pv;simp only;refine eW call376 func376 ?_;refine cU @l1 ?_;refine af (α:=Nat) (fun i=>gs.length-i) (fun i=>⟨[(1, .p 1000 0 0),(6, .v (.sl (gs.map eu))),(7,E' gs.length),(8,E' i)],[(1000,⟨0,[.v (.sl (gs.map eu)), .v (.sl (vs.map cl)), .v (.sl (es.map da.pv))],false,none⟩)],_⟩) (fun i=>i<=gs.length/\bA (gs.drop i)=bA gs) 0 (fun _=>ay _) ⟨aJ _,rfl⟩ ?_ ?_
 ·exact lE
 ·rintro i ⟨hi,hf⟩ R hR;rw[<-hf]
  by_cases hlt:i<gs.length
  ·have e1:=getD_map eu gs fC hlt;have hgo:=hR (i+1);rw[<-hf]at hgo;rw[aT fC hlt]at hgo⊢;obtain⟨x,hx⟩: ∃x,x=gs.getD i fC:=⟨_,rfl⟩;rw[<-hx]at e1 hgo⊢;clear hx hf hR;obtain⟨m,o⟩:=x;simp only[bA]at hgo⊢;simp only[eu]at e1
   by_cases ho:o=[]
   ·subst ho;simp only[au]at hgo⊢;have hgo:=hgo ⟨oO,trivial⟩ oO;exact jC (aN @l1 (aN @e1 @nn)) @hgo
   ·have hb:(o==([]:Bytes))=false:=by simpa using ho
    rw[ae ho];exact gn (aN @l1 (aN @e1 @hb))
  ·obtain rfl:i=gs.length:=oO;rw[cO];exact gn @l1
def G2 (q:Bytes) (g:Bytes×Bytes):Bool:= !(g.2==[])&& !(g.2==q)
def Bk (vs:List Bytes) (t:eF):Bool:=vs.getD t.var.toNat []==[]
def JF (gs:List (Bytes×Bytes)) (vs:List Bytes) (q:da):Bool:=(gs.getD q.mT.toNat fC).2==[]&&q.terms.any (Bk vs)
def E4 (s:cG):Bool:= !(s.vars.any fun b=>b==[])||(!(bA s.groups==[])&& !(s.groups.any (G2 (bA s.groups)))&&s.eqs.all fun q=> !JF s.groups s.vars q)
theorem Va (q:Bytes) (g:Bytes×Bytes):aD 441 [eu g, .pt (.agg [.s q]) 0] (.b (G2 q g)):=by
 obtain⟨m,o⟩:=g;simp only[eu,G2];refine eW call441 func441 ?_;repeat' first|simp only[go_sem,seval,bne]|refine oE ?_|apply xX<;>intro hc
 all_goals simp_all[bne]
theorem Vb {s:cG} {t:eF} (h0:0<=t.var) (h1:t.var<s.vars.length):aD 442 [t.pv, .pt s.pv 0] (.b (Bk s.vars t)):=by
 obtain⟨gs,vs,es⟩:=s;obtain⟨b,v,n,a⟩:=t;simp only at h0 h1;have l2:(vs.map cl).length=vs.length:=aB ..;have e1:=getD_map cl vs [] (i:=v.toNat) oO;simp only[cG.pv,eF.pv,Bk,cl]at*;refine eW call442 func442 ?_;exact gn (aN @l2 @e1)
theorem Rp {s:cG} (hb:WD s) (hf:pP s=true):aD 370 [s.pv] (E (if E4 s then 0 else 10)):=by
 have h1:=u9 s.vars _ _ (by have:=hb.nv;omega) U9
 have hor:=BV s (by have:=hb.ng;omega)
 have h2:=sK s.groups _ _ _ (by have:=hb.ng;omega) fun x _=>Va (bA s.groups) x
 have h3:=fun q (hq:q∈s.eqs)=>sL q.terms 442 [.pt s.pv 0] (Bk s.vars) (by have:=(hb.q q hq).1;omega) fun t ht=>by
  simp only[pP,aZ]at hf;obtain⟨-,-,k⟩:=MJ (bM.1 hf.2.2 q hq);exact Vb (k t ht).1 (k t ht).2.1
 have ng:=hb.ng;have ne:=hb.ne;have bq:=hb.q;obtain⟨gs,vs,es⟩:=s;simp only[pP,aZ]at hf ng ne bq;have hq:=bM.1 hf.2.2;have l1:(gs.map eu).length=gs.length:=aB ..;have l3:(es.map da.pv).length=es.length:=aB ..;unfold E4;simp only at*;clear hb hf;generalize (vs.any fun b=>b==[])=bv at*
 generalize bA gs=q at*;generalize (gs.any (G2 q))=bo at*;unfold cG.pv at*;simp only at*;cases bv
 ·refine eW call370 func370 ?_;exact z1 @h1
 by_cases hq0:q=[]
 ·subst hq0;refine eW call370 func370 ?_;repeat' first|simp only[go_sem,seval,aV,nn]|refine cP h1 ?_|refine cP hor ?_|refine cV h2 ?_|refine oE ?_|apply xX<;>intro hc
  all_goals rfl
 have hb:(q==([]:Bytes))=false:=by simpa using hq0
 rw[hb];simp only[bQ,ca,cj,j4];cases bo
 ·refine eW call370 func370 ?_;repeat' first|simp only[go_sem,seval,aV,hb]|refine cP h1 ?_|refine cP hor ?_|refine cV h2 ?_|refine oE ?_|apply xX<;>intro hc
  refine af (α:=Nat) (fun i=>es.length-i) (fun i=>⟨[(1, .p 1000 0 0),(21, .v (.sl (es.map da.pv))),(22,E' es.length),(23,E' i)],[(1000,⟨0,[.v (.sl (gs.map eu)), .v (.sl (vs.map cl)), .v (.sl (es.map da.pv))],false,none⟩)],_⟩) (fun i=>i<=es.length/\((es.drop i).all fun q=> !JF gs vs q)=es.all fun q=> !JF gs vs q) 0 (fun _=>ay _) ⟨aJ _,rfl⟩ ?_ ?_
  ·exact lE
  ·rintro i ⟨hi,hf⟩ R hR
   by_cases hlt:i<es.length
   ·have e1:=getD_map da.pv es gF hlt;have v2:=h3 _ (aq gF hlt);obtain⟨q1,q2,-⟩:=MJ (hq _ (aq gF hlt));have hgo:=fun h=>hR (i+1) ⟨oO,h⟩ oO
    rw[aT gF hlt,List.all_cons]at hf;obtain⟨x,hx⟩: ∃x,x=es.getD i gF:=⟨_,rfl⟩;rw[<-hx]at e1 q1 q2 v2 hf;obtain⟨gr,tg,ts⟩:=x;simp only at q1 q2 v2;have hgl:gr.toNat<gs.length:=oO;have e3:=getD_map eu gs fC hgl;have hbq:JF gs vs ⟨gr,tg,ts⟩=((gs.getD gr.toNat fC).2==[]&&ts.any (Bk vs)):=rfl;rw[hbq]at hf;obtain⟨z,hz⟩: ∃z,z=gs.getD gr.toNat fC:=⟨_,rfl⟩;rw[<-hz]at e3 hf;obtain⟨m,o⟩:=z;simp only at hf;simp only[eu]at e3;simp only[da.pv]at e1;clear hR hx hz h3 hq bq h1 h2 hor;generalize ts.any (Bk vs)=bt at*
    by_cases ho:o=[]
    ·subst ho;cases bt
     ·simp only[nn,uL,ca,cj]at hf;repeat' first|simp only[go_sem,seval,l1,l3,e1,e3,aV,nn,jl]|refine cV v2 ?_|refine oE ?_|apply xX<;>intro hc
      refine hgo hf _ ?_;exact lE
     ·simp only[nn,jB,bQ,dW]at hf;rw[<-hf];repeat' first|simp only[go_sem,seval,l1,l3,e1,e3,aV,nn,jl]|refine cV v2 ?_|refine oE ?_|apply xX<;>intro hc
      all_goals rfl
    ·have hob:(o==([]:Bytes))=false:=by simpa using ho
     have hob2:(o !=([]:Bytes))=true:=by simpa using ho
     simp only[hob,dW,ca,cj]at hf;repeat' first|simp only[go_sem,seval,l1,l3,e1,e3,aV,hob,hob2]|refine cV v2 ?_|refine oE ?_|apply xX<;>intro hc
     refine hgo hf _ ?_;exact lE
   ·obtain rfl:i=es.length:=oO;rw[cO]at hf;rw[<-hf];exact gn @l3
 ·refine eW call370 func370 ?_;repeat' first|simp only[go_sem,seval,aV,hb]|refine cP h1 ?_|refine cP hor ?_|refine cV h2 ?_|refine oE ?_|apply xX<;>intro hc
  all_goals rfl
def Nw (s:cG):Int:=if !pP s then 3 else if Km s then 6 else if !CQ s then 13 else if !E4 s then 10 else 0
theorem II {s:cG} (hb:WD s):aD 247 [s.pv] (E (Nw s)):=by
 have h1:=Ny hb;have h2:=Ru hb;have h3:=GS hb;have h4:=Rp hb;clear hb;unfold Nw;unfold cG.pv at*;generalize pP s=b1 at*;generalize Km s=b2 at*;generalize CQ s=b3 at*;generalize E4 s=b4 at*;cases b1
 ·refine eW call247 func247 ?_;exact Pz @h1 @h2
 have h3:=h3 rfl;have h4:=h4 rfl;cases b2
 ·cases b3
  ·refine eW call247 func247 ?_;exact Y7 @h1 @h2 @h3
  ·cases b4<;>
   ·refine eW call247 func247 ?_;exact Y8 @h1 @h2 @h3 @h4
 ·refine eW call247 func247 ?_;exact Pz @h1 @h2
structure xf (s:cG):Prop where
 b:WD s
 g: ∀p∈s.groups,gE p.1 p.2=0/\p.1.length<=8/\p.2.length<=8
 v: ∀b∈s.vars,aa b=true/\b.length<=16
 q: ∀q∈s.eqs,0<=q.mT/\q.mT<s.groups.length/\iV (s.groups.getD q.mT.toNat fC).1 (s.groups.getD q.mT.toNat fC).2 q.tgt=true/\q.terms.length<=64/\
  ∀t∈q.terms,0<=t.var/\t.var<s.vars.length/\iV (s.groups.getD q.mT.toNat fC).1 (s.groups.getD q.mT.toNat fC).2 t.base=true/\cJ (t.neg,t.abs)=true
 ng:s.groups.length<=8
 nv:s.vars.length<=64
 ne:s.eqs.length<=64
 k:E4 s=true
theorem xf.m {s:cG} (h:xf s):WC s:=⟨h.g,h.q,h.ng,h.nv,h.ne⟩
theorem xf.ck {s:cG} (h:xf s):Nw s=0:=by
 have e1:pP s=true:=by
  simp only[pP,aZ,bM];refine⟨fun p hp=> ?_,fun b hb=>(h.v b hb).1,fun q hq=> ?_⟩
  ·obtain⟨vm,vo,-⟩:=jm (h.g p hp).1;simp[gB,vm,vo]
  ·obtain⟨q1,q2,q3,q4,q5⟩:=h.q q hq;have hg:=(h.g _ (aq fC (show q.mT.toNat<s.groups.length by omega))).1
   simp only[MI,aZ,cq,bM];refine⟨⟨⟨q1,q2⟩,kM hg q3⟩,fun t ht=> ?_⟩
   obtain⟨t1,t2,t3,t4⟩:=q5 t ht;simp only[SL,aZ,cq];exact⟨⟨t1,t2⟩,kM hg t3,t4⟩
 have e2:Km s=false:=by
  simp only[Km,Bool.or_eq_false_iff,pI,x6,cq];exact⟨by have:=h.ng;omega,by have:=h.nv;omega,by have:=h.ne;omega,fun q hq=>by have:=(h.q q hq).2.2.2.1;omega⟩
 have e3:CQ s=true:=by
  simp only[CQ,aZ,bM];refine⟨fun p hp=>by simp[gC,(h.g p hp).1],fun q hq=> ?_⟩
  obtain⟨q1,q2,q3,q4,q5⟩:=h.q q hq;have hg:=(h.g _ (aq fC (show q.mT.toNat<s.groups.length by omega))).1
  simp only[J0,jn,hg,decide_true,cj,aZ,bM];exact⟨q3,fun t ht=>(q5 t ht).2.2.1⟩
 unfold Nw;rw[e1,e2,e3,h.k];rfl
