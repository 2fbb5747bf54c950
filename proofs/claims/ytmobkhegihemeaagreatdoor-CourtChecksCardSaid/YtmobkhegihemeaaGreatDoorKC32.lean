/-
  Part of the proof, part KC32. Own work.
-/
import Derived.Test.YtmobkhegihemeaaGreatDoorKC29
set_option linter.all false
namespace Go.Proofs.YtmobkhegihemeaaGreatDoor
open Go Go.Dom Go.Num
set_option maxRecDepth 100000
set_option maxHeartbeats 16000000
structure SP (s:dy):Prop where
 g: ∀p∈s.groups,p.1.length≤8∧p.2.length≤8
 v: ∀b∈s.vars,b.length≤16
 q: ∀q∈s.eqs,q.terms.length≤1000∧ ∀t∈q.terms,t.abs.length≤16
 ng:s.groups.length≤1000
 nv:s.vars.length≤1000
 ne:s.eqs.length≤1000
def gB (g:Bytes×Bytes):Bool:=aa g.1&&aa g.2
def OL (nv:Nat) (t:fR):Bool:=(decide (0≤t.var)&&decide (t.var<nv))&&(aa t.base&&db (t.neg,t.abs))
def Jn (ng nv:Nat) (q:eE):Bool:=(decide (0≤q.lF)&&decide (q.lF<ng)&&aa q.tgt)&&q.terms.all (OL nv)
def nQ (s:dy):Bool:=s.groups.all gB&&(s.vars.all aa&&s.eqs.all (Jn s.groups.length s.vars.length))
theorem J1 {s:dy} (hb:SP s):aD Tryz.prog 315 [s.pv] (E (if nQ s then 0 else 3)):=by
 obtain⟨gs,vs,es⟩:=s;obtain⟨-,-,bq,ng,nv,ne⟩:=hb;simp only at bq ng nv ne;have l1:(gs.map gG).length=gs.length:=aH ..;have l2:(vs.map dC).length=vs.length:=aH ..;have l3:(es.map eE.pv).length=es.length:=aH ..;unfold dy.pv;simp only;refine eW Tryz.call315 Tryz.func315 ?_;repeat' first|simp only[go_sem,seval,l1]|refine sB ?_|(first|apply pX|apply bX)<;>intro hc|refine⟨oD,?_⟩|exact oD|fail
 refine aj (α:=Nat) (fun i=>gs.length-i) (fun i=>⟨[(1, .p 1000 0 0),(12, .v (.sl (gs.map gG))),(13,E' gs.length),(14,E' i)],[(1000,⟨0,[.v (.sl (gs.map gG)), .v (.sl (vs.map dC)), .v (.sl (es.map eE.pv))],false,none⟩)],_⟩) (fun i=>i≤gs.length∧(gs.drop i).all gB=gs.all gB) 0 (fun _=>au _) ⟨aL _,rfl⟩ ?_ ?_
 ·exact lE
 ·rintro i ⟨hi,hf⟩ R hR
  by_cases hlt:i<gs.length
  ·have e1:=getD_map gG gs gO hlt;have hgo:=fun h=>hR (i+1) ⟨by omega,h⟩ (by omega)
   rw[aR gO hlt,List.all_cons]at hf;obtain⟨x,hx⟩: ∃x,x=gs.getD i gO:=⟨_,rfl⟩;rw[←hx]at e1 hf;obtain⟨m,o⟩:=x;have v1:=aM m;have v2:=aM o;clear hR hx;simp only[gG]at e1
   cases hg:gB (m,o)with
   |true=>
    rw[hg,bZ]at hf;obtain⟨vm,vo⟩:aa m=true∧aa o=true:=by simpa[gB]using hg
    rw[vm]at v1;rw[vo]at v2;repeat' first|simp only[go_sem,seval,l1,e1]|refine cP v1 ?_|refine cP v2 ?_|refine sB ?_|(first|apply pX|apply bX)<;>intro hc|refine⟨oD,?_⟩|exact oD|fail
    refine hgo hf _ ?_;exact lE
   |false=>
    rw[hg,ec]at hf;have hz:nQ ⟨gs,vs,es⟩=false:=by simp only[nQ,←hf,ec]
    rw[hz];have hg:(aa m&&aa o)=false:=hg;clear hgo hf hz;generalize aa m=b1 at*;generalize aa o=b2 at*;repeat' first|simp only[go_sem,seval,l1,e1]|refine cP v1 ?_|refine cP v2 ?_|refine sB ?_|(first|apply pX|apply bX)<;>intro hc|refine⟨oD,?_⟩|exact oD|fail
    all_goals simp_all
  ·obtain rfl:i=gs.length:=by omega
   rw[cY]at hf;have hf1:gs.all gB=true:=hf.symm;clear hf hR;repeat' first|simp only[go_sem,seval,l1,l2]|refine sB ?_|(first|apply pX|apply bX)<;>intro hc|refine⟨oD,?_⟩|exact oD|fail
   refine aj (α:=Nat) (fun i=>vs.length-i) (fun i=>⟨[(1, .p 1000 0 0),(30, .v (.sl (vs.map dC))),(31,E' vs.length),(32,E' i)],[(1000,⟨0,[.v (.sl (gs.map gG)), .v (.sl (vs.map dC)), .v (.sl (es.map eE.pv))],false,none⟩)],_⟩) (fun i=>i≤vs.length∧(vs.drop i).all aa=vs.all aa) 0 (fun _=>au _) ⟨aL _,rfl⟩ ?_ ?_
   ·exact lE
   ·rintro i ⟨hi,hf⟩ R hR
    by_cases hlt:i<vs.length
    ·have e1:=getD_map dC vs [] hlt;have hgo:=fun h=>hR (i+1) ⟨by omega,h⟩ (by omega)
     rw[aR [] hlt,List.all_cons]at hf;generalize vs.getD i []=x at*;have v1:=aM x;clear hR;simp only[dC]at e1
     cases hg:aa x with
     |true=>
      rw[hg]at v1;rw[hg,bZ]at hf;repeat' first|simp only[go_sem,seval,l2,e1]|refine cP v1 ?_|refine sB ?_|(first|apply pX|apply bX)<;>intro hc|refine⟨oD,?_⟩|exact oD|fail
      refine hgo hf _ ?_;exact lE
     |false=>
      rw[hg]at v1;rw[hg,ec]at hf;have hz:nQ ⟨gs,vs,es⟩=false:=by simp only[nQ,←hf,ec,qX]
      rw[hz];clear hgo;repeat' first|simp only[go_sem,seval,l2,e1]|refine cP v1 ?_|refine sB ?_|(first|apply pX|apply bX)<;>intro hc|refine⟨oD,?_⟩|exact oD|fail
    ·obtain rfl:i=vs.length:=by omega
     rw[cY]at hf;have hf2:vs.all aa=true:=hf.symm;have hz:nQ ⟨gs,vs,es⟩=es.all (Jn gs.length vs.length):=by simp only[nQ,hf1,hf2,bZ]
     rw[hz];clear hf hR hz;repeat' first|simp only[go_sem,seval,l2,l3]|refine sB ?_|(first|apply pX|apply bX)<;>intro hc|refine⟨oD,?_⟩|exact oD|fail
     refine aj (α:=Nat) (fun i=>es.length-i) (fun i=>⟨[(1, .p 1000 0 0),(42, .v (.sl (es.map eE.pv))),(43,E' es.length),(44,E' i)],[(1000,⟨0,[.v (.sl (gs.map gG)), .v (.sl (vs.map dC)), .v (.sl (es.map eE.pv))],false,none⟩)],_⟩) (fun i=>i≤es.length∧(es.drop i).all (Jn gs.length vs.length)=es.all (Jn gs.length vs.length)) 0 (fun _=>au _) ⟨aL _,rfl⟩ ?_ ?_
     ·exact lE
     ·rintro i ⟨hi,hf⟩ R hR
      by_cases hlt:i<es.length
      ·have e1:=getD_map eE.pv es ku hlt;have q4:=(bq _ (ay ku hlt)).1;have hgo:=fun h=>hR (i+1) ⟨by omega,h⟩ (by omega)
       rw[aR ku hlt,List.all_cons]at hf;obtain⟨x,hx⟩: ∃x,x=es.getD i ku:=⟨_,rfl⟩;rw[←hx]at e1 q4 hf;obtain⟨gr,tg,ts⟩:=x;simp only at q4;have v1:=aM tg;have l4:(ts.map fR.pv).length=ts.length:=aH ..;simp only[eE.pv]at e1;clear hR hx
       cases hg:(decide (0≤gr)&&decide (gr<gs.length)&&aa tg)with
       |false=>
        have hq:Jn gs.length vs.length ⟨gr,tg,ts⟩=false:=by simp only[Jn,hg,ec]
        rw[hq,ec]at hf;rw[←hf];clear hgo hf hq;generalize aa tg=b1 at*;repeat' first|simp only[go_sem,seval,l1,l3,e1]|refine cP v1 ?_|refine sB ?_|(first|apply pX|apply bX)<;>intro hc|refine⟨oD,?_⟩|exact oD|fail
        all_goals simp_all
        all_goals omega
       |true=>
        have hq:Jn gs.length vs.length ⟨gr,tg,ts⟩=ts.all (OL vs.length):=by simp only[Jn,hg,bZ]
        rw[hq]at hf;simp only[aZ,decide_eq_true_eq]at hg;obtain⟨⟨g1,g2⟩,vt⟩:=hg;rw[vt]at v1;have hd1:decide (gr<0)=false:=decide_eq_false (by omega)
        have hd2:decide (gr≥(gs.length:Int))=false:=decide_eq_false (by omega)
        clear hq g1 g2 vt;repeat' first|simp only[go_sem,seval,l1,l3,l4,e1,hd1,hd2]|refine cP v1 ?_|refine sB ?_|(first|apply pX|apply bX)<;>intro hc|refine⟨oD,?_⟩|exact oD|fail
        refine aj (α:=Nat) (fun i=>ts.length-i) (fun j=>⟨[(1, .p 1000 0 0),(42, .v (.sl (es.map eE.pv))),(43,E' es.length),(44,E' i),(66, .v (.sl (ts.map fR.pv))),(67,E' ts.length),(68,E' j)],[(1000,⟨0,[.v (.sl (gs.map gG)), .v (.sl (vs.map dC)), .v (.sl (es.map eE.pv))],false,none⟩)],_⟩) (fun i=>i≤ts.length∧(ts.drop i).all (OL vs.length)=ts.all (OL vs.length)) 0 (fun _=>au _) ⟨aL _,rfl⟩ ?_ ?_
        ·exact lE
        ·rintro j ⟨hj,hk⟩ R' hR'
         by_cases hjt:j<ts.length
         ·have e2:=getD_map fR.pv ts ka hjt;have hgo':=fun h=>hR' (j+1) ⟨by omega,h⟩ (by omega)
          rw[aR ka hjt,List.all_cons]at hk;obtain⟨y,hy⟩: ∃y,y=ts.getD j ka:=⟨_,rfl⟩;rw[←hy]at e2 hk;obtain⟨b,v,n,a⟩:=y;have v2:=aM b;have v3:=fJ n a;rw[show(aa a&& !(n&&a==[]))=db (n,a)from rfl]at v3
          simp only[fR.pv]at e2;clear hR' hy
          cases ht:OL vs.length ⟨b,v,n,a⟩with
          |true=>
           rw[ht,bZ]at hk;simp only[OL,aZ,decide_eq_true_eq]at ht;obtain⟨⟨t1,t2⟩,t3,t4⟩:=ht;rw[t3]at v2;rw[t4]at v3;have hd3:decide (v<0)=false:=decide_eq_false (by omega)
           have hd4:decide (v≥(vs.length:Int))=false:=decide_eq_false (by omega)
           repeat' first|simp only[go_sem,seval,l2,l4,e2,hd3,hd4]|refine cP v2 ?_|refine cP v3 ?_|refine sB ?_|(first|apply pX|apply bX)<;>intro hc|refine⟨oD,?_⟩|exact oD|fail
           refine hgo' hk _ ?_;exact lE
          |false=>
           rw[ht,ec]at hk;rw[←hk,ec]at hf;rw[←hf];simp only[OL]at ht;clear hgo' hgo hk hf;generalize aa b=b1 at*;generalize db (n,a)=b2 at*;repeat' first|simp only[go_sem,seval,l2,l4,e2]|refine cP v2 ?_|refine cP v3 ?_|refine sB ?_|(first|apply pX|apply bX)<;>intro hc|refine⟨oD,?_⟩|exact oD|fail
           all_goals simp_all
           all_goals omega
         ·obtain rfl:j=ts.length:=by omega
          rw[cY]at hk;rw[←hk]at hf;repeat' first|simp only[go_sem,seval,l3,l4]|refine sB ?_|(first|apply pX|apply bX)<;>intro hc|refine⟨oD,?_⟩|exact oD|fail
          refine hgo hf _ ?_;exact lE
      ·obtain rfl:i=es.length:=by omega
       rw[cY]at hf;rw[←hf];repeat' first|simp only[go_sem,seval,l3]|refine sB ?_|(first|apply pX|apply bX)<;>intro hc|refine⟨oD,?_⟩|exact oD|fail
def Hh (s:dy):Bool:=decide (8<s.groups.length)||(decide (64<s.vars.length)||(decide (64<s.eqs.length)||s.eqs.any fun q=>decide (64<q.terms.length)))
theorem ND {s:dy} (hb:SP s):aD Tryz.prog 316 [s.pv] (E (if Hh s then 6 else 0)):=by
 have h1:=rG s.eqs _ _ (by have:=hb.ne;omega) NF
 obtain⟨gs,vs,es⟩:=s;have ng:=hb.ng;have nv:=hb.nv;have ne:=hb.ne;simp only at ng nv ne h1;have l1:(gs.map gG).length=gs.length:=aH ..;have l2:(vs.map dC).length=vs.length:=aH ..;have l3:(es.map eE.pv).length=es.length:=aH ..;clear hb;unfold dy.pv Hh;simp only;generalize (es.any fun q=>decide (64<q.terms.length))=b at*
 have d1:decide ((gs.length:Int)>8)=decide (8<gs.length):=by rw[decide_eq_decide];omega
 have d2:decide ((vs.length:Int)>64)=decide (64<vs.length):=by rw[decide_eq_decide];omega
 have d3:decide ((es.length:Int)>64)=decide (64<es.length):=by rw[decide_eq_decide];omega
 refine eW Tryz.call316 Tryz.func316 ?_;repeat' first|simp only[go_sem,seval,l1,l2,l3,d1,d2,d3]|refine cP h1 ?_|refine sB ?_|(first|apply pX|apply bX)<;>intro hc|refine⟨oD,?_⟩|exact oD|fail
 all_goals simp_all
 all_goals omega
def lF (s:dy) (q:eE):Bytes×Bytes:=s.groups.getD q.lF.toNat gO
def GU (gs:List (Bytes×Bytes)) (q:eE):Bool:=kG (gs.getD q.lF.toNat gO).1 (gs.getD q.lF.toNat gO).2 q.tgt&&q.terms.all fun t=>kG (gs.getD q.lF.toNat gO).1 (gs.getD q.lF.toNat gO).2 t.base
def gC (g:Bytes×Bytes):Bool:=decide (gE g.1 g.2=0)
def zr (s:dy):Bool:=s.groups.all gC&&s.eqs.all (GU s.groups)
theorem Jo {ng nv:Nat} {q:eE} (h:Jn ng nv q=true):0≤q.lF∧q.lF<ng∧ ∀t∈q.terms,0≤t.var∧t.var<nv∧aa t.base=true∧db (t.neg,t.abs)=true:=by
 simp only[Jn,aZ,decide_eq_true_eq]at h;refine⟨h.1.1.1,h.1.1.2,fun t ht=> ?_⟩
 have:=bc.1 h.2 t ht;simp only[OL,aZ,decide_eq_true_eq]at this;exact⟨this.1.1,this.1.2,this.2.1,this.2.2⟩
theorem DH {s:dy} (hb:SP s) (hf:nQ s=true):aD Tryz.prog 317 [s.pv] (E (if zr s then 0 else 13)):=by
 obtain⟨gs,vs,es⟩:=s;obtain⟨bg,-,bq,ng,nv,ne⟩:=hb;simp only[nQ,aZ]at bg bq ng nv ne hf;have hq:=bc.1 hf.2.2;have l1:(gs.map gG).length=gs.length:=aH ..;have l3:(es.map eE.pv).length=es.length:=aH ..;clear hf;unfold dy.pv;simp only;refine eW Tryz.call317 Tryz.func317 ?_;repeat' first|simp only[go_sem,seval,l1]|refine sB ?_|(first|apply pX|apply bX)<;>intro hc|refine⟨oD,?_⟩|exact oD|fail
 refine aj (α:=Nat) (fun i=>gs.length-i) (fun i=>⟨[(1, .p 1000 0 0),(9, .v (.sl (gs.map gG))),(10,E' gs.length),(11,E' i)],[(1000,⟨0,[.v (.sl (gs.map gG)), .v (.sl (vs.map dC)), .v (.sl (es.map eE.pv))],false,none⟩)],_⟩) (fun i=>i≤gs.length∧(gs.drop i).all gC=gs.all gC) 0 (fun _=>au _) ⟨aL _,rfl⟩ ?_ ?_
 ·exact lE
 ·rintro i ⟨hi,hf⟩ R hR
  by_cases hlt:i<gs.length
  ·have e1:=getD_map gG gs gO hlt;have k:=bg _ (ay gO hlt);have hgo:=fun h=>hR (i+1) ⟨by omega,h⟩ (by omega)
   rw[aR gO hlt,List.all_cons]at hf;obtain⟨x,hx⟩: ∃x,x=gs.getD i gO:=⟨_,rfl⟩;rw[←hx]at e1 k hf;obtain⟨m,o⟩:=x;have v1:=jn k.1 k.2;clear hR hx k;simp only[gG]at e1;simp only[gC]at hf
   by_cases hg:gE m o=0
   ·rw[hg]at v1;rw[decide_eq_true hg,bZ]at hf;repeat' first|simp only[go_sem,seval,l1,e1]|refine cP v1 ?_|refine sB ?_|(first|apply pX|apply bX)<;>intro hc|refine⟨oD,?_⟩|exact oD|fail
    refine hgo hf _ ?_;exact lE
   ·rw[decide_eq_false hg,ec]at hf;have hz:zr ⟨gs,vs,es⟩=false:=by
     simp only[zr,Bool.and_eq_false_iff];exact .inl hf.symm
    have hb:(gE m o !=0)=true:=by simpa using hg
    rw[hz];clear hgo hf hz;generalize gE m o=z at*;repeat' first|simp only[go_sem,seval,l1,e1,hb]|refine cP v1 ?_|refine sB ?_|(first|apply pX|apply bX)<;>intro hc|refine⟨oD,?_⟩|exact oD|fail
  ·obtain rfl:i=gs.length:=by omega
   rw[cY]at hf;have hf1:gs.all gC=true:=hf.symm;have hz:zr ⟨gs,vs,es⟩=es.all (GU gs):=by simp only[zr,hf1,bZ]
   rw[hz];clear hf hR hz hf1;repeat' first|simp only[go_sem,seval,l1,l3]|refine sB ?_|(first|apply pX|apply bX)<;>intro hc|refine⟨oD,?_⟩|exact oD|fail
   refine aj (α:=Nat) (fun i=>es.length-i) (fun i=>⟨[(1, .p 1000 0 0),(20, .v (.sl (es.map eE.pv))),(21,E' es.length),(22,E' i)],[(1000,⟨0,[.v (.sl (gs.map gG)), .v (.sl (vs.map dC)), .v (.sl (es.map eE.pv))],false,none⟩)],_⟩) (fun i=>i≤es.length∧(es.drop i).all (GU gs)=es.all (GU gs)) 0 (fun _=>au _) ⟨aL _,rfl⟩ ?_ ?_
   ·exact lE
   ·rintro i ⟨hi,hf⟩ R hR
    by_cases hlt:i<es.length
    ·have e1:=getD_map eE.pv es ku hlt;obtain⟨q1,q2,-⟩:=Jo (hq _ (ay ku hlt));have q4:=(bq _ (ay ku hlt)).1;have hgo:=fun h=>hR (i+1) ⟨by omega,h⟩ (by omega)
     rw[aR ku hlt,List.all_cons]at hf;obtain⟨x,hx⟩: ∃x,x=es.getD i ku:=⟨_,rfl⟩;rw[←hx]at e1 q1 q2 q4 hf;obtain⟨gr,tg,ts⟩:=x;simp only at q1 q2 q4;have hgl:gr.toNat<gs.length:=by omega
     have kg:=bg _ (ay gO hgl);have e3:=getD_map gG gs gO hgl;simp only[GU]at hf;obtain⟨z,hz⟩: ∃z,z=gs.getD gr.toNat gO:=⟨_,rfl⟩;rw[←hz]at kg e3 hf;obtain⟨m,o⟩:=z;simp only at kg hf;have v1:=vL kg.1 kg.2 tg;have v2:=rH ts _ _ _ (by omega) (Nw kg.1 kg.2)
     have hn:(ts.any fun t=> !kG m o t.base)= !ts.all fun t=>kG m o t.base:=lr ..
     rw[hn]at v2;simp only[gG]at e3 v2;simp only[eE.pv]at e1;clear hR hx hz kg hn hq bq bg;generalize kG m o tg=b1 at*;generalize (ts.all fun t=>kG m o t.base)=b2 at*
     cases hbb:(b1&&b2)with
     |true=>
      rw[hbb,bZ]at hf;simp only[aZ]at hbb;obtain⟨rfl,rfl⟩:=hbb;repeat' first|simp only[go_sem,seval,l1,l3,e1,e3,aN]|refine cP v1 ?_|refine cV v2 ?_|refine sB ?_|(first|apply pX|apply bX)<;>intro hc|refine⟨oD,?_⟩|exact oD|fail
      refine hgo hf _ ?_;exact lE
     |false=>
      rw[hbb,ec]at hf;rw[←hf];clear hgo hf;repeat' first|simp only[go_sem,seval,l1,l3,e1,e3,aN]|refine cP v1 ?_|refine cV v2 ?_|refine sB ?_|(first|apply pX|apply bX)<;>intro hc|refine⟨oD,?_⟩|exact oD|fail
      all_goals simp_all
    ·obtain rfl:i=es.length:=by omega
     rw[cY]at hf;rw[←hf];repeat' first|simp only[go_sem,seval,l3]|refine sB ?_|(first|apply pX|apply bX)<;>intro hc|refine⟨oD,?_⟩|exact oD|fail
theorem uR (l:List fR) (f:FuncId) (c:List PV) (p:fR→Bool) (hl:l.length<4611686018427387904) (h: ∀x∈l,aD Tryz.prog f (fR.pv x::c) (.b (p x))):aD Tryz.prog 380 [.sl (l.map fR.pv), .fc f [] c] (E (dA p 0 l)):=by
 have hlm:(l.map fR.pv).length=l.length:=aH ..;refine eW Tryz.call380 Tryz.func380 ?_;repeat' first|simp only[go_sem,seval,hlm]|refine sB ?_|(first|apply pX|apply bX)<;>intro hc|refine⟨oD,?_⟩|exact oD|fail
 refine aj (α:=Nat) (fun i=>l.length-i) (fun i=>⟨[(0, .v (.sl (l.map fR.pv))),(1, .v (.fc f [] c)),(7, .v (.i .i64 l.length)),(8, .v (.i .i64 (i:Nat)))],[],_⟩) (fun i=>i≤l.length∧dA p i (l.drop i)=dA p 0 l) 0 (fun _=>au _) ⟨aL _,rfl⟩ ?_ ?_
 ·exact lE
 ·rintro i ⟨hi,hx⟩ R hR;rw[←hx]
  by_cases hlt:i<l.length
  ·have e1:=getD_map fR.pv l ka hlt;have hf:=h (l.getD i ka) (ay ka hlt);have hgo:=hR (i+1);rw[←hx,aR ka hlt]at hgo;rw[aR ka hlt];simp only[dA]at hgo⊢;clear hx hR h;obtain⟨b,hb⟩: ∃b,b=p (l.getD i ka):=⟨_,rfl⟩;rw[←hb]at hf hgo⊢;clear hb;obtain⟨x,hxx⟩: ∃x,x=l.getD i ka:=⟨_,rfl⟩;rw[←hxx]at e1 hf;clear hxx;obtain⟨tb,tv,tn,ta⟩:=x;simp only[fR.pv]at e1 hf;cases b
   ·have hgo:=hgo ⟨by omega,rfl⟩ (by omega)
    repeat' first|simp only[go_sem,seval,hlm,e1]|(refine dF hf (lT _ _) ?_)|refine sB ?_|(first|apply pX|apply bX)<;>intro hc|refine⟨oD,?_⟩|exact oD|fail
    refine hgo _ ?_;exact lE
   ·repeat' first|simp only[go_sem,seval,hlm,e1]|(refine dF hf (lT _ _) ?_)|refine sB ?_|(first|apply pX|apply bX)<;>intro hc|refine⟨oD,?_⟩|exact oD|fail
    all_goals rfl
  ·obtain rfl:i=l.length:=by omega
   rw[cY];repeat' first|simp only[go_sem,seval,hlm]|refine sB ?_|(first|apply pX|apply bX)<;>intro hc|refine⟨oD,?_⟩|exact oD|fail
   all_goals simp[dA]
theorem pQ (l:List fR) (f:FuncId) (c:List PV) (p:fR→Bool) (hl:l.length<4611686018427387904) (h: ∀x∈l,aD Tryz.prog f (fR.pv x::c) (.b (p x))):aD Tryz.prog 360 [.sl (l.map fR.pv), .fc f [] c] (.b (l.any p)):=by
 have hi:=uR l f c p hl h;have e:decide (dA p 0 l≥0)=l.any p:=by
  rw[dx,decide_eq_true_iff];exact gW
 refine eW Tryz.call360 Tryz.func360 ?_;repeat' first|simp only[go_sem,seval,e]|refine cP hi ?_|refine sB ?_|(first|apply pX|apply bX)<;>intro hc|refine⟨oD,?_⟩|exact oD|fail
theorem uQ (l:List (Bytes×Bytes)) (f:FuncId) (c:List PV) (p:(Bytes×Bytes)→Bool) (hl:l.length<4611686018427387904) (h: ∀x∈l,aD Tryz.prog f (gG x::c) (.b (p x))):aD Tryz.prog 176 [.sl (l.map gG), .fc f [] c] (E (dA p 0 l)):=by
 have hlm:(l.map gG).length=l.length:=aH ..;refine eW Tryz.call176 Tryz.func176 ?_;repeat' first|simp only[go_sem,seval,hlm]|refine sB ?_|(first|apply pX|apply bX)<;>intro hc|refine⟨oD,?_⟩|exact oD|fail
 refine aj (α:=Nat) (fun i=>l.length-i) (fun i=>⟨[(0, .v (.sl (l.map gG))),(1, .v (.fc f [] c)),(7, .v (.i .i64 l.length)),(8, .v (.i .i64 (i:Nat)))],[],_⟩) (fun i=>i≤l.length∧dA p i (l.drop i)=dA p 0 l) 0 (fun _=>au _) ⟨aL _,rfl⟩ ?_ ?_
 ·exact lE
 ·rintro i ⟨hi,hx⟩ R hR;rw[←hx]
  by_cases hlt:i<l.length
  ·have e1:=getD_map gG l gO hlt;have hf:=h (l.getD i gO) (ay gO hlt);have hgo:=hR (i+1);rw[←hx,aR gO hlt]at hgo;rw[aR gO hlt];simp only[dA]at hgo⊢;clear hx hR h;obtain⟨b,hb⟩: ∃b,b=p (l.getD i gO):=⟨_,rfl⟩;rw[←hb]at hf hgo⊢;clear hb;obtain⟨x,hxx⟩: ∃x,x=l.getD i gO:=⟨_,rfl⟩;rw[←hxx]at e1 hf;clear hxx;obtain⟨gm,go⟩:=x;simp only[gG]at e1 hf;cases b
   ·have hgo:=hgo ⟨by omega,rfl⟩ (by omega)
    repeat' first|simp only[go_sem,seval,hlm,e1]|(refine dF hf (lT _ _) ?_)|refine sB ?_|(first|apply pX|apply bX)<;>intro hc|refine⟨oD,?_⟩|exact oD|fail
    refine hgo _ ?_;exact lE
   ·repeat' first|simp only[go_sem,seval,hlm,e1]|(refine dF hf (lT _ _) ?_)|refine sB ?_|(first|apply pX|apply bX)<;>intro hc|refine⟨oD,?_⟩|exact oD|fail
    all_goals rfl
  ·obtain rfl:i=l.length:=by omega
   rw[cY];repeat' first|simp only[go_sem,seval,hlm]|refine sB ?_|(first|apply pX|apply bX)<;>intro hc|refine⟨oD,?_⟩|exact oD|fail
   all_goals simp[dA]
theorem pP (l:List (Bytes×Bytes)) (f:FuncId) (c:List PV) (p:(Bytes×Bytes)→Bool) (hl:l.length<4611686018427387904) (h: ∀x∈l,aD Tryz.prog f (gG x::c) (.b (p x))):aD Tryz.prog 321 [.sl (l.map gG), .fc f [] c] (.b (l.any p)):=by
 have hi:=uQ l f c p hl h;have e:decide (dA p 0 l≥0)=l.any p:=by
  rw[dx,decide_eq_true_iff];exact gW
 refine eW Tryz.call321 Tryz.func321 ?_;repeat' first|simp only[go_sem,seval,e]|refine cP hi ?_|refine sB ?_|(first|apply pX|apply bX)<;>intro hc|refine⟨oD,?_⟩|exact oD|fail
theorem yA (s:dy) (hl:s.groups.length<1000000):aD Tryz.prog 324 [s.pv] (.s (bK s.groups)):=by
 obtain⟨gs,vs,es⟩:=s;simp only at hl;have l1:(gs.map gG).length=gs.length:=aH ..;unfold dy.pv;simp only;refine eW Tryz.call324 Tryz.func324 ?_;repeat' first|simp only[go_sem,seval,l1]|refine sB ?_|(first|apply pX|apply bX)<;>intro hc|refine⟨oD,?_⟩|exact oD|fail
 refine aj (α:=Nat) (fun i=>gs.length-i) (fun i=>⟨[(1, .p 1000 0 0),(6, .v (.sl (gs.map gG))),(7,E' gs.length),(8,E' i)],[(1000,⟨0,[.v (.sl (gs.map gG)), .v (.sl (vs.map dC)), .v (.sl (es.map eE.pv))],false,none⟩)],_⟩) (fun i=>i≤gs.length∧bK (gs.drop i)=bK gs) 0 (fun _=>au _) ⟨aL _,rfl⟩ ?_ ?_
 ·exact lE
 ·rintro i ⟨hi,hf⟩ R hR;rw[←hf]
  by_cases hlt:i<gs.length
  ·have e1:=getD_map gG gs gO hlt;have hgo:=hR (i+1);rw[←hf]at hgo;rw[aR gO hlt]at hgo⊢;obtain⟨x,hx⟩: ∃x,x=gs.getD i gO:=⟨_,rfl⟩;rw[←hx]at e1 hgo⊢;clear hx hf hR;obtain⟨m,o⟩:=x;simp only[bK]at hgo⊢;simp only[gG]at e1
   by_cases ho:o=[]
   ·subst ho;simp only[if_true]at hgo⊢;have hgo:=hgo ⟨by omega,trivial⟩ (by omega)
    repeat' first|simp only[go_sem,seval,l1,e1,nn]|refine sB ?_|(first|apply pX|apply bX)<;>intro hc|refine⟨oD,?_⟩|exact oD|fail
    refine hgo _ ?_;exact lE
   ·have hb:(o==([]:Bytes))=false:=by simpa using ho
    rw[if_neg ho];repeat' first|simp only[go_sem,seval,l1,e1,hb]|refine sB ?_|(first|apply pX|apply bX)<;>intro hc|refine⟨oD,?_⟩|exact oD|fail
  ·obtain rfl:i=gs.length:=by omega
   rw[cY];repeat' first|simp only[go_sem,seval,l1]|refine sB ?_|(first|apply pX|apply bX)<;>intro hc|refine⟨oD,?_⟩|exact oD|fail
   all_goals rfl
def Kf (q:Bytes) (g:Bytes×Bytes):Bool:= !(g.2==[])&& !(g.2==q)
def Hk (vs:List Bytes) (t:fR):Bool:=vs.getD t.var.toNat []==[]
def IM (gs:List (Bytes×Bytes)) (vs:List Bytes) (q:eE):Bool:=(gs.getD q.lF.toNat gO).2==[]&&q.terms.any (Hk vs)
def DG (s:dy):Bool:= !(s.vars.any fun b=>b==[])||(!(bK s.groups==[])&& !(s.groups.any (Kf (bK s.groups)))&&s.eqs.all fun q=> !IM s.groups s.vars q)
theorem Ri (q:Bytes) (g:Bytes×Bytes):aD Tryz.prog 363 [gG g, .pt (.agg [.s q]) 0] (.b (Kf q g)):=by
 obtain⟨m,o⟩:=g;simp only[gG,Kf];refine eW Tryz.call363 Tryz.func363 ?_;repeat' first|simp only[go_sem,seval,bne]|refine sB ?_|(first|apply pX|apply bX)<;>intro hc|refine⟨oD,?_⟩|exact oD|fail
 all_goals simp_all[bne]
theorem Rj {s:dy} {t:fR} (h0:0≤t.var) (h1:t.var<s.vars.length):aD Tryz.prog 364 [t.pv, .pt s.pv 0] (.b (Hk s.vars t)):=by
 obtain⟨gs,vs,es⟩:=s;obtain⟨b,v,n,a⟩:=t;simp only at h0 h1;have l2:(vs.map dC).length=vs.length:=aH ..;have e1:=getD_map dC vs [] (i:=v.toNat) (by omega)
 simp only[dy.pv,fR.pv,Hk,dC]at*;refine eW Tryz.call364 Tryz.func364 ?_;repeat' first|simp only[go_sem,seval,l2,e1]|refine sB ?_|(first|apply pX|apply bX)<;>intro hc|refine⟨oD,?_⟩|exact oD|fail
theorem Nz {s:dy} (hb:SP s) (hf:nQ s=true):aD Tryz.prog 318 [s.pv] (E (if DG s then 0 else 10)):=by
 have h1:=rI s.vars _ _ (by have:=hb.nv;omega) Rh
 have hor:=yA s (by have:=hb.ng;omega)
 have h2:=pP s.groups _ _ _ (by have:=hb.ng;omega) fun x _=>Ri (bK s.groups) x
 have h3:=fun q (hq:q∈s.eqs)=>pQ q.terms 364 [.pt s.pv 0] (Hk s.vars) (by have:=(hb.q q hq).1;omega) fun t ht=>by
  simp only[nQ,aZ]at hf;obtain⟨-,-,k⟩:=Jo (bc.1 hf.2.2 q hq);exact Rj (k t ht).1 (k t ht).2.1
 have ng:=hb.ng;have ne:=hb.ne;have bq:=hb.q;obtain⟨gs,vs,es⟩:=s;simp only[nQ,aZ]at hf ng ne bq;have hq:=bc.1 hf.2.2;have l1:(gs.map gG).length=gs.length:=aH ..;have l3:(es.map eE.pv).length=es.length:=aH ..;unfold DG;simp only at*;clear hb hf;generalize (vs.any fun b=>b==[])=bv at*
 generalize bK gs=q at*;generalize (gs.any (Kf q))=bo at*;unfold dy.pv at*;simp only at*;cases bv
 ·refine eW Tryz.call318 Tryz.func318 ?_;repeat' first|simp only[go_sem,seval]|refine cP h1 ?_|refine sB ?_|(first|apply pX|apply bX)<;>intro hc|refine⟨oD,?_⟩|exact oD|fail
 by_cases hq0:q=[]
 ·subst hq0;refine eW Tryz.call318 Tryz.func318 ?_;repeat' first|simp only[go_sem,seval,aN,nn]|refine cP h1 ?_|refine cP hor ?_|refine cV h2 ?_|refine sB ?_|(first|apply pX|apply bX)<;>intro hc|refine⟨oD,?_⟩|exact oD|fail
  all_goals rfl
 have hb:(q==([]:Bytes))=false:=by simpa using hq0
 rw[hb];simp only[bu,bR,bZ,mb];cases bo
 ·refine eW Tryz.call318 Tryz.func318 ?_;repeat' first|simp only[go_sem,seval,aN,hb]|refine cP h1 ?_|refine cP hor ?_|refine cV h2 ?_|refine sB ?_|(first|apply pX|apply bX)<;>intro hc|refine⟨oD,?_⟩|exact oD|fail
  refine aj (α:=Nat) (fun i=>es.length-i) (fun i=>⟨[(1, .p 1000 0 0),(21, .v (.sl (es.map eE.pv))),(22,E' es.length),(23,E' i)],[(1000,⟨0,[.v (.sl (gs.map gG)), .v (.sl (vs.map dC)), .v (.sl (es.map eE.pv))],false,none⟩)],_⟩) (fun i=>i≤es.length∧((es.drop i).all fun q=> !IM gs vs q)=es.all fun q=> !IM gs vs q) 0 (fun _=>au _) ⟨aL _,rfl⟩ ?_ ?_
  ·exact lE
  ·rintro i ⟨hi,hf⟩ R hR
   by_cases hlt:i<es.length
   ·have e1:=getD_map eE.pv es ku hlt;have v2:=h3 _ (ay ku hlt);obtain⟨q1,q2,-⟩:=Jo (hq _ (ay ku hlt));have hgo:=fun h=>hR (i+1) ⟨by omega,h⟩ (by omega)
    rw[aR ku hlt,List.all_cons]at hf;obtain⟨x,hx⟩: ∃x,x=es.getD i ku:=⟨_,rfl⟩;rw[←hx]at e1 q1 q2 v2 hf;obtain⟨gr,tg,ts⟩:=x;simp only at q1 q2 v2;have hgl:gr.toNat<gs.length:=by omega
    have e3:=getD_map gG gs gO hgl;have hbq:IM gs vs ⟨gr,tg,ts⟩=((gs.getD gr.toNat gO).2==[]&&ts.any (Hk vs)):=rfl;rw[hbq]at hf;obtain⟨z,hz⟩: ∃z,z=gs.getD gr.toNat gO:=⟨_,rfl⟩;rw[←hz]at e3 hf;obtain⟨m,o⟩:=z;simp only at hf;simp only[gG]at e3;simp only[eE.pv]at e1;clear hR hx hz h3 hq bq h1 h2 hor;generalize ts.any (Hk vs)=bt at*
    by_cases ho:o=[]
    ·subst ho;cases bt
     ·simp only[nn,qX,bR,bZ]at hf;repeat' first|simp only[go_sem,seval,l1,l3,e1,e3,aN,nn,bne_self_eq_false]|refine cV v2 ?_|refine sB ?_|(first|apply pX|apply bX)<;>intro hc|refine⟨oD,?_⟩|exact oD|fail
      refine hgo hf _ ?_;exact lE
     ·simp only[nn,kA,bu,ec]at hf;rw[←hf];repeat' first|simp only[go_sem,seval,l1,l3,e1,e3,aN,nn,bne_self_eq_false]|refine cV v2 ?_|refine sB ?_|(first|apply pX|apply bX)<;>intro hc|refine⟨oD,?_⟩|exact oD|fail
      all_goals rfl
    ·have hob:(o==([]:Bytes))=false:=by simpa using ho
     have hob2:(o !=([]:Bytes))=true:=by simpa using ho
     simp only[hob,ec,bR,bZ]at hf;repeat' first|simp only[go_sem,seval,l1,l3,e1,e3,aN,hob,hob2]|refine cV v2 ?_|refine sB ?_|(first|apply pX|apply bX)<;>intro hc|refine⟨oD,?_⟩|exact oD|fail
     refine hgo hf _ ?_;exact lE
   ·obtain rfl:i=es.length:=by omega
    rw[cY]at hf;rw[←hf];repeat' first|simp only[go_sem,seval,l3]|refine sB ?_|(first|apply pX|apply bX)<;>intro hc|refine⟨oD,?_⟩|exact oD|fail
    all_goals rfl
 ·refine eW Tryz.call318 Tryz.func318 ?_;repeat' first|simp only[go_sem,seval,aN,hb]|refine cP h1 ?_|refine cP hor ?_|refine cV h2 ?_|refine sB ?_|(first|apply pX|apply bX)<;>intro hc|refine⟨oD,?_⟩|exact oD|fail
  all_goals rfl
def JY (s:dy):Int:=if !nQ s then 3 else if Hh s then 6 else if !zr s then 13 else if !DG s then 10 else 0
theorem Fq {s:dy} (hb:SP s):aD Tryz.prog 249 [s.pv] (E (JY s)):=by
 have h1:=J1 hb;have h2:=ND hb;have h3:=DH hb;have h4:=Nz hb;clear hb;unfold JY;unfold dy.pv at*;generalize nQ s=b1 at*;generalize Hh s=b2 at*;generalize zr s=b3 at*;generalize DG s=b4 at*;cases b1
 ·refine eW Tryz.call249 Tryz.func249 ?_;repeat' first|simp only[go_sem,seval]|refine cP h1 ?_|refine cP h2 ?_|(refine ae ?_)|refine sB ?_|(first|apply pX|apply bX)<;>intro hc|refine⟨oD,?_⟩|exact oD|fail
  all_goals rfl
 have h3:=h3 rfl;have h4:=h4 rfl;cases b2
 ·cases b3
  ·refine eW Tryz.call249 Tryz.func249 ?_;repeat' first|simp only[go_sem,seval]|refine cP h1 ?_|refine cP h2 ?_|refine cP h3 ?_|(refine ae ?_)|refine sB ?_|(first|apply pX|apply bX)<;>intro hc|refine⟨oD,?_⟩|exact oD|fail
   all_goals rfl
  ·cases b4<;>
   ·refine eW Tryz.call249 Tryz.func249 ?_;repeat' first|simp only[go_sem,seval]|refine cP h1 ?_|refine cP h2 ?_|refine cP h3 ?_|refine cP h4 ?_|(refine ae ?_)|refine sB ?_|(first|apply pX|apply bX)<;>intro hc|refine⟨oD,?_⟩|exact oD|fail
    all_goals rfl
 ·refine eW Tryz.call249 Tryz.func249 ?_;repeat' first|simp only[go_sem,seval]|refine cP h1 ?_|refine cP h2 ?_|(refine ae ?_)|refine sB ?_|(first|apply pX|apply bX)<;>intro hc|refine⟨oD,?_⟩|exact oD|fail
  all_goals rfl
structure Be (s:dy):Prop where
 b:SP s
 g: ∀p∈s.groups,gE p.1 p.2=0∧p.1.length≤8∧p.2.length≤8
 v: ∀b∈s.vars,aa b=true∧b.length≤16
 q: ∀q∈s.eqs,0≤q.lF∧q.lF<s.groups.length∧jg (s.groups.getD q.lF.toNat gO).1 (s.groups.getD q.lF.toNat gO).2 q.tgt=true∧q.terms.length≤64∧
  ∀t∈q.terms,0≤t.var∧t.var<s.vars.length∧jg (s.groups.getD q.lF.toNat gO).1 (s.groups.getD q.lF.toNat gO).2 t.base=true∧db (t.neg,t.abs)=true
 ng:s.groups.length≤8
 nv:s.vars.length≤64
 ne:s.eqs.length≤64
 k:DG s=true
theorem Be.m {s:dy} (h:Be s):Vg s:=⟨h.g,h.q,h.ng,h.nv,h.ne⟩
theorem Be.ck {s:dy} (h:Be s):JY s=0:=by
 have e1:nQ s=true:=by
  simp only[nQ,aZ,bc];refine⟨fun p hp=> ?_,fun b hb=>(h.v b hb).1,fun q hq=> ?_⟩
  ·obtain⟨vm,vo,-⟩:=jY (h.g p hp).1;simp[gB,vm,vo]
  ·obtain⟨q1,q2,q3,q4,q5⟩:=h.q q hq;have hg:=(h.g _ (ay gO (show q.lF.toNat<s.groups.length by omega))).1
   simp only[Jn,aZ,decide_eq_true_eq,bc];refine⟨⟨⟨q1,q2⟩,px hg q3⟩,fun t ht=> ?_⟩
   obtain⟨t1,t2,t3,t4⟩:=q5 t ht;simp only[OL,aZ,decide_eq_true_eq];exact⟨⟨t1,t2⟩,px hg t3,t4⟩
 have e2:Hh s=false:=by
  simp only[Hh,Bool.or_eq_false_iff,decide_eq_false_iff_not,List.any_eq_false,decide_eq_true_eq];exact⟨by have:=h.ng;omega,by have:=h.nv;omega,by have:=h.ne;omega,fun q hq=>by have:=(h.q q hq).2.2.2.1;omega⟩
 have e3:zr s=true:=by
  simp only[zr,aZ,bc];refine⟨fun p hp=>by simp[gC,(h.g p hp).1],fun q hq=> ?_⟩
  obtain⟨q1,q2,q3,q4,q5⟩:=h.q q hq;have hg:=(h.g _ (ay gO (show q.lF.toNat<s.groups.length by omega))).1
  simp only[GU,kG,hg,decide_true,bZ,aZ,bc];exact⟨q3,fun t ht=>(q5 t ht).2.2.1⟩
 unfold JY;rw[e1,e2,e3,h.k];rfl
end Go.Proofs.YtmobkhegihemeaaGreatDoor
