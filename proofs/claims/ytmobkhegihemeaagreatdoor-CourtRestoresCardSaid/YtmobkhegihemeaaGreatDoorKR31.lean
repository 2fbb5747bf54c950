/-
  Part of the proof, part KR31. Own work.
-/
import Derived.Test.YtmobkhegihemeaaGreatDoorKR28
set_option linter.all false
namespace Go.Proofs.YtmobkhegihemeaaGreatDoor
open Go Go.Dom Go.Num
set_option maxRecDepth 100000
set_option maxHeartbeats 16000000
structure NQ (s:bQ):Prop where
 g: ∀p∈s.groups,p.1.length≤8∧p.2.length≤8
 v: ∀b∈s.vars,b.length≤16
 q: ∀q∈s.eqs,q.terms.length≤1000∧ ∀t∈q.terms,t.abs.length≤16
 ng:s.groups.length≤1000
 nv:s.vars.length≤1000
 ne:s.eqs.length≤1000
def gB (g:Bytes×Bytes):Bool:=aa g.1&&aa g.2
def J1 (nv:Nat) (t:dL):Bool:=(decide (0≤t.var)&&decide (t.var<nv))&&(aa t.base&&bH (t.neg,t.abs))
def EA (ng nv:Nat) (q:cG):Bool:=(decide (0≤q.iE)&&decide (q.iE<ng)&&aa q.tgt)&&q.terms.all (J1 nv)
def jK (s:bQ):Bool:=s.groups.all gB&&(s.vars.all aa&&s.eqs.all (EA s.groups.length s.vars.length))
theorem Fl {s:bQ} (hb:NQ s):aB Tryz.prog 315 [s.pv] (E (if jK s then 0 else 3)):=by
 obtain⟨gs,vs,es⟩:=s;obtain⟨-,-,bq,ng,nv,ne⟩:=hb;simp only at bq ng nv ne;have l1:(gs.map dU).length=gs.length:=List.length_map ..;have l2:(vs.map bV).length=vs.length:=List.length_map ..;have l3:(es.map cG.pv).length=es.length:=List.length_map ..;unfold bQ.pv;simp only;refine eW Tryz.call315 Tryz.func315 ?_;repeat' first|simp only[go_sem,seval,l1]|refine sB ?_|(first|apply pX|apply bX)<;>intro hc|refine⟨oD,?_⟩|exact oD|fail
 refine aj (α:=Nat) (fun i=>gs.length-i) (fun i=>⟨[(1, .p 1000 0 0),(12, .v (.sl (gs.map dU))),(13,E' gs.length),(14,E' i)],[(1000,⟨0,[.v (.sl (gs.map dU)), .v (.sl (vs.map bV)), .v (.sl (es.map cG.pv))],false,none⟩)],_⟩) (fun i=>i≤gs.length∧(gs.drop i).all gB=gs.all gB) 0 (fun _=>Nat.le_refl _) ⟨Nat.zero_le _,rfl⟩ ?_ ?_
 ·exact lE
 ·rintro i ⟨hi,hf⟩ R hR
  by_cases hlt:i<gs.length
  ·have e1:=getD_map dU gs ed hlt;have hgo:=fun h=>hR (i+1) ⟨by omega,h⟩ (by omega)
   rw[aJ ed hlt,List.all_cons]at hf;obtain⟨x,hx⟩: ∃x,x=gs.getD i ed:=⟨_,rfl⟩;rw[←hx]at e1 hf;obtain⟨m,o⟩:=x;have v1:=aF m;have v2:=aF o;clear hR hx;simp only[dU]at e1
   cases hg:gB (m,o)with
   |true=>
    rw[hg,Bool.true_and]at hf;obtain⟨vm,vo⟩:aa m=true∧aa o=true:=by simpa[gB]using hg
    rw[vm]at v1;rw[vo]at v2;repeat' first|simp only[go_sem,seval,l1,e1]|refine cP v1 ?_|refine cP v2 ?_|refine sB ?_|(first|apply pX|apply bX)<;>intro hc|refine⟨oD,?_⟩|exact oD|fail
    refine hgo hf _ ?_;exact lE
   |false=>
    rw[hg,Bool.false_and]at hf;have hz:jK ⟨gs,vs,es⟩=false:=by simp only[jK,←hf,Bool.false_and]
    rw[hz];have hg:(aa m&&aa o)=false:=hg;clear hgo hf hz;generalize aa m=b1 at*;generalize aa o=b2 at*;repeat' first|simp only[go_sem,seval,l1,e1]|refine cP v1 ?_|refine cP v2 ?_|refine sB ?_|(first|apply pX|apply bX)<;>intro hc|refine⟨oD,?_⟩|exact oD|fail
    all_goals simp_all
  ·obtain rfl:i=gs.length:=by omega
   rw[List.drop_length]at hf;have hf1:gs.all gB=true:=hf.symm;clear hf hR;repeat' first|simp only[go_sem,seval,l1,l2]|refine sB ?_|(first|apply pX|apply bX)<;>intro hc|refine⟨oD,?_⟩|exact oD|fail
   refine aj (α:=Nat) (fun i=>vs.length-i) (fun i=>⟨[(1, .p 1000 0 0),(30, .v (.sl (vs.map bV))),(31,E' vs.length),(32,E' i)],[(1000,⟨0,[.v (.sl (gs.map dU)), .v (.sl (vs.map bV)), .v (.sl (es.map cG.pv))],false,none⟩)],_⟩) (fun i=>i≤vs.length∧(vs.drop i).all aa=vs.all aa) 0 (fun _=>Nat.le_refl _) ⟨Nat.zero_le _,rfl⟩ ?_ ?_
   ·exact lE
   ·rintro i ⟨hi,hf⟩ R hR
    by_cases hlt:i<vs.length
    ·have e1:=getD_map bV vs [] hlt;have hgo:=fun h=>hR (i+1) ⟨by omega,h⟩ (by omega)
     rw[aJ [] hlt,List.all_cons]at hf;generalize vs.getD i []=x at*;have v1:=aF x;clear hR;simp only[bV]at e1
     cases hg:aa x with
     |true=>
      rw[hg]at v1;rw[hg,Bool.true_and]at hf;repeat' first|simp only[go_sem,seval,l2,e1]|refine cP v1 ?_|refine sB ?_|(first|apply pX|apply bX)<;>intro hc|refine⟨oD,?_⟩|exact oD|fail
      refine hgo hf _ ?_;exact lE
     |false=>
      rw[hg]at v1;rw[hg,Bool.false_and]at hf;have hz:jK ⟨gs,vs,es⟩=false:=by simp only[jK,←hf,Bool.false_and,Bool.and_false]
      rw[hz];clear hgo;repeat' first|simp only[go_sem,seval,l2,e1]|refine cP v1 ?_|refine sB ?_|(first|apply pX|apply bX)<;>intro hc|refine⟨oD,?_⟩|exact oD|fail
    ·obtain rfl:i=vs.length:=by omega
     rw[List.drop_length]at hf;have hf2:vs.all aa=true:=hf.symm;have hz:jK ⟨gs,vs,es⟩=es.all (EA gs.length vs.length):=by simp only[jK,hf1,hf2,Bool.true_and]
     rw[hz];clear hf hR hz;repeat' first|simp only[go_sem,seval,l2,l3]|refine sB ?_|(first|apply pX|apply bX)<;>intro hc|refine⟨oD,?_⟩|exact oD|fail
     refine aj (α:=Nat) (fun i=>es.length-i) (fun i=>⟨[(1, .p 1000 0 0),(42, .v (.sl (es.map cG.pv))),(43,E' es.length),(44,E' i)],[(1000,⟨0,[.v (.sl (gs.map dU)), .v (.sl (vs.map bV)), .v (.sl (es.map cG.pv))],false,none⟩)],_⟩) (fun i=>i≤es.length∧(es.drop i).all (EA gs.length vs.length)=es.all (EA gs.length vs.length)) 0 (fun _=>Nat.le_refl _) ⟨Nat.zero_le _,rfl⟩ ?_ ?_
     ·exact lE
     ·rintro i ⟨hi,hf⟩ R hR
      by_cases hlt:i<es.length
      ·have e1:=getD_map cG.pv es gH hlt;have q4:=(bq _ (au gH hlt)).1;have hgo:=fun h=>hR (i+1) ⟨by omega,h⟩ (by omega)
       rw[aJ gH hlt,List.all_cons]at hf;obtain⟨x,hx⟩: ∃x,x=es.getD i gH:=⟨_,rfl⟩;rw[←hx]at e1 q4 hf;obtain⟨gr,tg,ts⟩:=x;simp only at q4;have v1:=aF tg;have l4:(ts.map dL.pv).length=ts.length:=List.length_map ..;simp only[cG.pv]at e1;clear hR hx
       cases hg:(decide (0≤gr)&&decide (gr<gs.length)&&aa tg)with
       |false=>
        have hq:EA gs.length vs.length ⟨gr,tg,ts⟩=false:=by simp only[EA,hg,Bool.false_and]
        rw[hq,Bool.false_and]at hf;rw[←hf];clear hgo hf hq;generalize aa tg=b1 at*;repeat' first|simp only[go_sem,seval,l1,l3,e1]|refine cP v1 ?_|refine sB ?_|(first|apply pX|apply bX)<;>intro hc|refine⟨oD,?_⟩|exact oD|fail
        all_goals simp_all
        all_goals omega
       |true=>
        have hq:EA gs.length vs.length ⟨gr,tg,ts⟩=ts.all (J1 vs.length):=by simp only[EA,hg,Bool.true_and]
        rw[hq]at hf;simp only[Bool.and_eq_true,decide_eq_true_eq]at hg;obtain⟨⟨g1,g2⟩,vt⟩:=hg;rw[vt]at v1;have hd1:decide (gr<0)=false:=decide_eq_false (by omega)
        have hd2:decide (gr≥(gs.length:Int))=false:=decide_eq_false (by omega)
        clear hq g1 g2 vt;repeat' first|simp only[go_sem,seval,l1,l3,l4,e1,hd1,hd2]|refine cP v1 ?_|refine sB ?_|(first|apply pX|apply bX)<;>intro hc|refine⟨oD,?_⟩|exact oD|fail
        refine aj (α:=Nat) (fun i=>ts.length-i) (fun j=>⟨[(1, .p 1000 0 0),(42, .v (.sl (es.map cG.pv))),(43,E' es.length),(44,E' i),(66, .v (.sl (ts.map dL.pv))),(67,E' ts.length),(68,E' j)],[(1000,⟨0,[.v (.sl (gs.map dU)), .v (.sl (vs.map bV)), .v (.sl (es.map cG.pv))],false,none⟩)],_⟩) (fun i=>i≤ts.length∧(ts.drop i).all (J1 vs.length)=ts.all (J1 vs.length)) 0 (fun _=>Nat.le_refl _) ⟨Nat.zero_le _,rfl⟩ ?_ ?_
        ·exact lE
        ·rintro j ⟨hj,hk⟩ R' hR'
         by_cases hjt:j<ts.length
         ·have e2:=getD_map dL.pv ts fV hjt;have hgo':=fun h=>hR' (j+1) ⟨by omega,h⟩ (by omega)
          rw[aJ fV hjt,List.all_cons]at hk;obtain⟨y,hy⟩: ∃y,y=ts.getD j fV:=⟨_,rfl⟩;rw[←hy]at e2 hk;obtain⟨b,v,n,a⟩:=y;have v2:=aF b;have v3:=dJ n a;rw[show(aa a&& !(n&&a==[]))=bH (n,a)from rfl]at v3
          simp only[dL.pv]at e2;clear hR' hy
          cases ht:J1 vs.length ⟨b,v,n,a⟩with
          |true=>
           rw[ht,Bool.true_and]at hk;simp only[J1,Bool.and_eq_true,decide_eq_true_eq]at ht;obtain⟨⟨t1,t2⟩,t3,t4⟩:=ht;rw[t3]at v2;rw[t4]at v3;have hd3:decide (v<0)=false:=decide_eq_false (by omega)
           have hd4:decide (v≥(vs.length:Int))=false:=decide_eq_false (by omega)
           repeat' first|simp only[go_sem,seval,l2,l4,e2,hd3,hd4]|refine cP v2 ?_|refine cP v3 ?_|refine sB ?_|(first|apply pX|apply bX)<;>intro hc|refine⟨oD,?_⟩|exact oD|fail
           refine hgo' hk _ ?_;exact lE
          |false=>
           rw[ht,Bool.false_and]at hk;rw[←hk,Bool.false_and]at hf;rw[←hf];simp only[J1]at ht;clear hgo' hgo hk hf;generalize aa b=b1 at*;generalize bH (n,a)=b2 at*;repeat' first|simp only[go_sem,seval,l2,l4,e2]|refine cP v2 ?_|refine cP v3 ?_|refine sB ?_|(first|apply pX|apply bX)<;>intro hc|refine⟨oD,?_⟩|exact oD|fail
           all_goals simp_all
           all_goals omega
         ·obtain rfl:j=ts.length:=by omega
          rw[List.drop_length]at hk;rw[←hk]at hf;repeat' first|simp only[go_sem,seval,l3,l4]|refine sB ?_|(first|apply pX|apply bX)<;>intro hc|refine⟨oD,?_⟩|exact oD|fail
          refine hgo hf _ ?_;exact lE
      ·obtain rfl:i=es.length:=by omega
       rw[List.drop_length]at hf;rw[←hf];repeat' first|simp only[go_sem,seval,l3]|refine sB ?_|(first|apply pX|apply bX)<;>intro hc|refine⟨oD,?_⟩|exact oD|fail
def Cu (s:bQ):Bool:=decide (8<s.groups.length)||(decide (64<s.vars.length)||(decide (64<s.eqs.length)||s.eqs.any fun q=>decide (64<q.terms.length)))
theorem IZ {s:bQ} (hb:NQ s):aB Tryz.prog 316 [s.pv] (E (if Cu s then 6 else 0)):=by
 have h1:=mS s.eqs _ _ (by have:=hb.ne;omega) I0
 obtain⟨gs,vs,es⟩:=s;have ng:=hb.ng;have nv:=hb.nv;have ne:=hb.ne;simp only at ng nv ne h1;have l1:(gs.map dU).length=gs.length:=List.length_map ..;have l2:(vs.map bV).length=vs.length:=List.length_map ..;have l3:(es.map cG.pv).length=es.length:=List.length_map ..;clear hb;unfold bQ.pv Cu;simp only;generalize (es.any fun q=>decide (64<q.terms.length))=b at*
 have d1:decide ((gs.length:Int)>8)=decide (8<gs.length):=by rw[decide_eq_decide];omega
 have d2:decide ((vs.length:Int)>64)=decide (64<vs.length):=by rw[decide_eq_decide];omega
 have d3:decide ((es.length:Int)>64)=decide (64<es.length):=by rw[decide_eq_decide];omega
 refine eW Tryz.call316 Tryz.func316 ?_;repeat' first|simp only[go_sem,seval,l1,l2,l3,d1,d2,d3]|refine cP h1 ?_|refine sB ?_|(first|apply pX|apply bX)<;>intro hc|refine⟨oD,?_⟩|exact oD|fail
 all_goals simp_all
 all_goals omega
def iE (s:bQ) (q:cG):Bytes×Bytes:=s.groups.getD q.iE.toNat ed
def B5 (gs:List (Bytes×Bytes)) (q:cG):Bool:=fX (gs.getD q.iE.toNat ed).1 (gs.getD q.iE.toNat ed).2 q.tgt&&q.terms.all fun t=>fX (gs.getD q.iE.toNat ed).1 (gs.getD q.iE.toNat ed).2 t.base
def gC (g:Bytes×Bytes):Bool:=decide (gE g.1 g.2=0)
def tV (s:bQ):Bool:=s.groups.all gC&&s.eqs.all (B5 s.groups)
theorem EB {ng nv:Nat} {q:cG} (h:EA ng nv q=true):0≤q.iE∧q.iE<ng∧ ∀t∈q.terms,0≤t.var∧t.var<nv∧aa t.base=true∧bH (t.neg,t.abs)=true:=by
 simp only[EA,Bool.and_eq_true,decide_eq_true_eq]at h;refine⟨h.1.1.1,h.1.1.2,fun t ht=> ?_⟩
 have:=List.all_eq_true.1 h.2 t ht;simp only[J1,Bool.and_eq_true,decide_eq_true_eq]at this;exact⟨this.1.1,this.1.2,this.2.1,this.2.2⟩
theorem yX {s:bQ} (hb:NQ s) (hf:jK s=true):aB Tryz.prog 317 [s.pv] (E (if tV s then 0 else 13)):=by
 obtain⟨gs,vs,es⟩:=s;obtain⟨bg,-,bq,ng,nv,ne⟩:=hb;simp only[jK,Bool.and_eq_true]at bg bq ng nv ne hf;have hq:=List.all_eq_true.1 hf.2.2;have l1:(gs.map dU).length=gs.length:=List.length_map ..;have l3:(es.map cG.pv).length=es.length:=List.length_map ..;clear hf;unfold bQ.pv;simp only;refine eW Tryz.call317 Tryz.func317 ?_;repeat' first|simp only[go_sem,seval,l1]|refine sB ?_|(first|apply pX|apply bX)<;>intro hc|refine⟨oD,?_⟩|exact oD|fail
 refine aj (α:=Nat) (fun i=>gs.length-i) (fun i=>⟨[(1, .p 1000 0 0),(9, .v (.sl (gs.map dU))),(10,E' gs.length),(11,E' i)],[(1000,⟨0,[.v (.sl (gs.map dU)), .v (.sl (vs.map bV)), .v (.sl (es.map cG.pv))],false,none⟩)],_⟩) (fun i=>i≤gs.length∧(gs.drop i).all gC=gs.all gC) 0 (fun _=>Nat.le_refl _) ⟨Nat.zero_le _,rfl⟩ ?_ ?_
 ·exact lE
 ·rintro i ⟨hi,hf⟩ R hR
  by_cases hlt:i<gs.length
  ·have e1:=getD_map dU gs ed hlt;have k:=bg _ (au ed hlt);have hgo:=fun h=>hR (i+1) ⟨by omega,h⟩ (by omega)
   rw[aJ ed hlt,List.all_cons]at hf;obtain⟨x,hx⟩: ∃x,x=gs.getD i ed:=⟨_,rfl⟩;rw[←hx]at e1 k hf;obtain⟨m,o⟩:=x;have v1:=fp k.1 k.2;clear hR hx k;simp only[dU]at e1;simp only[gC]at hf
   by_cases hg:gE m o=0
   ·rw[hg]at v1;rw[decide_eq_true hg,Bool.true_and]at hf;repeat' first|simp only[go_sem,seval,l1,e1]|refine cP v1 ?_|refine sB ?_|(first|apply pX|apply bX)<;>intro hc|refine⟨oD,?_⟩|exact oD|fail
    refine hgo hf _ ?_;exact lE
   ·rw[decide_eq_false hg,Bool.false_and]at hf;have hz:tV ⟨gs,vs,es⟩=false:=by
     simp only[tV,Bool.and_eq_false_iff];exact .inl hf.symm
    have hb:(gE m o !=0)=true:=by simpa using hg
    rw[hz];clear hgo hf hz;generalize gE m o=z at*;repeat' first|simp only[go_sem,seval,l1,e1,hb]|refine cP v1 ?_|refine sB ?_|(first|apply pX|apply bX)<;>intro hc|refine⟨oD,?_⟩|exact oD|fail
  ·obtain rfl:i=gs.length:=by omega
   rw[List.drop_length]at hf;have hf1:gs.all gC=true:=hf.symm;have hz:tV ⟨gs,vs,es⟩=es.all (B5 gs):=by simp only[tV,hf1,Bool.true_and]
   rw[hz];clear hf hR hz hf1;repeat' first|simp only[go_sem,seval,l1,l3]|refine sB ?_|(first|apply pX|apply bX)<;>intro hc|refine⟨oD,?_⟩|exact oD|fail
   refine aj (α:=Nat) (fun i=>es.length-i) (fun i=>⟨[(1, .p 1000 0 0),(20, .v (.sl (es.map cG.pv))),(21,E' es.length),(22,E' i)],[(1000,⟨0,[.v (.sl (gs.map dU)), .v (.sl (vs.map bV)), .v (.sl (es.map cG.pv))],false,none⟩)],_⟩) (fun i=>i≤es.length∧(es.drop i).all (B5 gs)=es.all (B5 gs)) 0 (fun _=>Nat.le_refl _) ⟨Nat.zero_le _,rfl⟩ ?_ ?_
   ·exact lE
   ·rintro i ⟨hi,hf⟩ R hR
    by_cases hlt:i<es.length
    ·have e1:=getD_map cG.pv es gH hlt;obtain⟨q1,q2,-⟩:=EB (hq _ (au gH hlt));have q4:=(bq _ (au gH hlt)).1;have hgo:=fun h=>hR (i+1) ⟨by omega,h⟩ (by omega)
     rw[aJ gH hlt,List.all_cons]at hf;obtain⟨x,hx⟩: ∃x,x=es.getD i gH:=⟨_,rfl⟩;rw[←hx]at e1 q1 q2 q4 hf;obtain⟨gr,tg,ts⟩:=x;simp only at q1 q2 q4;have hgl:gr.toNat<gs.length:=by omega
     have kg:=bg _ (au ed hgl);have e3:=getD_map dU gs ed hgl;simp only[B5]at hf;obtain⟨z,hz⟩: ∃z,z=gs.getD gr.toNat ed:=⟨_,rfl⟩;rw[←hz]at kg e3 hf;obtain⟨m,o⟩:=z;simp only at kg hf;have v1:=nu kg.1 kg.2 tg;have v2:=mT ts _ _ _ (by omega) (IP kg.1 kg.2)
     have hn:(ts.any fun t=> !fX m o t.base)= !ts.all fun t=>fX m o t.base:=im ..
     rw[hn]at v2;simp only[dU]at e3 v2;simp only[cG.pv]at e1;clear hR hx hz kg hn hq bq bg;generalize fX m o tg=b1 at*;generalize (ts.all fun t=>fX m o t.base)=b2 at*
     cases hbb:(b1&&b2)with
     |true=>
      rw[hbb,Bool.true_and]at hf;simp only[Bool.and_eq_true]at hbb;obtain⟨rfl,rfl⟩:=hbb;repeat' first|simp only[go_sem,seval,l1,l3,e1,e3,aH]|refine cP v1 ?_|refine cV v2 ?_|refine sB ?_|(first|apply pX|apply bX)<;>intro hc|refine⟨oD,?_⟩|exact oD|fail
      refine hgo hf _ ?_;exact lE
     |false=>
      rw[hbb,Bool.false_and]at hf;rw[←hf];clear hgo hf;repeat' first|simp only[go_sem,seval,l1,l3,e1,e3,aH]|refine cP v1 ?_|refine cV v2 ?_|refine sB ?_|(first|apply pX|apply bX)<;>intro hc|refine⟨oD,?_⟩|exact oD|fail
      all_goals simp_all
    ·obtain rfl:i=es.length:=by omega
     rw[List.drop_length]at hf;rw[←hf];repeat' first|simp only[go_sem,seval,l3]|refine sB ?_|(first|apply pX|apply bX)<;>intro hc|refine⟨oD,?_⟩|exact oD|fail
theorem pq (l:List dL) (f:FuncId) (c:List PV) (p:dL→Bool) (hl:l.length<4611686018427387904) (h: ∀x∈l,aB Tryz.prog f (dL.pv x::c) (.b (p x))):aB Tryz.prog 380 [.sl (l.map dL.pv), .fc f [] c] (E (bU p 0 l)):=by
 have hlm:(l.map dL.pv).length=l.length:=List.length_map ..;refine eW Tryz.call380 Tryz.func380 ?_;repeat' first|simp only[go_sem,seval,hlm]|refine sB ?_|(first|apply pX|apply bX)<;>intro hc|refine⟨oD,?_⟩|exact oD|fail
 refine aj (α:=Nat) (fun i=>l.length-i) (fun i=>⟨[(0, .v (.sl (l.map dL.pv))),(1, .v (.fc f [] c)),(7, .v (.i .i64 l.length)),(8, .v (.i .i64 (i:Nat)))],[],_⟩) (fun i=>i≤l.length∧bU p i (l.drop i)=bU p 0 l) 0 (fun _=>Nat.le_refl _) ⟨Nat.zero_le _,rfl⟩ ?_ ?_
 ·exact lE
 ·rintro i ⟨hi,hx⟩ R hR;rw[←hx]
  by_cases hlt:i<l.length
  ·have e1:=getD_map dL.pv l fV hlt;have hf:=h (l.getD i fV) (au fV hlt);have hgo:=hR (i+1);rw[←hx,aJ fV hlt]at hgo;rw[aJ fV hlt];simp only[bU]at hgo⊢;clear hx hR h;obtain⟨b,hb⟩: ∃b,b=p (l.getD i fV):=⟨_,rfl⟩;rw[←hb]at hf hgo⊢;clear hb;obtain⟨x,hxx⟩: ∃x,x=l.getD i fV:=⟨_,rfl⟩;rw[←hxx]at e1 hf;clear hxx;obtain⟨tb,tv,tn,ta⟩:=x;simp only[dL.pv]at e1 hf;cases b
   ·have hgo:=hgo ⟨by omega,rfl⟩ (by omega)
    repeat' first|simp only[go_sem,seval,hlm,e1]|(refine cW hf (iK _ _) ?_)|refine sB ?_|(first|apply pX|apply bX)<;>intro hc|refine⟨oD,?_⟩|exact oD|fail
    refine hgo _ ?_;exact lE
   ·repeat' first|simp only[go_sem,seval,hlm,e1]|(refine cW hf (iK _ _) ?_)|refine sB ?_|(first|apply pX|apply bX)<;>intro hc|refine⟨oD,?_⟩|exact oD|fail
    all_goals rfl
  ·obtain rfl:i=l.length:=by omega
   rw[List.drop_length];repeat' first|simp only[go_sem,seval,hlm]|refine sB ?_|(first|apply pX|apply bX)<;>intro hc|refine⟨oD,?_⟩|exact oD|fail
   all_goals simp[bU]
theorem lB (l:List dL) (f:FuncId) (c:List PV) (p:dL→Bool) (hl:l.length<4611686018427387904) (h: ∀x∈l,aB Tryz.prog f (dL.pv x::c) (.b (p x))):aB Tryz.prog 360 [.sl (l.map dL.pv), .fc f [] c] (.b (l.any p)):=by
 have hi:=pq l f c p hl h;have e:decide (bU p 0 l≥0)=l.any p:=by
  rw[Bool.eq_iff_iff,decide_eq_true_iff];exact ek
 refine eW Tryz.call360 Tryz.func360 ?_;repeat' first|simp only[go_sem,seval,e]|refine cP hi ?_|refine sB ?_|(first|apply pX|apply bX)<;>intro hc|refine⟨oD,?_⟩|exact oD|fail
theorem po (l:List (Bytes×Bytes)) (f:FuncId) (c:List PV) (p:(Bytes×Bytes)→Bool) (hl:l.length<4611686018427387904) (h: ∀x∈l,aB Tryz.prog f (dU x::c) (.b (p x))):aB Tryz.prog 176 [.sl (l.map dU), .fc f [] c] (E (bU p 0 l)):=by
 have hlm:(l.map dU).length=l.length:=List.length_map ..;refine eW Tryz.call176 Tryz.func176 ?_;repeat' first|simp only[go_sem,seval,hlm]|refine sB ?_|(first|apply pX|apply bX)<;>intro hc|refine⟨oD,?_⟩|exact oD|fail
 refine aj (α:=Nat) (fun i=>l.length-i) (fun i=>⟨[(0, .v (.sl (l.map dU))),(1, .v (.fc f [] c)),(7, .v (.i .i64 l.length)),(8, .v (.i .i64 (i:Nat)))],[],_⟩) (fun i=>i≤l.length∧bU p i (l.drop i)=bU p 0 l) 0 (fun _=>Nat.le_refl _) ⟨Nat.zero_le _,rfl⟩ ?_ ?_
 ·exact lE
 ·rintro i ⟨hi,hx⟩ R hR;rw[←hx]
  by_cases hlt:i<l.length
  ·have e1:=getD_map dU l ed hlt;have hf:=h (l.getD i ed) (au ed hlt);have hgo:=hR (i+1);rw[←hx,aJ ed hlt]at hgo;rw[aJ ed hlt];simp only[bU]at hgo⊢;clear hx hR h;obtain⟨b,hb⟩: ∃b,b=p (l.getD i ed):=⟨_,rfl⟩;rw[←hb]at hf hgo⊢;clear hb;obtain⟨x,hxx⟩: ∃x,x=l.getD i ed:=⟨_,rfl⟩;rw[←hxx]at e1 hf;clear hxx;obtain⟨gm,go⟩:=x;simp only[dU]at e1 hf;cases b
   ·have hgo:=hgo ⟨by omega,rfl⟩ (by omega)
    repeat' first|simp only[go_sem,seval,hlm,e1]|(refine cW hf (iK _ _) ?_)|refine sB ?_|(first|apply pX|apply bX)<;>intro hc|refine⟨oD,?_⟩|exact oD|fail
    refine hgo _ ?_;exact lE
   ·repeat' first|simp only[go_sem,seval,hlm,e1]|(refine cW hf (iK _ _) ?_)|refine sB ?_|(first|apply pX|apply bX)<;>intro hc|refine⟨oD,?_⟩|exact oD|fail
    all_goals rfl
  ·obtain rfl:i=l.length:=by omega
   rw[List.drop_length];repeat' first|simp only[go_sem,seval,hlm]|refine sB ?_|(first|apply pX|apply bX)<;>intro hc|refine⟨oD,?_⟩|exact oD|fail
   all_goals simp[bU]
theorem lA (l:List (Bytes×Bytes)) (f:FuncId) (c:List PV) (p:(Bytes×Bytes)→Bool) (hl:l.length<4611686018427387904) (h: ∀x∈l,aB Tryz.prog f (dU x::c) (.b (p x))):aB Tryz.prog 321 [.sl (l.map dU), .fc f [] c] (.b (l.any p)):=by
 have hi:=po l f c p hl h;have e:decide (bU p 0 l≥0)=l.any p:=by
  rw[Bool.eq_iff_iff,decide_eq_true_iff];exact ek
 refine eW Tryz.call321 Tryz.func321 ?_;repeat' first|simp only[go_sem,seval,e]|refine cP hi ?_|refine sB ?_|(first|apply pX|apply bX)<;>intro hc|refine⟨oD,?_⟩|exact oD|fail
theorem sJ (s:bQ) (hl:s.groups.length<1000000):aB Tryz.prog 324 [s.pv] (.s (aS s.groups)):=by
 obtain⟨gs,vs,es⟩:=s;simp only at hl;have l1:(gs.map dU).length=gs.length:=List.length_map ..;unfold bQ.pv;simp only;refine eW Tryz.call324 Tryz.func324 ?_;repeat' first|simp only[go_sem,seval,l1]|refine sB ?_|(first|apply pX|apply bX)<;>intro hc|refine⟨oD,?_⟩|exact oD|fail
 refine aj (α:=Nat) (fun i=>gs.length-i) (fun i=>⟨[(1, .p 1000 0 0),(6, .v (.sl (gs.map dU))),(7,E' gs.length),(8,E' i)],[(1000,⟨0,[.v (.sl (gs.map dU)), .v (.sl (vs.map bV)), .v (.sl (es.map cG.pv))],false,none⟩)],_⟩) (fun i=>i≤gs.length∧aS (gs.drop i)=aS gs) 0 (fun _=>Nat.le_refl _) ⟨Nat.zero_le _,rfl⟩ ?_ ?_
 ·exact lE
 ·rintro i ⟨hi,hf⟩ R hR;rw[←hf]
  by_cases hlt:i<gs.length
  ·have e1:=getD_map dU gs ed hlt;have hgo:=hR (i+1);rw[←hf]at hgo;rw[aJ ed hlt]at hgo⊢;obtain⟨x,hx⟩: ∃x,x=gs.getD i ed:=⟨_,rfl⟩;rw[←hx]at e1 hgo⊢;clear hx hf hR;obtain⟨m,o⟩:=x;simp only[aS]at hgo⊢;simp only[dU]at e1
   by_cases ho:o=[]
   ·subst ho;simp only[if_true]at hgo⊢;have hgo:=hgo ⟨by omega,trivial⟩ (by omega)
    repeat' first|simp only[go_sem,seval,l1,e1,nn]|refine sB ?_|(first|apply pX|apply bX)<;>intro hc|refine⟨oD,?_⟩|exact oD|fail
    refine hgo _ ?_;exact lE
   ·have hb:(o==([]:Bytes))=false:=by simpa using ho
    rw[if_neg ho];repeat' first|simp only[go_sem,seval,l1,e1,hb]|refine sB ?_|(first|apply pX|apply bX)<;>intro hc|refine⟨oD,?_⟩|exact oD|fail
  ·obtain rfl:i=gs.length:=by omega
   rw[List.drop_length];repeat' first|simp only[go_sem,seval,l1]|refine sB ?_|(first|apply pX|apply bX)<;>intro hc|refine⟨oD,?_⟩|exact oD|fail
   all_goals rfl
def FJ (q:Bytes) (g:Bytes×Bytes):Bool:= !(g.2==[])&& !(g.2==q)
def Cy (vs:List Bytes) (t:dL):Bool:=vs.getD t.var.toNat []==[]
def DX (gs:List (Bytes×Bytes)) (vs:List Bytes) (q:cG):Bool:=(gs.getD q.iE.toNat ed).2==[]&&q.terms.any (Cy vs)
def yW (s:bQ):Bool:= !(s.vars.any fun b=>b==[])||(!(aS s.groups==[])&& !(s.groups.any (FJ (aS s.groups)))&&s.eqs.all fun q=> !DX s.groups s.vars q)
theorem Mn (q:Bytes) (g:Bytes×Bytes):aB Tryz.prog 363 [dU g, .pt (.agg [.s q]) 0] (.b (FJ q g)):=by
 obtain⟨m,o⟩:=g;simp only[dU,FJ];refine eW Tryz.call363 Tryz.func363 ?_;repeat' first|simp only[go_sem,seval,bne]|refine sB ?_|(first|apply pX|apply bX)<;>intro hc|refine⟨oD,?_⟩|exact oD|fail
 all_goals simp_all[bne]
theorem Mo {s:bQ} {t:dL} (h0:0≤t.var) (h1:t.var<s.vars.length):aB Tryz.prog 364 [t.pv, .pt s.pv 0] (.b (Cy s.vars t)):=by
 obtain⟨gs,vs,es⟩:=s;obtain⟨b,v,n,a⟩:=t;simp only at h0 h1;have l2:(vs.map bV).length=vs.length:=List.length_map ..;have e1:=getD_map bV vs [] (i:=v.toNat) (by omega)
 simp only[bQ.pv,dL.pv,Cy,bV]at*;refine eW Tryz.call364 Tryz.func364 ?_;repeat' first|simp only[go_sem,seval,l2,e1]|refine sB ?_|(first|apply pX|apply bX)<;>intro hc|refine⟨oD,?_⟩|exact oD|fail
theorem IV {s:bQ} (hb:NQ s) (hf:jK s=true):aB Tryz.prog 318 [s.pv] (E (if yW s then 0 else 10)):=by
 have h1:=mU s.vars _ _ (by have:=hb.nv;omega) Mm
 have hor:=sJ s (by have:=hb.ng;omega)
 have h2:=lA s.groups _ _ _ (by have:=hb.ng;omega) fun x _=>Mn (aS s.groups) x
 have h3:=fun q (hq:q∈s.eqs)=>lB q.terms 364 [.pt s.pv 0] (Cy s.vars) (by have:=(hb.q q hq).1;omega) fun t ht=>by
  simp only[jK,Bool.and_eq_true]at hf;obtain⟨-,-,k⟩:=EB (List.all_eq_true.1 hf.2.2 q hq);exact Mo (k t ht).1 (k t ht).2.1
 have ng:=hb.ng;have ne:=hb.ne;have bq:=hb.q;obtain⟨gs,vs,es⟩:=s;simp only[jK,Bool.and_eq_true]at hf ng ne bq;have hq:=List.all_eq_true.1 hf.2.2;have l1:(gs.map dU).length=gs.length:=List.length_map ..;have l3:(es.map cG.pv).length=es.length:=List.length_map ..;unfold yW;simp only at*;clear hb hf;generalize (vs.any fun b=>b==[])=bv at*
 generalize aS gs=q at*;generalize (gs.any (FJ q))=bo at*;unfold bQ.pv at*;simp only at*;cases bv
 ·refine eW Tryz.call318 Tryz.func318 ?_;repeat' first|simp only[go_sem,seval]|refine cP h1 ?_|refine sB ?_|(first|apply pX|apply bX)<;>intro hc|refine⟨oD,?_⟩|exact oD|fail
 by_cases hq0:q=[]
 ·subst hq0;refine eW Tryz.call318 Tryz.func318 ?_;repeat' first|simp only[go_sem,seval,aH,nn]|refine cP h1 ?_|refine cP hor ?_|refine cV h2 ?_|refine sB ?_|(first|apply pX|apply bX)<;>intro hc|refine⟨oD,?_⟩|exact oD|fail
  all_goals rfl
 have hb:(q==([]:Bytes))=false:=by simpa using hq0
 rw[hb];simp only[Bool.not_true,Bool.not_false,Bool.true_and,Bool.false_or];cases bo
 ·refine eW Tryz.call318 Tryz.func318 ?_;repeat' first|simp only[go_sem,seval,aH,hb]|refine cP h1 ?_|refine cP hor ?_|refine cV h2 ?_|refine sB ?_|(first|apply pX|apply bX)<;>intro hc|refine⟨oD,?_⟩|exact oD|fail
  refine aj (α:=Nat) (fun i=>es.length-i) (fun i=>⟨[(1, .p 1000 0 0),(21, .v (.sl (es.map cG.pv))),(22,E' es.length),(23,E' i)],[(1000,⟨0,[.v (.sl (gs.map dU)), .v (.sl (vs.map bV)), .v (.sl (es.map cG.pv))],false,none⟩)],_⟩) (fun i=>i≤es.length∧((es.drop i).all fun q=> !DX gs vs q)=es.all fun q=> !DX gs vs q) 0 (fun _=>Nat.le_refl _) ⟨Nat.zero_le _,rfl⟩ ?_ ?_
  ·exact lE
  ·rintro i ⟨hi,hf⟩ R hR
   by_cases hlt:i<es.length
   ·have e1:=getD_map cG.pv es gH hlt;have v2:=h3 _ (au gH hlt);obtain⟨q1,q2,-⟩:=EB (hq _ (au gH hlt));have hgo:=fun h=>hR (i+1) ⟨by omega,h⟩ (by omega)
    rw[aJ gH hlt,List.all_cons]at hf;obtain⟨x,hx⟩: ∃x,x=es.getD i gH:=⟨_,rfl⟩;rw[←hx]at e1 q1 q2 v2 hf;obtain⟨gr,tg,ts⟩:=x;simp only at q1 q2 v2;have hgl:gr.toNat<gs.length:=by omega
    have e3:=getD_map dU gs ed hgl;have hbq:DX gs vs ⟨gr,tg,ts⟩=((gs.getD gr.toNat ed).2==[]&&ts.any (Cy vs)):=rfl;rw[hbq]at hf;obtain⟨z,hz⟩: ∃z,z=gs.getD gr.toNat ed:=⟨_,rfl⟩;rw[←hz]at e3 hf;obtain⟨m,o⟩:=z;simp only at hf;simp only[dU]at e3;simp only[cG.pv]at e1;clear hR hx hz h3 hq bq h1 h2 hor;generalize ts.any (Cy vs)=bt at*
    by_cases ho:o=[]
    ·subst ho;cases bt
     ·simp only[nn,Bool.and_false,Bool.not_false,Bool.true_and]at hf;repeat' first|simp only[go_sem,seval,l1,l3,e1,e3,aH,nn,bne_self_eq_false]|refine cV v2 ?_|refine sB ?_|(first|apply pX|apply bX)<;>intro hc|refine⟨oD,?_⟩|exact oD|fail
      refine hgo hf _ ?_;exact lE
     ·simp only[nn,Bool.and_true,Bool.not_true,Bool.false_and]at hf;rw[←hf];repeat' first|simp only[go_sem,seval,l1,l3,e1,e3,aH,nn,bne_self_eq_false]|refine cV v2 ?_|refine sB ?_|(first|apply pX|apply bX)<;>intro hc|refine⟨oD,?_⟩|exact oD|fail
      all_goals rfl
    ·have hob:(o==([]:Bytes))=false:=by simpa using ho
     have hob2:(o !=([]:Bytes))=true:=by simpa using ho
     simp only[hob,Bool.false_and,Bool.not_false,Bool.true_and]at hf;repeat' first|simp only[go_sem,seval,l1,l3,e1,e3,aH,hob,hob2]|refine cV v2 ?_|refine sB ?_|(first|apply pX|apply bX)<;>intro hc|refine⟨oD,?_⟩|exact oD|fail
     refine hgo hf _ ?_;exact lE
   ·obtain rfl:i=es.length:=by omega
    rw[List.drop_length]at hf;rw[←hf];repeat' first|simp only[go_sem,seval,l3]|refine sB ?_|(first|apply pX|apply bX)<;>intro hc|refine⟨oD,?_⟩|exact oD|fail
    all_goals rfl
 ·refine eW Tryz.call318 Tryz.func318 ?_;repeat' first|simp only[go_sem,seval,aH,hb]|refine cP h1 ?_|refine cP hor ?_|refine cV h2 ?_|refine sB ?_|(first|apply pX|apply bX)<;>intro hc|refine⟨oD,?_⟩|exact oD|fail
  all_goals rfl
def Fi (s:bQ):Int:=if !jK s then 3 else if Cu s then 6 else if !tV s then 13 else if !yW s then 10 else 0
theorem AP {s:bQ} (hb:NQ s):aB Tryz.prog 249 [s.pv] (E (Fi s)):=by
 have h1:=Fl hb;have h2:=IZ hb;have h3:=yX hb;have h4:=IV hb;clear hb;unfold Fi;unfold bQ.pv at*;generalize jK s=b1 at*;generalize Cu s=b2 at*;generalize tV s=b3 at*;generalize yW s=b4 at*;cases b1
 ·refine eW Tryz.call249 Tryz.func249 ?_;repeat' first|simp only[go_sem,seval]|refine cP h1 ?_|refine cP h2 ?_|(refine ae ?_)|refine sB ?_|(first|apply pX|apply bX)<;>intro hc|refine⟨oD,?_⟩|exact oD|fail
  all_goals rfl
 have h3:=h3 rfl;have h4:=h4 rfl;cases b2
 ·cases b3
  ·refine eW Tryz.call249 Tryz.func249 ?_;repeat' first|simp only[go_sem,seval]|refine cP h1 ?_|refine cP h2 ?_|refine cP h3 ?_|(refine ae ?_)|refine sB ?_|(first|apply pX|apply bX)<;>intro hc|refine⟨oD,?_⟩|exact oD|fail
   all_goals rfl
  ·cases b4<;>
   ·refine eW Tryz.call249 Tryz.func249 ?_;repeat' first|simp only[go_sem,seval]|refine cP h1 ?_|refine cP h2 ?_|refine cP h3 ?_|refine cP h4 ?_|(refine ae ?_)|refine sB ?_|(first|apply pX|apply bX)<;>intro hc|refine⟨oD,?_⟩|exact oD|fail
    all_goals rfl
 ·refine eW Tryz.call249 Tryz.func249 ?_;repeat' first|simp only[go_sem,seval]|refine cP h1 ?_|refine cP h2 ?_|(refine ae ?_)|refine sB ?_|(first|apply pX|apply bX)<;>intro hc|refine⟨oD,?_⟩|exact oD|fail
  all_goals rfl
structure vH (s:bQ):Prop where
 b:NQ s
 g: ∀p∈s.groups,gE p.1 p.2=0∧p.1.length≤8∧p.2.length≤8
 v: ∀b∈s.vars,aa b=true∧b.length≤16
 q: ∀q∈s.eqs,0≤q.iE∧q.iE<s.groups.length∧fW (s.groups.getD q.iE.toNat ed).1 (s.groups.getD q.iE.toNat ed).2 q.tgt=true∧q.terms.length≤64∧
  ∀t∈q.terms,0≤t.var∧t.var<s.vars.length∧fW (s.groups.getD q.iE.toNat ed).1 (s.groups.getD q.iE.toNat ed).2 t.base=true∧bH (t.neg,t.abs)=true
 ng:s.groups.length≤8
 nv:s.vars.length≤64
 ne:s.eqs.length≤64
 k:yW s=true
theorem vH.m {s:bQ} (h:vH s):Qp s:=⟨h.g,h.q,h.ng,h.nv,h.ne⟩
theorem vH.ck {s:bQ} (h:vH s):Fi s=0:=by
 have e1:jK s=true:=by
  simp only[jK,Bool.and_eq_true,List.all_eq_true];refine⟨fun p hp=> ?_,fun b hb=>(h.v b hb).1,fun q hq=> ?_⟩
  ·obtain⟨vm,vo,-⟩:=fb (h.g p hp).1;simp[gB,vm,vo]
  ·obtain⟨q1,q2,q3,q4,q5⟩:=h.q q hq;have hg:=(h.g _ (au ed (show q.iE.toNat<s.groups.length by omega))).1
   simp only[EA,Bool.and_eq_true,decide_eq_true_eq,List.all_eq_true];refine⟨⟨⟨q1,q2⟩,kV hg q3⟩,fun t ht=> ?_⟩
   obtain⟨t1,t2,t3,t4⟩:=q5 t ht;simp only[J1,Bool.and_eq_true,decide_eq_true_eq];exact⟨⟨t1,t2⟩,kV hg t3,t4⟩
 have e2:Cu s=false:=by
  simp only[Cu,Bool.or_eq_false_iff,decide_eq_false_iff_not,List.any_eq_false,decide_eq_true_eq];exact⟨by have:=h.ng;omega,by have:=h.nv;omega,by have:=h.ne;omega,fun q hq=>by have:=(h.q q hq).2.2.2.1;omega⟩
 have e3:tV s=true:=by
  simp only[tV,Bool.and_eq_true,List.all_eq_true];refine⟨fun p hp=>by simp[gC,(h.g p hp).1],fun q hq=> ?_⟩
  obtain⟨q1,q2,q3,q4,q5⟩:=h.q q hq;have hg:=(h.g _ (au ed (show q.iE.toNat<s.groups.length by omega))).1
  simp only[B5,fX,hg,decide_true,Bool.true_and,Bool.and_eq_true,List.all_eq_true];exact⟨q3,fun t ht=>(q5 t ht).2.2.1⟩
 unfold Fi;rw[e1,e2,e3,h.k];rfl
end Go.Proofs.YtmobkhegihemeaaGreatDoor
