/-
  Part of the proof, part 33. Own work.
-/
import Derived.Test.YtmobkhegihemeaaGreatDoorM29
set_option linter.all false
namespace Go.Proofs.YtmobkhegihemeaaGreatDoor
open Go Go.Dom Go.Num
set_option maxRecDepth 100000
set_option maxHeartbeats 16000000
structure SzS (s:Stm):Prop where
 g: ∀p∈s.groups,p.1.length≤8∧p.2.length≤8
 v: ∀b∈s.vars,b.length≤16
 q: ∀q∈s.eqs,q.terms.length≤1000∧ ∀t∈q.terms,t.abs.length≤16
 ng:s.groups.length≤1000
 nv:s.vars.length≤1000
 ne:s.eqs.length≤1000
def gB (g:Bytes×Bytes):Bool:=validN g.1&&validN g.2
def trB (nv:Nat) (t:Trm):Bool:=(decide (0≤t.var)&&decide (t.var<nv))&&(validN t.base&&izok (t.neg,t.abs))
def eqB (ng nv:Nat) (q:Eqn):Bool:=(decide (0≤q.grp)&&decide (q.grp<ng)&&validN q.tgt)&&q.terms.all (trB nv)
def frmB (s:Stm):Bool:=s.groups.all gB&&(s.vars.all validN&&s.eqs.all (eqB s.groups.length s.vars.length))
theorem lformG {s:Stm} (hb:SzS s):EvP Tryz.prog 315 [s.pv] (E (if frmB s then 0 else 3)):=by
 obtain⟨gs,vs,es⟩:=s;obtain⟨-,-,bq,ng,nv,ne⟩:=hb;simp only at bq ng nv ne;have l1:(gs.map gpv).length=gs.length:=List.length_map ..;have l2:(vs.map vpv).length=vs.length:=List.length_map ..;have l3:(es.map Eqn.pv).length=es.length:=List.length_map ..;unfold Stm.pv;simp only;refine eW Tryz.call315 Tryz.func315 ?_;repeat' first|simp only[go_sem,seval,l1]|refine sB ?_|(first|apply pX|apply bX)<;>intro hc|refine⟨oD,?_⟩|exact oD|fail
 refine loop_run (α:=Nat) (fun i=>gs.length-i) (fun i=>⟨[(1, .p 1000 0 0),(12, .v (.sl (gs.map gpv))),(13,E' gs.length),(14,E' i)],[(1000,⟨0,[.v (.sl (gs.map gpv)), .v (.sl (vs.map vpv)), .v (.sl (es.map Eqn.pv))],false,none⟩)],_⟩) (fun i=>i≤gs.length∧(gs.drop i).all gB=gs.all gB) 0 (fun _=>Nat.le_refl _) ⟨Nat.zero_le _,rfl⟩ ?_ ?_
 ·exact lE
 ·rintro i ⟨hi,hf⟩ R hR
  by_cases hlt:i<gs.length
  ·have e1:=getD_map gpv gs d0G hlt;have hgo:=fun h=>hR (i+1) ⟨by omega,h⟩ (by omega)
   rw[drop_getD d0G hlt,List.all_cons]at hf;obtain⟨x,hx⟩: ∃x,x=gs.getD i d0G:=⟨_,rfl⟩;rw[←hx]at e1 hf;obtain⟨m,o⟩:=x;have v1:=natValid m;have v2:=natValid o;clear hR hx;simp only[gpv]at e1
   cases hg:gB (m,o)with
   |true=>
    rw[hg,Bool.true_and]at hf;obtain⟨vm,vo⟩:validN m=true∧validN o=true:=by simpa[gB]using hg
    rw[vm]at v1;rw[vo]at v2;repeat' first|simp only[go_sem,seval,l1,e1]|refine cP v1 ?_|refine cP v2 ?_|refine sB ?_|(first|apply pX|apply bX)<;>intro hc|refine⟨oD,?_⟩|exact oD|fail
    refine hgo hf _ ?_;exact lE
   |false=>
    rw[hg,Bool.false_and]at hf;have hz:frmB ⟨gs,vs,es⟩=false:=by simp only[frmB,←hf,Bool.false_and]
    rw[hz];have hg:(validN m&&validN o)=false:=hg;clear hgo hf hz;generalize validN m=b1 at*;generalize validN o=b2 at*;repeat' first|simp only[go_sem,seval,l1,e1]|refine cP v1 ?_|refine cP v2 ?_|refine sB ?_|(first|apply pX|apply bX)<;>intro hc|refine⟨oD,?_⟩|exact oD|fail
    all_goals simp_all
  ·obtain rfl:i=gs.length:=by omega
   rw[List.drop_length]at hf;have hf1:gs.all gB=true:=hf.symm;clear hf hR;repeat' first|simp only[go_sem,seval,l1,l2]|refine sB ?_|(first|apply pX|apply bX)<;>intro hc|refine⟨oD,?_⟩|exact oD|fail
   refine loop_run (α:=Nat) (fun i=>vs.length-i) (fun i=>⟨[(1, .p 1000 0 0),(30, .v (.sl (vs.map vpv))),(31,E' vs.length),(32,E' i)],[(1000,⟨0,[.v (.sl (gs.map gpv)), .v (.sl (vs.map vpv)), .v (.sl (es.map Eqn.pv))],false,none⟩)],_⟩) (fun i=>i≤vs.length∧(vs.drop i).all validN=vs.all validN) 0 (fun _=>Nat.le_refl _) ⟨Nat.zero_le _,rfl⟩ ?_ ?_
   ·exact lE
   ·rintro i ⟨hi,hf⟩ R hR
    by_cases hlt:i<vs.length
    ·have e1:=getD_map vpv vs [] hlt;have hgo:=fun h=>hR (i+1) ⟨by omega,h⟩ (by omega)
     rw[drop_getD [] hlt,List.all_cons]at hf;generalize vs.getD i []=x at*;have v1:=natValid x;clear hR;simp only[vpv]at e1
     cases hg:validN x with
     |true=>
      rw[hg]at v1;rw[hg,Bool.true_and]at hf;repeat' first|simp only[go_sem,seval,l2,e1]|refine cP v1 ?_|refine sB ?_|(first|apply pX|apply bX)<;>intro hc|refine⟨oD,?_⟩|exact oD|fail
      refine hgo hf _ ?_;exact lE
     |false=>
      rw[hg]at v1;rw[hg,Bool.false_and]at hf;have hz:frmB ⟨gs,vs,es⟩=false:=by simp only[frmB,←hf,Bool.false_and,Bool.and_false]
      rw[hz];clear hgo;repeat' first|simp only[go_sem,seval,l2,e1]|refine cP v1 ?_|refine sB ?_|(first|apply pX|apply bX)<;>intro hc|refine⟨oD,?_⟩|exact oD|fail
    ·obtain rfl:i=vs.length:=by omega
     rw[List.drop_length]at hf;have hf2:vs.all validN=true:=hf.symm;have hz:frmB ⟨gs,vs,es⟩=es.all (eqB gs.length vs.length):=by simp only[frmB,hf1,hf2,Bool.true_and]
     rw[hz];clear hf hR hz;repeat' first|simp only[go_sem,seval,l2,l3]|refine sB ?_|(first|apply pX|apply bX)<;>intro hc|refine⟨oD,?_⟩|exact oD|fail
     refine loop_run (α:=Nat) (fun i=>es.length-i) (fun i=>⟨[(1, .p 1000 0 0),(42, .v (.sl (es.map Eqn.pv))),(43,E' es.length),(44,E' i)],[(1000,⟨0,[.v (.sl (gs.map gpv)), .v (.sl (vs.map vpv)), .v (.sl (es.map Eqn.pv))],false,none⟩)],_⟩) (fun i=>i≤es.length∧(es.drop i).all (eqB gs.length vs.length)=es.all (eqB gs.length vs.length)) 0 (fun _=>Nat.le_refl _) ⟨Nat.zero_le _,rfl⟩ ?_ ?_
     ·exact lE
     ·rintro i ⟨hi,hf⟩ R hR
      by_cases hlt:i<es.length
      ·have e1:=getD_map Eqn.pv es d0Q hlt;have q4:=(bq _ (mem_getD d0Q hlt)).1;have hgo:=fun h=>hR (i+1) ⟨by omega,h⟩ (by omega)
       rw[drop_getD d0Q hlt,List.all_cons]at hf;obtain⟨x,hx⟩: ∃x,x=es.getD i d0Q:=⟨_,rfl⟩;rw[←hx]at e1 q4 hf;obtain⟨gr,tg,ts⟩:=x;simp only at q4;have v1:=natValid tg;have l4:(ts.map Trm.pv).length=ts.length:=List.length_map ..;simp only[Eqn.pv]at e1;clear hR hx
       cases hg:(decide (0≤gr)&&decide (gr<gs.length)&&validN tg)with
       |false=>
        have hq:eqB gs.length vs.length ⟨gr,tg,ts⟩=false:=by simp only[eqB,hg,Bool.false_and]
        rw[hq,Bool.false_and]at hf;rw[←hf];clear hgo hf hq;generalize validN tg=b1 at*;repeat' first|simp only[go_sem,seval,l1,l3,e1]|refine cP v1 ?_|refine sB ?_|(first|apply pX|apply bX)<;>intro hc|refine⟨oD,?_⟩|exact oD|fail
        all_goals simp_all
        all_goals omega
       |true=>
        have hq:eqB gs.length vs.length ⟨gr,tg,ts⟩=ts.all (trB vs.length):=by simp only[eqB,hg,Bool.true_and]
        rw[hq]at hf;simp only[Bool.and_eq_true,decide_eq_true_eq]at hg;obtain⟨⟨g1,g2⟩,vt⟩:=hg;rw[vt]at v1;have hd1:decide (gr<0)=false:=decide_eq_false (by omega)
        have hd2:decide (gr≥(gs.length:Int))=false:=decide_eq_false (by omega)
        clear hq g1 g2 vt;repeat' first|simp only[go_sem,seval,l1,l3,l4,e1,hd1,hd2]|refine cP v1 ?_|refine sB ?_|(first|apply pX|apply bX)<;>intro hc|refine⟨oD,?_⟩|exact oD|fail
        refine loop_run (α:=Nat) (fun i=>ts.length-i) (fun j=>⟨[(1, .p 1000 0 0),(42, .v (.sl (es.map Eqn.pv))),(43,E' es.length),(44,E' i),(66, .v (.sl (ts.map Trm.pv))),(67,E' ts.length),(68,E' j)],[(1000,⟨0,[.v (.sl (gs.map gpv)), .v (.sl (vs.map vpv)), .v (.sl (es.map Eqn.pv))],false,none⟩)],_⟩) (fun i=>i≤ts.length∧(ts.drop i).all (trB vs.length)=ts.all (trB vs.length)) 0 (fun _=>Nat.le_refl _) ⟨Nat.zero_le _,rfl⟩ ?_ ?_
        ·exact lE
        ·rintro j ⟨hj,hk⟩ R' hR'
         by_cases hjt:j<ts.length
         ·have e2:=getD_map Trm.pv ts d0T hjt;have hgo':=fun h=>hR' (j+1) ⟨by omega,h⟩ (by omega)
          rw[drop_getD d0T hjt,List.all_cons]at hk;obtain⟨y,hy⟩: ∃y,y=ts.getD j d0T:=⟨_,rfl⟩;rw[←hy]at e2 hk;obtain⟨b,v,n,a⟩:=y;have v2:=natValid b;have v3:=iValid_ok n a;rw[show(validN a&& !(n&&a==[]))=izok (n,a)from rfl]at v3
          simp only[Trm.pv]at e2;clear hR' hy
          cases ht:trB vs.length ⟨b,v,n,a⟩with
          |true=>
           rw[ht,Bool.true_and]at hk;simp only[trB,Bool.and_eq_true,decide_eq_true_eq]at ht;obtain⟨⟨t1,t2⟩,t3,t4⟩:=ht;rw[t3]at v2;rw[t4]at v3;have hd3:decide (v<0)=false:=decide_eq_false (by omega)
           have hd4:decide (v≥(vs.length:Int))=false:=decide_eq_false (by omega)
           repeat' first|simp only[go_sem,seval,l2,l4,e2,hd3,hd4]|refine cP v2 ?_|refine cP v3 ?_|refine sB ?_|(first|apply pX|apply bX)<;>intro hc|refine⟨oD,?_⟩|exact oD|fail
           refine hgo' hk _ ?_;exact lE
          |false=>
           rw[ht,Bool.false_and]at hk;rw[←hk,Bool.false_and]at hf;rw[←hf];simp only[trB]at ht;clear hgo' hgo hk hf;generalize validN b=b1 at*;generalize izok (n,a)=b2 at*;repeat' first|simp only[go_sem,seval,l2,l4,e2]|refine cP v2 ?_|refine cP v3 ?_|refine sB ?_|(first|apply pX|apply bX)<;>intro hc|refine⟨oD,?_⟩|exact oD|fail
           all_goals simp_all
           all_goals omega
         ·obtain rfl:j=ts.length:=by omega
          rw[List.drop_length]at hk;rw[←hk]at hf;repeat' first|simp only[go_sem,seval,l3,l4]|refine sB ?_|(first|apply pX|apply bX)<;>intro hc|refine⟨oD,?_⟩|exact oD|fail
          refine hgo hf _ ?_;exact lE
      ·obtain rfl:i=es.length:=by omega
       rw[List.drop_length]at hf;rw[←hf];repeat' first|simp only[go_sem,seval,l3]|refine sB ?_|(first|apply pX|apply bX)<;>intro hc|refine⟨oD,?_⟩|exact oD|fail
def manB (s:Stm):Bool:=decide (8<s.groups.length)||(decide (64<s.vars.length)||(decide (64<s.eqs.length)||s.eqs.any fun q=>decide (64<q.terms.length)))
theorem lsizesG {s:Stm} (hb:SzS s):EvP Tryz.prog 316 [s.pv] (E (if manB s then 6 else 0)):=by
 have h1:=ContainsFuncQ_ok s.eqs _ _ (by have:=hb.ne;omega) lsz1_ok
 obtain⟨gs,vs,es⟩:=s;have ng:=hb.ng;have nv:=hb.nv;have ne:=hb.ne;simp only at ng nv ne h1;have l1:(gs.map gpv).length=gs.length:=List.length_map ..;have l2:(vs.map vpv).length=vs.length:=List.length_map ..;have l3:(es.map Eqn.pv).length=es.length:=List.length_map ..;clear hb;unfold Stm.pv manB;simp only;generalize (es.any fun q=>decide (64<q.terms.length))=b at*
 have d1:decide ((gs.length:Int)>8)=decide (8<gs.length):=by rw[decide_eq_decide];omega
 have d2:decide ((vs.length:Int)>64)=decide (64<vs.length):=by rw[decide_eq_decide];omega
 have d3:decide ((es.length:Int)>64)=decide (64<es.length):=by rw[decide_eq_decide];omega
 refine eW Tryz.call316 Tryz.func316 ?_;repeat' first|simp only[go_sem,seval,l1,l2,l3,d1,d2,d3]|refine cP h1 ?_|refine sB ?_|(first|apply pX|apply bX)<;>intro hc|refine⟨oD,?_⟩|exact oD|fail
 all_goals simp_all
 all_goals omega
def grp (s:Stm) (q:Eqn):Bytes×Bytes:=s.groups.getD q.grp.toNat d0G
def elmQ (gs:List (Bytes×Bytes)) (q:Eqn):Bool:=gIn (gs.getD q.grp.toNat d0G).1 (gs.getD q.grp.toNat d0G).2 q.tgt&&q.terms.all fun t=>gIn (gs.getD q.grp.toNat d0G).1 (gs.getD q.grp.toNat d0G).2 t.base
def gC (g:Bytes×Bytes):Bool:=decide (gE g.1 g.2=0)
def elmB (s:Stm):Bool:=s.groups.all gC&&s.eqs.all (elmQ s.groups)
theorem eqB_g {ng nv:Nat} {q:Eqn} (h:eqB ng nv q=true):0≤q.grp∧q.grp<ng∧ ∀t∈q.terms,0≤t.var∧t.var<nv∧validN t.base=true∧izok (t.neg,t.abs)=true:=by
 simp only[eqB,Bool.and_eq_true,decide_eq_true_eq]at h;refine⟨h.1.1.1,h.1.1.2,fun t ht=> ?_⟩
 have:=List.all_eq_true.1 h.2 t ht;simp only[trB,Bool.and_eq_true,decide_eq_true_eq]at this;exact⟨this.1.1,this.1.2,this.2.1,this.2.2⟩
theorem lelementsG {s:Stm} (hb:SzS s) (hf:frmB s=true):EvP Tryz.prog 317 [s.pv] (E (if elmB s then 0 else 13)):=by
 obtain⟨gs,vs,es⟩:=s;obtain⟨bg,-,bq,ng,nv,ne⟩:=hb;simp only[frmB,Bool.and_eq_true]at bg bq ng nv ne hf;have hq:=List.all_eq_true.1 hf.2.2;have l1:(gs.map gpv).length=gs.length:=List.length_map ..;have l3:(es.map Eqn.pv).length=es.length:=List.length_map ..;clear hf;unfold Stm.pv;simp only;refine eW Tryz.call317 Tryz.func317 ?_;repeat' first|simp only[go_sem,seval,l1]|refine sB ?_|(first|apply pX|apply bX)<;>intro hc|refine⟨oD,?_⟩|exact oD|fail
 refine loop_run (α:=Nat) (fun i=>gs.length-i) (fun i=>⟨[(1, .p 1000 0 0),(9, .v (.sl (gs.map gpv))),(10,E' gs.length),(11,E' i)],[(1000,⟨0,[.v (.sl (gs.map gpv)), .v (.sl (vs.map vpv)), .v (.sl (es.map Eqn.pv))],false,none⟩)],_⟩) (fun i=>i≤gs.length∧(gs.drop i).all gC=gs.all gC) 0 (fun _=>Nat.le_refl _) ⟨Nat.zero_le _,rfl⟩ ?_ ?_
 ·exact lE
 ·rintro i ⟨hi,hf⟩ R hR
  by_cases hlt:i<gs.length
  ·have e1:=getD_map gpv gs d0G hlt;have k:=bg _ (mem_getD d0G hlt);have hgo:=fun h=>hR (i+1) ⟨by omega,h⟩ (by omega)
   rw[drop_getD d0G hlt,List.all_cons]at hf;obtain⟨x,hx⟩: ∃x,x=gs.getD i d0G:=⟨_,rfl⟩;rw[←hx]at e1 k hf;obtain⟨m,o⟩:=x;have v1:=gCheck_ok k.1 k.2;clear hR hx k;simp only[gpv]at e1;simp only[gC]at hf
   by_cases hg:gE m o=0
   ·rw[hg]at v1;rw[decide_eq_true hg,Bool.true_and]at hf;repeat' first|simp only[go_sem,seval,l1,e1]|refine cP v1 ?_|refine sB ?_|(first|apply pX|apply bX)<;>intro hc|refine⟨oD,?_⟩|exact oD|fail
    refine hgo hf _ ?_;exact lE
   ·rw[decide_eq_false hg,Bool.false_and]at hf;have hz:elmB ⟨gs,vs,es⟩=false:=by
     simp only[elmB,Bool.and_eq_false_iff];exact .inl hf.symm
    have hb:(gE m o !=0)=true:=by simpa using hg
    rw[hz];clear hgo hf hz;generalize gE m o=z at*;repeat' first|simp only[go_sem,seval,l1,e1,hb]|refine cP v1 ?_|refine sB ?_|(first|apply pX|apply bX)<;>intro hc|refine⟨oD,?_⟩|exact oD|fail
  ·obtain rfl:i=gs.length:=by omega
   rw[List.drop_length]at hf;have hf1:gs.all gC=true:=hf.symm;have hz:elmB ⟨gs,vs,es⟩=es.all (elmQ gs):=by simp only[elmB,hf1,Bool.true_and]
   rw[hz];clear hf hR hz hf1;repeat' first|simp only[go_sem,seval,l1,l3]|refine sB ?_|(first|apply pX|apply bX)<;>intro hc|refine⟨oD,?_⟩|exact oD|fail
   refine loop_run (α:=Nat) (fun i=>es.length-i) (fun i=>⟨[(1, .p 1000 0 0),(20, .v (.sl (es.map Eqn.pv))),(21,E' es.length),(22,E' i)],[(1000,⟨0,[.v (.sl (gs.map gpv)), .v (.sl (vs.map vpv)), .v (.sl (es.map Eqn.pv))],false,none⟩)],_⟩) (fun i=>i≤es.length∧(es.drop i).all (elmQ gs)=es.all (elmQ gs)) 0 (fun _=>Nat.le_refl _) ⟨Nat.zero_le _,rfl⟩ ?_ ?_
   ·exact lE
   ·rintro i ⟨hi,hf⟩ R hR
    by_cases hlt:i<es.length
    ·have e1:=getD_map Eqn.pv es d0Q hlt;obtain⟨q1,q2,-⟩:=eqB_g (hq _ (mem_getD d0Q hlt));have q4:=(bq _ (mem_getD d0Q hlt)).1;have hgo:=fun h=>hR (i+1) ⟨by omega,h⟩ (by omega)
     rw[drop_getD d0Q hlt,List.all_cons]at hf;obtain⟨x,hx⟩: ∃x,x=es.getD i d0Q:=⟨_,rfl⟩;rw[←hx]at e1 q1 q2 q4 hf;obtain⟨gr,tg,ts⟩:=x;simp only at q1 q2 q4;have hgl:gr.toNat<gs.length:=by omega
     have kg:=bg _ (mem_getD d0G hgl);have e3:=getD_map gpv gs d0G hgl;simp only[elmQ]at hf;obtain⟨z,hz⟩: ∃z,z=gs.getD gr.toNat d0G:=⟨_,rfl⟩;rw[←hz]at kg e3 hf;obtain⟨m,o⟩:=z;simp only at kg hf;have v1:=gIn_ok kg.1 kg.2 tg;have v2:=ContainsFuncT_ok ts _ _ _ (by omega) (lel1_ok kg.1 kg.2)
     have hn:(ts.any fun t=> !gIn m o t.base)= !ts.all fun t=>gIn m o t.base:=any_not ..
     rw[hn]at v2;simp only[gpv]at e3 v2;simp only[Eqn.pv]at e1;clear hR hx hz kg hn hq bq bg;generalize gIn m o tg=b1 at*;generalize (ts.all fun t=>gIn m o t.base)=b2 at*
     cases hbb:(b1&&b2)with
     |true=>
      rw[hbb,Bool.true_and]at hf;simp only[Bool.and_eq_true]at hbb;obtain⟨rfl,rfl⟩:=hbb;repeat' first|simp only[go_sem,seval,l1,l3,e1,e3,viewN]|refine cP v1 ?_|refine cV v2 ?_|refine sB ?_|(first|apply pX|apply bX)<;>intro hc|refine⟨oD,?_⟩|exact oD|fail
      refine hgo hf _ ?_;exact lE
     |false=>
      rw[hbb,Bool.false_and]at hf;rw[←hf];clear hgo hf;repeat' first|simp only[go_sem,seval,l1,l3,e1,e3,viewN]|refine cP v1 ?_|refine cV v2 ?_|refine sB ?_|(first|apply pX|apply bX)<;>intro hc|refine⟨oD,?_⟩|exact oD|fail
      all_goals simp_all
    ·obtain rfl:i=es.length:=by omega
     rw[List.drop_length]at hf;rw[←hf];repeat' first|simp only[go_sem,seval,l3]|refine sB ?_|(first|apply pX|apply bX)<;>intro hc|refine⟨oD,?_⟩|exact oD|fail
theorem IndexFuncCT_ok (l:List Trm) (f:FuncId) (c:List PV) (p:Trm→Bool) (hl:l.length<4611686018427387904) (h: ∀x∈l,EvP Tryz.prog f (Trm.pv x::c) (.b (p x))):EvP Tryz.prog 380 [.sl (l.map Trm.pv), .fc f [] c] (E (idxF p 0 l)):=by
 have hlm:(l.map Trm.pv).length=l.length:=List.length_map ..;refine eW Tryz.call380 Tryz.func380 ?_;repeat' first|simp only[go_sem,seval,hlm]|refine sB ?_|(first|apply pX|apply bX)<;>intro hc|refine⟨oD,?_⟩|exact oD|fail
 refine loop_run (α:=Nat) (fun i=>l.length-i) (fun i=>⟨[(0, .v (.sl (l.map Trm.pv))),(1, .v (.fc f [] c)),(7, .v (.i .i64 l.length)),(8, .v (.i .i64 (i:Nat)))],[],_⟩) (fun i=>i≤l.length∧idxF p i (l.drop i)=idxF p 0 l) 0 (fun _=>Nat.le_refl _) ⟨Nat.zero_le _,rfl⟩ ?_ ?_
 ·exact lE
 ·rintro i ⟨hi,hx⟩ R hR;rw[←hx]
  by_cases hlt:i<l.length
  ·have e1:=getD_map Trm.pv l d0T hlt;have hf:=h (l.getD i d0T) (mem_getD d0T hlt);have hgo:=hR (i+1);rw[←hx,drop_getD d0T hlt]at hgo;rw[drop_getD d0T hlt];simp only[idxF]at hgo⊢;clear hx hR h;obtain⟨b,hb⟩: ∃b,b=p (l.getD i d0T):=⟨_,rfl⟩;rw[←hb]at hf hgo⊢;clear hb;obtain⟨x,hxx⟩: ∃x,x=l.getD i d0T:=⟨_,rfl⟩;rw[←hxx]at e1 hf;clear hxx;obtain⟨tb,tv,tn,ta⟩:=x;simp only[Trm.pv]at e1 hf;cases b
   ·have hgo:=hgo ⟨by omega,rfl⟩ (by omega)
    repeat' first|simp only[go_sem,seval,hlm,e1]|(refine CR_pure hf (pvA_map _ _) ?_)|refine sB ?_|(first|apply pX|apply bX)<;>intro hc|refine⟨oD,?_⟩|exact oD|fail
    refine hgo _ ?_;exact lE
   ·repeat' first|simp only[go_sem,seval,hlm,e1]|(refine CR_pure hf (pvA_map _ _) ?_)|refine sB ?_|(first|apply pX|apply bX)<;>intro hc|refine⟨oD,?_⟩|exact oD|fail
    all_goals rfl
  ·obtain rfl:i=l.length:=by omega
   rw[List.drop_length];repeat' first|simp only[go_sem,seval,hlm]|refine sB ?_|(first|apply pX|apply bX)<;>intro hc|refine⟨oD,?_⟩|exact oD|fail
   all_goals simp[idxF]
theorem ContainsFuncCT_ok (l:List Trm) (f:FuncId) (c:List PV) (p:Trm→Bool) (hl:l.length<4611686018427387904) (h: ∀x∈l,EvP Tryz.prog f (Trm.pv x::c) (.b (p x))):EvP Tryz.prog 360 [.sl (l.map Trm.pv), .fc f [] c] (.b (l.any p)):=by
 have hi:=IndexFuncCT_ok l f c p hl h;have e:decide (idxF p 0 l≥0)=l.any p:=by
  rw[Bool.eq_iff_iff,decide_eq_true_iff];exact idxF_neg
 refine eW Tryz.call360 Tryz.func360 ?_;repeat' first|simp only[go_sem,seval,e]|refine cP hi ?_|refine sB ?_|(first|apply pX|apply bX)<;>intro hc|refine⟨oD,?_⟩|exact oD|fail
theorem IndexFuncCG_ok (l:List (Bytes×Bytes)) (f:FuncId) (c:List PV) (p:(Bytes×Bytes)→Bool) (hl:l.length<4611686018427387904) (h: ∀x∈l,EvP Tryz.prog f (gpv x::c) (.b (p x))):EvP Tryz.prog 176 [.sl (l.map gpv), .fc f [] c] (E (idxF p 0 l)):=by
 have hlm:(l.map gpv).length=l.length:=List.length_map ..;refine eW Tryz.call176 Tryz.func176 ?_;repeat' first|simp only[go_sem,seval,hlm]|refine sB ?_|(first|apply pX|apply bX)<;>intro hc|refine⟨oD,?_⟩|exact oD|fail
 refine loop_run (α:=Nat) (fun i=>l.length-i) (fun i=>⟨[(0, .v (.sl (l.map gpv))),(1, .v (.fc f [] c)),(7, .v (.i .i64 l.length)),(8, .v (.i .i64 (i:Nat)))],[],_⟩) (fun i=>i≤l.length∧idxF p i (l.drop i)=idxF p 0 l) 0 (fun _=>Nat.le_refl _) ⟨Nat.zero_le _,rfl⟩ ?_ ?_
 ·exact lE
 ·rintro i ⟨hi,hx⟩ R hR;rw[←hx]
  by_cases hlt:i<l.length
  ·have e1:=getD_map gpv l d0G hlt;have hf:=h (l.getD i d0G) (mem_getD d0G hlt);have hgo:=hR (i+1);rw[←hx,drop_getD d0G hlt]at hgo;rw[drop_getD d0G hlt];simp only[idxF]at hgo⊢;clear hx hR h;obtain⟨b,hb⟩: ∃b,b=p (l.getD i d0G):=⟨_,rfl⟩;rw[←hb]at hf hgo⊢;clear hb;obtain⟨x,hxx⟩: ∃x,x=l.getD i d0G:=⟨_,rfl⟩;rw[←hxx]at e1 hf;clear hxx;obtain⟨gm,go⟩:=x;simp only[gpv]at e1 hf;cases b
   ·have hgo:=hgo ⟨by omega,rfl⟩ (by omega)
    repeat' first|simp only[go_sem,seval,hlm,e1]|(refine CR_pure hf (pvA_map _ _) ?_)|refine sB ?_|(first|apply pX|apply bX)<;>intro hc|refine⟨oD,?_⟩|exact oD|fail
    refine hgo _ ?_;exact lE
   ·repeat' first|simp only[go_sem,seval,hlm,e1]|(refine CR_pure hf (pvA_map _ _) ?_)|refine sB ?_|(first|apply pX|apply bX)<;>intro hc|refine⟨oD,?_⟩|exact oD|fail
    all_goals rfl
  ·obtain rfl:i=l.length:=by omega
   rw[List.drop_length];repeat' first|simp only[go_sem,seval,hlm]|refine sB ?_|(first|apply pX|apply bX)<;>intro hc|refine⟨oD,?_⟩|exact oD|fail
   all_goals simp[idxF]
theorem ContainsFuncCG_ok (l:List (Bytes×Bytes)) (f:FuncId) (c:List PV) (p:(Bytes×Bytes)→Bool) (hl:l.length<4611686018427387904) (h: ∀x∈l,EvP Tryz.prog f (gpv x::c) (.b (p x))):EvP Tryz.prog 321 [.sl (l.map gpv), .fc f [] c] (.b (l.any p)):=by
 have hi:=IndexFuncCG_ok l f c p hl h;have e:decide (idxF p 0 l≥0)=l.any p:=by
  rw[Bool.eq_iff_iff,decide_eq_true_iff];exact idxF_neg
 refine eW Tryz.call321 Tryz.func321 ?_;repeat' first|simp only[go_sem,seval,e]|refine cP hi ?_|refine sB ?_|(first|apply pX|apply bX)<;>intro hc|refine⟨oD,?_⟩|exact oD|fail
theorem lorder_ok (s:Stm) (hl:s.groups.length<1000000):EvP Tryz.prog 324 [s.pv] (.s (ordL s.groups)):=by
 obtain⟨gs,vs,es⟩:=s;simp only at hl;have l1:(gs.map gpv).length=gs.length:=List.length_map ..;unfold Stm.pv;simp only;refine eW Tryz.call324 Tryz.func324 ?_;repeat' first|simp only[go_sem,seval,l1]|refine sB ?_|(first|apply pX|apply bX)<;>intro hc|refine⟨oD,?_⟩|exact oD|fail
 refine loop_run (α:=Nat) (fun i=>gs.length-i) (fun i=>⟨[(1, .p 1000 0 0),(6, .v (.sl (gs.map gpv))),(7,E' gs.length),(8,E' i)],[(1000,⟨0,[.v (.sl (gs.map gpv)), .v (.sl (vs.map vpv)), .v (.sl (es.map Eqn.pv))],false,none⟩)],_⟩) (fun i=>i≤gs.length∧ordL (gs.drop i)=ordL gs) 0 (fun _=>Nat.le_refl _) ⟨Nat.zero_le _,rfl⟩ ?_ ?_
 ·exact lE
 ·rintro i ⟨hi,hf⟩ R hR;rw[←hf]
  by_cases hlt:i<gs.length
  ·have e1:=getD_map gpv gs d0G hlt;have hgo:=hR (i+1);rw[←hf]at hgo;rw[drop_getD d0G hlt]at hgo⊢;obtain⟨x,hx⟩: ∃x,x=gs.getD i d0G:=⟨_,rfl⟩;rw[←hx]at e1 hgo⊢;clear hx hf hR;obtain⟨m,o⟩:=x;simp only[ordL]at hgo⊢;simp only[gpv]at e1
   by_cases ho:o=[]
   ·subst ho;simp only[if_true]at hgo⊢;have hgo:=hgo ⟨by omega,trivial⟩ (by omega)
    repeat' first|simp only[go_sem,seval,l1,e1,nn]|refine sB ?_|(first|apply pX|apply bX)<;>intro hc|refine⟨oD,?_⟩|exact oD|fail
    refine hgo _ ?_;exact lE
   ·have hb:(o==([]:Bytes))=false:=by simpa using ho
    rw[if_neg ho];repeat' first|simp only[go_sem,seval,l1,e1,hb]|refine sB ?_|(first|apply pX|apply bX)<;>intro hc|refine⟨oD,?_⟩|exact oD|fail
  ·obtain rfl:i=gs.length:=by omega
   rw[List.drop_length];repeat' first|simp only[go_sem,seval,l1]|refine sB ?_|(first|apply pX|apply bX)<;>intro hc|refine⟨oD,?_⟩|exact oD|fail
   all_goals rfl
def oddG (q:Bytes) (g:Bytes×Bytes):Bool:= !(g.2==[])&& !(g.2==q)
def modT (vs:List Bytes) (t:Trm):Bool:=vs.getD t.var.toNat []==[]
def badQ (gs:List (Bytes×Bytes)) (vs:List Bytes) (q:Eqn):Bool:=(gs.getD q.grp.toNat d0G).2==[]&&q.terms.any (modT vs)
def kndB (s:Stm):Bool:= !(s.vars.any fun b=>b==[])||(!(ordL s.groups==[])&& !(s.groups.any (oddG (ordL s.groups)))&&s.eqs.all fun q=> !badQ s.groups s.vars q)
theorem lk2_ok (q:Bytes) (g:Bytes×Bytes):EvP Tryz.prog 363 [gpv g, .pt (.agg [.s q]) 0] (.b (oddG q g)):=by
 obtain⟨m,o⟩:=g;simp only[gpv,oddG];refine eW Tryz.call363 Tryz.func363 ?_;repeat' first|simp only[go_sem,seval,bne]|refine sB ?_|(first|apply pX|apply bX)<;>intro hc|refine⟨oD,?_⟩|exact oD|fail
 all_goals simp_all[bne]
theorem lk3_ok {s:Stm} {t:Trm} (h0:0≤t.var) (h1:t.var<s.vars.length):EvP Tryz.prog 364 [t.pv, .pt s.pv 0] (.b (modT s.vars t)):=by
 obtain⟨gs,vs,es⟩:=s;obtain⟨b,v,n,a⟩:=t;simp only at h0 h1;have l2:(vs.map vpv).length=vs.length:=List.length_map ..;have e1:=getD_map vpv vs [] (i:=v.toNat) (by omega)
 simp only[Stm.pv,Trm.pv,modT,vpv]at*;refine eW Tryz.call364 Tryz.func364 ?_;repeat' first|simp only[go_sem,seval,l2,e1]|refine sB ?_|(first|apply pX|apply bX)<;>intro hc|refine⟨oD,?_⟩|exact oD|fail
theorem lkindsG {s:Stm} (hb:SzS s) (hf:frmB s=true):EvP Tryz.prog 318 [s.pv] (E (if kndB s then 0 else 10)):=by
 have h1:=ContainsFuncV_ok s.vars _ _ (by have:=hb.nv;omega) lk1_ok
 have hor:=lorder_ok s (by have:=hb.ng;omega)
 have h2:=ContainsFuncCG_ok s.groups _ _ _ (by have:=hb.ng;omega) fun x _=>lk2_ok (ordL s.groups) x
 have h3:=fun q (hq:q∈s.eqs)=>ContainsFuncCT_ok q.terms 364 [.pt s.pv 0] (modT s.vars) (by have:=(hb.q q hq).1;omega) fun t ht=>by
  simp only[frmB,Bool.and_eq_true]at hf;obtain⟨-,-,k⟩:=eqB_g (List.all_eq_true.1 hf.2.2 q hq);exact lk3_ok (k t ht).1 (k t ht).2.1
 have ng:=hb.ng;have ne:=hb.ne;have bq:=hb.q;obtain⟨gs,vs,es⟩:=s;simp only[frmB,Bool.and_eq_true]at hf ng ne bq;have hq:=List.all_eq_true.1 hf.2.2;have l1:(gs.map gpv).length=gs.length:=List.length_map ..;have l3:(es.map Eqn.pv).length=es.length:=List.length_map ..;unfold kndB;simp only at*;clear hb hf;generalize (vs.any fun b=>b==[])=bv at*
 generalize ordL gs=q at*;generalize (gs.any (oddG q))=bo at*;unfold Stm.pv at*;simp only at*;cases bv
 ·refine eW Tryz.call318 Tryz.func318 ?_;repeat' first|simp only[go_sem,seval]|refine cP h1 ?_|refine sB ?_|(first|apply pX|apply bX)<;>intro hc|refine⟨oD,?_⟩|exact oD|fail
 by_cases hq0:q=[]
 ·subst hq0;refine eW Tryz.call318 Tryz.func318 ?_;repeat' first|simp only[go_sem,seval,viewN,nn]|refine cP h1 ?_|refine cP hor ?_|refine cV h2 ?_|refine sB ?_|(first|apply pX|apply bX)<;>intro hc|refine⟨oD,?_⟩|exact oD|fail
  all_goals rfl
 have hb:(q==([]:Bytes))=false:=by simpa using hq0
 rw[hb];simp only[Bool.not_true,Bool.not_false,Bool.true_and,Bool.false_or];cases bo
 ·refine eW Tryz.call318 Tryz.func318 ?_;repeat' first|simp only[go_sem,seval,viewN,hb]|refine cP h1 ?_|refine cP hor ?_|refine cV h2 ?_|refine sB ?_|(first|apply pX|apply bX)<;>intro hc|refine⟨oD,?_⟩|exact oD|fail
  refine loop_run (α:=Nat) (fun i=>es.length-i) (fun i=>⟨[(1, .p 1000 0 0),(21, .v (.sl (es.map Eqn.pv))),(22,E' es.length),(23,E' i)],[(1000,⟨0,[.v (.sl (gs.map gpv)), .v (.sl (vs.map vpv)), .v (.sl (es.map Eqn.pv))],false,none⟩)],_⟩) (fun i=>i≤es.length∧((es.drop i).all fun q=> !badQ gs vs q)=es.all fun q=> !badQ gs vs q) 0 (fun _=>Nat.le_refl _) ⟨Nat.zero_le _,rfl⟩ ?_ ?_
  ·exact lE
  ·rintro i ⟨hi,hf⟩ R hR
   by_cases hlt:i<es.length
   ·have e1:=getD_map Eqn.pv es d0Q hlt;have v2:=h3 _ (mem_getD d0Q hlt);obtain⟨q1,q2,-⟩:=eqB_g (hq _ (mem_getD d0Q hlt));have hgo:=fun h=>hR (i+1) ⟨by omega,h⟩ (by omega)
    rw[drop_getD d0Q hlt,List.all_cons]at hf;obtain⟨x,hx⟩: ∃x,x=es.getD i d0Q:=⟨_,rfl⟩;rw[←hx]at e1 q1 q2 v2 hf;obtain⟨gr,tg,ts⟩:=x;simp only at q1 q2 v2;have hgl:gr.toNat<gs.length:=by omega
    have e3:=getD_map gpv gs d0G hgl;have hbq:badQ gs vs ⟨gr,tg,ts⟩=((gs.getD gr.toNat d0G).2==[]&&ts.any (modT vs)):=rfl;rw[hbq]at hf;obtain⟨z,hz⟩: ∃z,z=gs.getD gr.toNat d0G:=⟨_,rfl⟩;rw[←hz]at e3 hf;obtain⟨m,o⟩:=z;simp only at hf;simp only[gpv]at e3;simp only[Eqn.pv]at e1;clear hR hx hz h3 hq bq h1 h2 hor;generalize ts.any (modT vs)=bt at*
    by_cases ho:o=[]
    ·subst ho;cases bt
     ·simp only[nn,Bool.and_false,Bool.not_false,Bool.true_and]at hf;repeat' first|simp only[go_sem,seval,l1,l3,e1,e3,viewN,nn,bne_self_eq_false]|refine cV v2 ?_|refine sB ?_|(first|apply pX|apply bX)<;>intro hc|refine⟨oD,?_⟩|exact oD|fail
      refine hgo hf _ ?_;exact lE
     ·simp only[nn,Bool.and_true,Bool.not_true,Bool.false_and]at hf;rw[←hf];repeat' first|simp only[go_sem,seval,l1,l3,e1,e3,viewN,nn,bne_self_eq_false]|refine cV v2 ?_|refine sB ?_|(first|apply pX|apply bX)<;>intro hc|refine⟨oD,?_⟩|exact oD|fail
      all_goals rfl
    ·have hob:(o==([]:Bytes))=false:=by simpa using ho
     have hob2:(o !=([]:Bytes))=true:=by simpa using ho
     simp only[hob,Bool.false_and,Bool.not_false,Bool.true_and]at hf;repeat' first|simp only[go_sem,seval,l1,l3,e1,e3,viewN,hob,hob2]|refine cV v2 ?_|refine sB ?_|(first|apply pX|apply bX)<;>intro hc|refine⟨oD,?_⟩|exact oD|fail
     refine hgo hf _ ?_;exact lE
   ·obtain rfl:i=es.length:=by omega
    rw[List.drop_length]at hf;rw[←hf];repeat' first|simp only[go_sem,seval,l3]|refine sB ?_|(first|apply pX|apply bX)<;>intro hc|refine⟨oD,?_⟩|exact oD|fail
    all_goals rfl
 ·refine eW Tryz.call318 Tryz.func318 ?_;repeat' first|simp only[go_sem,seval,viewN,hb]|refine cP h1 ?_|refine cP hor ?_|refine cV h2 ?_|refine sB ?_|(first|apply pX|apply bX)<;>intro hc|refine⟨oD,?_⟩|exact oD|fail
  all_goals rfl
def lchE (s:Stm):Int:=if !frmB s then 3 else if manB s then 6 else if !elmB s then 13 else if !kndB s then 10 else 0
theorem lCheckG {s:Stm} (hb:SzS s):EvP Tryz.prog 249 [s.pv] (E (lchE s)):=by
 have h1:=lformG hb;have h2:=lsizesG hb;have h3:=lelementsG hb;have h4:=lkindsG hb;clear hb;unfold lchE;unfold Stm.pv at*;generalize frmB s=b1 at*;generalize manB s=b2 at*;generalize elmB s=b3 at*;generalize kndB s=b4 at*;cases b1
 ·refine eW Tryz.call249 Tryz.func249 ?_;repeat' first|simp only[go_sem,seval]|refine cP h1 ?_|refine cP h2 ?_|(refine loop_unroll' ?_)|refine sB ?_|(first|apply pX|apply bX)<;>intro hc|refine⟨oD,?_⟩|exact oD|fail
  all_goals rfl
 have h3:=h3 rfl;have h4:=h4 rfl;cases b2
 ·cases b3
  ·refine eW Tryz.call249 Tryz.func249 ?_;repeat' first|simp only[go_sem,seval]|refine cP h1 ?_|refine cP h2 ?_|refine cP h3 ?_|(refine loop_unroll' ?_)|refine sB ?_|(first|apply pX|apply bX)<;>intro hc|refine⟨oD,?_⟩|exact oD|fail
   all_goals rfl
  ·cases b4<;>
   ·refine eW Tryz.call249 Tryz.func249 ?_;repeat' first|simp only[go_sem,seval]|refine cP h1 ?_|refine cP h2 ?_|refine cP h3 ?_|refine cP h4 ?_|(refine loop_unroll' ?_)|refine sB ?_|(first|apply pX|apply bX)<;>intro hc|refine⟨oD,?_⟩|exact oD|fail
    all_goals rfl
 ·refine eW Tryz.call249 Tryz.func249 ?_;repeat' first|simp only[go_sem,seval]|refine cP h1 ?_|refine cP h2 ?_|(refine loop_unroll' ?_)|refine sB ?_|(first|apply pX|apply bX)<;>intro hc|refine⟨oD,?_⟩|exact oD|fail
  all_goals rfl
structure StG (s:Stm):Prop where
 b:SzS s
 g: ∀p∈s.groups,gE p.1 p.2=0∧p.1.length≤8∧p.2.length≤8
 v: ∀b∈s.vars,validN b=true∧b.length≤16
 q: ∀q∈s.eqs,0≤q.grp∧q.grp<s.groups.length∧gHas (s.groups.getD q.grp.toNat d0G).1 (s.groups.getD q.grp.toNat d0G).2 q.tgt=true∧q.terms.length≤64∧
  ∀t∈q.terms,0≤t.var∧t.var<s.vars.length∧gHas (s.groups.getD q.grp.toNat d0G).1 (s.groups.getD q.grp.toNat d0G).2 t.base=true∧izok (t.neg,t.abs)=true
 ng:s.groups.length≤8
 nv:s.vars.length≤64
 ne:s.eqs.length≤64
 k:kndB s=true
theorem StG.m {s:Stm} (h:StG s):StM s:=⟨h.g,h.q,h.ng,h.nv,h.ne⟩
theorem StG.ck {s:Stm} (h:StG s):lchE s=0:=by
 have e1:frmB s=true:=by
  simp only[frmB,Bool.and_eq_true,List.all_eq_true];refine⟨fun p hp=> ?_,fun b hb=>(h.v b hb).1,fun q hq=> ?_⟩
  ·obtain⟨vm,vo,-⟩:=gE_m (h.g p hp).1;simp[gB,vm,vo]
  ·obtain⟨q1,q2,q3,q4,q5⟩:=h.q q hq;have hg:=(h.g _ (mem_getD d0G (show q.grp.toNat<s.groups.length by omega))).1
   simp only[eqB,Bool.and_eq_true,decide_eq_true_eq,List.all_eq_true];refine⟨⟨⟨q1,q2⟩,gHas_valid hg q3⟩,fun t ht=> ?_⟩
   obtain⟨t1,t2,t3,t4⟩:=q5 t ht;simp only[trB,Bool.and_eq_true,decide_eq_true_eq];exact⟨⟨t1,t2⟩,gHas_valid hg t3,t4⟩
 have e2:manB s=false:=by
  simp only[manB,Bool.or_eq_false_iff,decide_eq_false_iff_not,List.any_eq_false,decide_eq_true_eq];exact⟨by have:=h.ng;omega,by have:=h.nv;omega,by have:=h.ne;omega,fun q hq=>by have:=(h.q q hq).2.2.2.1;omega⟩
 have e3:elmB s=true:=by
  simp only[elmB,Bool.and_eq_true,List.all_eq_true];refine⟨fun p hp=>by simp[gC,(h.g p hp).1],fun q hq=> ?_⟩
  obtain⟨q1,q2,q3,q4,q5⟩:=h.q q hq;have hg:=(h.g _ (mem_getD d0G (show q.grp.toNat<s.groups.length by omega))).1
  simp only[elmQ,gIn,hg,decide_true,Bool.true_and,Bool.and_eq_true,List.all_eq_true];exact⟨q3,fun t ht=>(q5 t ht).2.2.1⟩
 unfold lchE;rw[e1,e2,e3,h.k];rfl
end Go.Proofs.YtmobkhegihemeaaGreatDoor
