/-
  Part of the proof, part FA31. Own work.
-/
import Derived.Test.YtfdjchnefpefbaaGreatDoorFA29
set_option linter.all false
namespace Go.Proofs.YtfdjchnefpefbaaGreatDoor
open Go Go.Dom Go.Num
set_option maxRecDepth 100000
set_option maxHeartbeats 16000000
structure U9 (s:dJ):Prop where
 g: ∀p∈s.groups,p.1.length<=8/\p.2.length<=8
 v: ∀b∈s.vars,b.length<=16
 q: ∀q∈s.eqs,q.terms.length<=1000/\ ∀t∈q.terms,t.abs.length<=16
 ng:s.groups.length<=1000
 nv:s.vars.length<=1000
 ne:s.eqs.length<=1000
def gB (g:Bytes×Bytes):Bool:=aa g.1&&aa g.2
def QQ (nv:Nat) (t:fV):Bool:=(decide (0<=t.var)&&decide (t.var<nv))&&(aa t.base&&c9 (t.neg,t.abs))
def KV (ng nv:Nat) (q:eH):Bool:=(decide (0<=q.me)&&decide (q.me<ng)&&aa q.tgt)&&q.terms.all (QQ nv)
def oj (s:dJ):Bool:=s.groups.all gB&&(s.vars.all aa&&s.eqs.all (KV s.groups.length s.vars.length))
theorem LQ {s:dJ} (hb:U9 s):aA Tryz.prog 381 [s.pv] (E (if oj s then 0 else 3)):=by
 obtain⟨gs,vs,es⟩:=s;obtain⟨-,-,bq,ng,nv,ne⟩:=hb;simp only at bq ng nv ne;have l1:(gs.map gO).length=gs.length:=aE ..;have l2:(vs.map dO).length=vs.length:=aE ..;have l3:(es.map eH.pv).length=es.length:=aE ..;unfold dJ.pv;simp only;refine eW Tryz.call381 Tryz.func381 ?_;refine eF @l1 ?_;refine af (α:=Nat) (fun i=>gs.length-i) (fun i=>⟨[(1, .p 1000 0 0),(12, .v (.sl (gs.map gO))),(13,E' gs.length),(14,E' i)],[(1000,⟨0,[.v (.sl (gs.map gO)), .v (.sl (vs.map dO)), .v (.sl (es.map eH.pv))],false,none⟩)],_⟩) (fun i=>i<=gs.length/\(gs.drop i).all gB=gs.all gB) 0 (fun _=>an _) ⟨aH _,rfl⟩ ?_ ?_
 ·exact lE
 ·rintro i ⟨hi,hf⟩ R hR
  by_cases hlt:i<gs.length
  ·have e1:=getD_map gO gs gY hlt;have hgo:=fun h=>hR (i+1) ⟨by omega,h⟩ oO
   rw[aT gY hlt,List.all_cons]at hf;obtain⟨x,hx⟩: ∃x,x=gs.getD i gY:=⟨_,rfl⟩;rw[<-hx]at e1 hf;obtain⟨m,o⟩:=x;have v1:=aJ m;have v2:=aJ o;clear hR hx;simp only[gO]at e1
   cases hg:gB (m,o)with
   |true=>
    rw[hg,cf]at hf;obtain⟨vm,vo⟩:aa m=true/\aa o=true:=by simpa[gB]using hg
    rw[vm]at v1;rw[vo]at v2;refine sT (aN @l1 @e1) @v1 @v2 ?_;refine hgo hf _ ?_;exact lE
   |false=>
    rw[hg,dH]at hf;have hz:oj ⟨gs,vs,es⟩=false:=by simp only[oj,<-hf,dH]
    rw[hz];have hg:(aa m&&aa o)=false:=hg;clear hgo hf hz;generalize aa m=b1 at*;generalize aa o=b2 at*;exact U0 (aN @l1 @e1) @v1 @v2
  ·obtain rfl:i=gs.length:=by omega
   rw[cX]at hf;have hf1:gs.all gB=true:=hf.symm;clear hf hR;refine eF (aN @l1 @l2) ?_;refine af (α:=Nat) (fun i=>vs.length-i) (fun i=>⟨[(1, .p 1000 0 0),(30, .v (.sl (vs.map dO))),(31,E' vs.length),(32,E' i)],[(1000,⟨0,[.v (.sl (gs.map gO)), .v (.sl (vs.map dO)), .v (.sl (es.map eH.pv))],false,none⟩)],_⟩) (fun i=>i<=vs.length/\(vs.drop i).all aa=vs.all aa) 0 (fun _=>an _) ⟨aH _,rfl⟩ ?_ ?_
   ·exact lE
   ·rintro i ⟨hi,hf⟩ R hR
    by_cases hlt:i<vs.length
    ·have e1:=getD_map dO vs [] hlt;have hgo:=fun h=>hR (i+1) ⟨by omega,h⟩ oO
     rw[aT [] hlt,List.all_cons]at hf;generalize vs.getD i []=x at*;have v1:=aJ x;clear hR;simp only[dO]at e1
     cases hg:aa x with
     |true=>
      rw[hg]at v1;rw[hg,cf]at hf;refine o8 (aN @l2 @e1) @v1 ?_;refine hgo hf _ ?_;exact lE
     |false=>
      rw[hg]at v1;rw[hg,dH]at hf;have hz:oj ⟨gs,vs,es⟩=false:=by simp only[oj,<-hf,dH,wz]
      rw[hz];clear hgo;exact o7 (aN @l2 @e1) @v1
    ·obtain rfl:i=vs.length:=by omega
     rw[cX]at hf;have hf2:vs.all aa=true:=hf.symm;have hz:oj ⟨gs,vs,es⟩=es.all (KV gs.length vs.length):=by simp only[oj,hf1,hf2,cf]
     rw[hz];clear hf hR hz;refine eF (aN @l2 @l3) ?_;refine af (α:=Nat) (fun i=>es.length-i) (fun i=>⟨[(1, .p 1000 0 0),(42, .v (.sl (es.map eH.pv))),(43,E' es.length),(44,E' i)],[(1000,⟨0,[.v (.sl (gs.map gO)), .v (.sl (vs.map dO)), .v (.sl (es.map eH.pv))],false,none⟩)],_⟩) (fun i=>i<=es.length/\(es.drop i).all (KV gs.length vs.length)=es.all (KV gs.length vs.length)) 0 (fun _=>an _) ⟨aH _,rfl⟩ ?_ ?_
     ·exact lE
     ·rintro i ⟨hi,hf⟩ R hR
      by_cases hlt:i<es.length
      ·have e1:=getD_map eH.pv es kF hlt;have q4:=(bq _ (az kF hlt)).1;have hgo:=fun h=>hR (i+1) ⟨by omega,h⟩ oO
       rw[aT kF hlt,List.all_cons]at hf;obtain⟨x,hx⟩: ∃x,x=es.getD i kF:=⟨_,rfl⟩;rw[<-hx]at e1 q4 hf;obtain⟨gr,tg,ts⟩:=x;simp only at q4;have v1:=aJ tg;have l4:(ts.map fV.pv).length=ts.length:=aE ..;simp only[eH.pv]at e1;clear hR hx
       cases hg:(decide (0<=gr)&&decide (gr<gs.length)&&aa tg)with
       |false=>
        have hq:KV gs.length vs.length ⟨gr,tg,ts⟩=false:=by simp only[KV,hg,dH]
        rw[hq,dH]at hf;rw[<-hf];clear hgo hf hq;generalize aa tg=b1 at*;repeat' first|simp only[go_sem,seval,l1,l3,e1]|refine cP v1 ?_|refine sB ?_|apply xX<;>intro hc|refine⟨oD,?_⟩|exact oD|fail
        all_goals simp_all
        all_goals omega
       |true=>
        have hq:KV gs.length vs.length ⟨gr,tg,ts⟩=ts.all (QQ vs.length):=by simp only[KV,hg,cf]
        rw[hq]at hf;simp only[aY,decide_eq_true_eq]at hg;obtain⟨⟨g1,g2⟩,vt⟩:=hg;rw[vt]at v1;have hd1:decide (gr<0)=false:=decide_eq_false oO;have hd2:decide (gr>=(gs.length:Int))=false:=decide_eq_false oO;clear hq g1 g2 vt;refine zr (aN @l1 (aN @l3 (aN @l4 (aN @e1 (aN @hd1 @hd2))))) @v1 ?_;refine af (α:=Nat) (fun i=>ts.length-i) (fun j=>⟨[(1, .p 1000 0 0),(42, .v (.sl (es.map eH.pv))),(43,E' es.length),(44,E' i),(66, .v (.sl (ts.map fV.pv))),(67,E' ts.length),(68,E' j)],[(1000,⟨0,[.v (.sl (gs.map gO)), .v (.sl (vs.map dO)), .v (.sl (es.map eH.pv))],false,none⟩)],_⟩) (fun i=>i<=ts.length/\(ts.drop i).all (QQ vs.length)=ts.all (QQ vs.length)) 0 (fun _=>an _) ⟨aH _,rfl⟩ ?_ ?_
        ·exact lE
        ·rintro j ⟨hj,hk⟩ R' hR'
         by_cases hjt:j<ts.length
         ·have e2:=getD_map fV.pv ts kB hjt;have hgo':=fun h=>hR' (j+1) ⟨by omega,h⟩ oO
          rw[aT kB hjt,List.all_cons]at hk;obtain⟨y,hy⟩: ∃y,y=ts.getD j kB:=⟨_,rfl⟩;rw[<-hy]at e2 hk;obtain⟨b,v,n,a⟩:=y;have v2:=aJ b;have v3:=fP n a;rw[show(aa a&& !(n&&a==[]))=c9 (n,a)from rfl]at v3
          simp only[fV.pv]at e2;clear hR' hy
          cases ht:QQ vs.length ⟨b,v,n,a⟩with
          |true=>
           rw[ht,cf]at hk;simp only[QQ,aY,decide_eq_true_eq]at ht;obtain⟨⟨t1,t2⟩,t3,t4⟩:=ht;rw[t3]at v2;rw[t4]at v3;have hd3:decide (v<0)=false:=decide_eq_false oO;have hd4:decide (v>=(vs.length:Int))=false:=decide_eq_false oO;refine sT (aN @l2 (aN @l4 (aN @e2 (aN @hd3 @hd4)))) @v2 @v3 ?_;refine hgo' hk _ ?_;exact lE
          |false=>
           rw[ht,dH]at hk;rw[<-hk,dH]at hf;rw[<-hf];simp only[QQ]at ht;clear hgo' hgo hk hf;generalize aa b=b1 at*;generalize c9 (n,a)=b2 at*;repeat' first|simp only[go_sem,seval,l2,l4,e2]|refine cP v2 ?_|refine cP v3 ?_|refine sB ?_|apply xX<;>intro hc|refine⟨oD,?_⟩|exact oD|fail
           all_goals simp_all
           all_goals omega
         ·obtain rfl:j=ts.length:=by omega
          rw[cX]at hk;rw[<-hk]at hf;refine fx (aN @l3 @l4) ?_;refine hgo hf _ ?_;exact lE
      ·obtain rfl:i=es.length:=by omega
       rw[cX]at hf;rw[<-hf];exact lQ @l3
def IM (s:dJ):Bool:=decide (8<s.groups.length)||(decide (64<s.vars.length)||(decide (64<s.eqs.length)||s.eqs.any fun q=>decide (64<q.terms.length)))
theorem PH {s:dJ} (hb:U9 s):aA Tryz.prog 382 [s.pv] (E (if IM s then 6 else 0)):=by
 have h1:=sX s.eqs _ _ (by have:=hb.ne;omega) PI
 obtain⟨gs,vs,es⟩:=s;have ng:=hb.ng;have nv:=hb.nv;have ne:=hb.ne;simp only at ng nv ne h1;have l1:(gs.map gO).length=gs.length:=aE ..;have l2:(vs.map dO).length=vs.length:=aE ..;have l3:(es.map eH.pv).length=es.length:=aE ..;clear hb;unfold dJ.pv IM;simp only;generalize (es.any fun q=>decide (64<q.terms.length))=b at*
 have d1:decide ((gs.length:Int)>8)=decide (8<gs.length):=by rw[decide_eq_decide];omega
 have d2:decide ((vs.length:Int)>64)=decide (64<vs.length):=by rw[decide_eq_decide];omega
 have d3:decide ((es.length:Int)>64)=decide (64<es.length):=by rw[decide_eq_decide];omega
 refine eW Tryz.call382 Tryz.func382 ?_;repeat' first|simp only[go_sem,seval,l1,l2,l3,d1,d2,d3]|refine cP h1 ?_|refine sB ?_|apply xX<;>intro hc|refine⟨oD,?_⟩|exact oD|fail
 all_goals simp_all
 all_goals omega
def me (s:dJ) (q:eH):Bytes×Bytes:=s.groups.getD q.me.toNat gY
def Io (gs:List (Bytes×Bytes)) (q:eH):Bool:=lj (gs.getD q.me.toNat gY).1 (gs.getD q.me.toNat gY).2 q.tgt&&q.terms.all fun t=>lj (gs.getD q.me.toNat gY).1 (gs.getD q.me.toNat gY).2 t.base
def gC (g:Bytes×Bytes):Bool:=decide (gE g.1 g.2=0)
def AQ (s:dJ):Bool:=s.groups.all gC&&s.eqs.all (Io s.groups)
theorem KZ {ng nv:Nat} {q:eH} (h:KV ng nv q=true):0<=q.me/\q.me<ng/\ ∀t∈q.terms,0<=t.var/\t.var<nv/\aa t.base=true/\c9 (t.neg,t.abs)=true:=by
 simp only[KV,aY,decide_eq_true_eq]at h;refine⟨h.1.1.1,h.1.1.2,fun t ht=> ?_⟩
 have:=bz.1 h.2 t ht;simp only[QQ,aY,decide_eq_true_eq]at this;exact⟨this.1.1,this.1.2,this.2.1,this.2.2⟩
theorem E8 {s:dJ} (hb:U9 s) (hf:oj s=true):aA Tryz.prog 383 [s.pv] (E (if AQ s then 0 else 13)):=by
 obtain⟨gs,vs,es⟩:=s;obtain⟨bg,-,bq,ng,nv,ne⟩:=hb;simp only[oj,aY]at bg bq ng nv ne hf;have hq:=bz.1 hf.2.2;have l1:(gs.map gO).length=gs.length:=aE ..;have l3:(es.map eH.pv).length=es.length:=aE ..;clear hf;unfold dJ.pv;simp only;refine eW Tryz.call383 Tryz.func383 ?_;refine eF @l1 ?_;refine af (α:=Nat) (fun i=>gs.length-i) (fun i=>⟨[(1, .p 1000 0 0),(9, .v (.sl (gs.map gO))),(10,E' gs.length),(11,E' i)],[(1000,⟨0,[.v (.sl (gs.map gO)), .v (.sl (vs.map dO)), .v (.sl (es.map eH.pv))],false,none⟩)],_⟩) (fun i=>i<=gs.length/\(gs.drop i).all gC=gs.all gC) 0 (fun _=>an _) ⟨aH _,rfl⟩ ?_ ?_
 ·exact lE
 ·rintro i ⟨hi,hf⟩ R hR
  by_cases hlt:i<gs.length
  ·have e1:=getD_map gO gs gY hlt;have k:=bg _ (az gY hlt);have hgo:=fun h=>hR (i+1) ⟨by omega,h⟩ oO
   rw[aT gY hlt,List.all_cons]at hf;obtain⟨x,hx⟩: ∃x,x=gs.getD i gY:=⟨_,rfl⟩;rw[<-hx]at e1 k hf;obtain⟨m,o⟩:=x;have v1:=jz k.1 k.2;clear hR hx k;simp only[gO]at e1;simp only[gC]at hf
   by_cases hg:gE m o=0
   ·rw[hg]at v1;rw[decide_eq_true hg,cf]at hf;refine o8 (aN @l1 @e1) @v1 ?_;refine hgo hf _ ?_;exact lE
   ·rw[decide_eq_false hg,dH]at hf;have hz:AQ ⟨gs,vs,es⟩=false:=by
     simp only[AQ,Bool.and_eq_false_iff];exact .inl hf.symm
    have hb:(gE m o !=0)=true:=by simpa using hg
    rw[hz];clear hgo hf hz;generalize gE m o=z at*;exact o7 (aN @l1 (aN @e1 @hb)) @v1
  ·obtain rfl:i=gs.length:=by omega
   rw[cX]at hf;have hf1:gs.all gC=true:=hf.symm;have hz:AQ ⟨gs,vs,es⟩=es.all (Io gs):=by simp only[AQ,hf1,cf]
   rw[hz];clear hf hR hz hf1;refine eF (aN @l1 @l3) ?_;refine af (α:=Nat) (fun i=>es.length-i) (fun i=>⟨[(1, .p 1000 0 0),(20, .v (.sl (es.map eH.pv))),(21,E' es.length),(22,E' i)],[(1000,⟨0,[.v (.sl (gs.map gO)), .v (.sl (vs.map dO)), .v (.sl (es.map eH.pv))],false,none⟩)],_⟩) (fun i=>i<=es.length/\(es.drop i).all (Io gs)=es.all (Io gs)) 0 (fun _=>an _) ⟨aH _,rfl⟩ ?_ ?_
   ·exact lE
   ·rintro i ⟨hi,hf⟩ R hR
    by_cases hlt:i<es.length
    ·have e1:=getD_map eH.pv es kF hlt;obtain⟨q1,q2,-⟩:=KZ (hq _ (az kF hlt));have q4:=(bq _ (az kF hlt)).1;have hgo:=fun h=>hR (i+1) ⟨by omega,h⟩ oO
     rw[aT kF hlt,List.all_cons]at hf;obtain⟨x,hx⟩: ∃x,x=es.getD i kF:=⟨_,rfl⟩;rw[<-hx]at e1 q1 q2 q4 hf;obtain⟨gr,tg,ts⟩:=x;simp only at q1 q2 q4;have hgl:gr.toNat<gs.length:=by omega
     have kg:=bg _ (az gY hgl);have e3:=getD_map gO gs gY hgl;simp only[Io]at hf;obtain⟨z,hz⟩: ∃z,z=gs.getD gr.toNat gY:=⟨_,rfl⟩;rw[<-hz]at kg e3 hf;obtain⟨m,o⟩:=z;simp only at kg hf;have v1:=xr kg.1 kg.2 tg;have v2:=sY ts _ _ _ oO (PA kg.1 kg.2);have hn:(ts.any fun t=> !lj m o t.base)= !ts.all fun t=>lj m o t.base:=lV ..
     rw[hn]at v2;simp only[gO]at e3 v2;simp only[eH.pv]at e1;clear hR hx hz kg hn hq bq bg;generalize lj m o tg=b1 at*;generalize (ts.all fun t=>lj m o t.base)=b2 at*
     cases hbb:(b1&&b2)with
     |true=>
      rw[hbb,cf]at hf;simp only[aY]at hbb;obtain⟨rfl,rfl⟩:=hbb;repeat' first|simp only[go_sem,seval,l1,l3,e1,e3,aL]|refine cP v1 ?_|refine cV v2 ?_|refine sB ?_|apply xX<;>intro hc|refine⟨oD,?_⟩|exact oD|fail
      refine hgo hf _ ?_;exact lE
     |false=>
      rw[hbb,dH]at hf;rw[<-hf];clear hgo hf;repeat' first|simp only[go_sem,seval,l1,l3,e1,e3,aL]|refine cP v1 ?_|refine cV v2 ?_|refine sB ?_|apply xX<;>intro hc|refine⟨oD,?_⟩|exact oD|fail
      all_goals simp_all
    ·obtain rfl:i=es.length:=by omega
     rw[cX]at hf;rw[<-hf];exact lQ @l3
theorem wG (l:List fV) (f:FuncId) (c:List PV) (p:fV->Bool) (hl:l.length<4611686018427387904) (h: ∀x∈l,aA Tryz.prog f (fV.pv x::c) (.b (p x))):aA Tryz.prog 478 [.sl (l.map fV.pv), .fc f [] c] (E (dN p 0 l)):=by
 have hlm:(l.map fV.pv).length=l.length:=aE ..;refine eW Tryz.call478 Tryz.func478 ?_;refine eF @hlm ?_;refine af (α:=Nat) (fun i=>l.length-i) (fun i=>⟨[(0, .v (.sl (l.map fV.pv))),(1, .v (.fc f [] c)),(7, .v (.i .i64 l.length)),(8, .v (.i .i64 (i:Nat)))],[],_⟩) (fun i=>i<=l.length/\dN p i (l.drop i)=dN p 0 l) 0 (fun _=>an _) ⟨aH _,rfl⟩ ?_ ?_
 ·exact lE
 ·rintro i ⟨hi,hx⟩ R hR;rw[<-hx]
  by_cases hlt:i<l.length
  ·have e1:=getD_map fV.pv l kB hlt;have hf:=h (l.getD i kB) (az kB hlt);have hgo:=hR (i+1);rw[<-hx,aT kB hlt]at hgo;rw[aT kB hlt];simp only[dN]at hgo⊢;clear hx hR h;obtain⟨b,hb⟩: ∃b,b=p (l.getD i kB):=⟨_,rfl⟩;rw[<-hb]at hf hgo⊢;clear hb;obtain⟨x,hxx⟩: ∃x,x=l.getD i kB:=⟨_,rfl⟩;rw[<-hxx]at e1 hf;clear hxx;obtain⟨tb,tv,tn,ta⟩:=x;simp only[fV.pv]at e1 hf;cases b
   ·have hgo:=hgo ⟨by omega,rfl⟩ oO
    repeat' first|simp only[go_sem,seval,hlm,e1]|(refine il hf (ml _ _) ?_)|refine sB ?_|apply xX<;>intro hc|refine⟨oD,?_⟩|exact oD|fail
    refine hgo _ ?_;exact lE
   ·repeat' first|simp only[go_sem,seval,hlm,e1]|(refine il hf (ml _ _) ?_)|refine sB ?_|apply xX<;>intro hc|refine⟨oD,?_⟩|exact oD|fail
    all_goals rfl
  ·obtain rfl:i=l.length:=by omega
   rw[cX];repeat' first|simp only[go_sem,seval,hlm]|refine sB ?_|apply xX<;>intro hc|refine⟨oD,?_⟩|exact oD|fail
   all_goals simp[dN]
theorem qO (l:List fV) (f:FuncId) (c:List PV) (p:fV->Bool) (hl:l.length<4611686018427387904) (h: ∀x∈l,aA Tryz.prog f (fV.pv x::c) (.b (p x))):aA Tryz.prog 448 [.sl (l.map fV.pv), .fc f [] c] (.b (l.any p)):=by
 have hi:=wG l f c p hl h;have e:decide (dN p 0 l>=0)=l.any p:=by
  rw[dE,decide_eq_true_iff];exact ig
 refine eW Tryz.call448 Tryz.func448 ?_;exact o7 @e @hi
theorem wF (l:List (Bytes×Bytes)) (f:FuncId) (c:List PV) (p:(Bytes×Bytes)->Bool) (hl:l.length<4611686018427387904) (h: ∀x∈l,aA Tryz.prog f (gO x::c) (.b (p x))):aA Tryz.prog 169 [.sl (l.map gO), .fc f [] c] (E (dN p 0 l)):=by
 have hlm:(l.map gO).length=l.length:=aE ..;refine eW Tryz.call169 Tryz.func169 ?_;refine eF @hlm ?_;refine af (α:=Nat) (fun i=>l.length-i) (fun i=>⟨[(0, .v (.sl (l.map gO))),(1, .v (.fc f [] c)),(7, .v (.i .i64 l.length)),(8, .v (.i .i64 (i:Nat)))],[],_⟩) (fun i=>i<=l.length/\dN p i (l.drop i)=dN p 0 l) 0 (fun _=>an _) ⟨aH _,rfl⟩ ?_ ?_
 ·exact lE
 ·rintro i ⟨hi,hx⟩ R hR;rw[<-hx]
  by_cases hlt:i<l.length
  ·have e1:=getD_map gO l gY hlt;have hf:=h (l.getD i gY) (az gY hlt);have hgo:=hR (i+1);rw[<-hx,aT gY hlt]at hgo;rw[aT gY hlt];simp only[dN]at hgo⊢;clear hx hR h;obtain⟨b,hb⟩: ∃b,b=p (l.getD i gY):=⟨_,rfl⟩;rw[<-hb]at hf hgo⊢;clear hb;obtain⟨x,hxx⟩: ∃x,x=l.getD i gY:=⟨_,rfl⟩;rw[<-hxx]at e1 hf;clear hxx;obtain⟨gm,go⟩:=x;simp only[gO]at e1 hf;cases b
   ·have hgo:=hgo ⟨by omega,rfl⟩ oO
    repeat' first|simp only[go_sem,seval,hlm,e1]|(refine il hf (ml _ _) ?_)|refine sB ?_|apply xX<;>intro hc|refine⟨oD,?_⟩|exact oD|fail
    refine hgo _ ?_;exact lE
   ·repeat' first|simp only[go_sem,seval,hlm,e1]|(refine il hf (ml _ _) ?_)|refine sB ?_|apply xX<;>intro hc|refine⟨oD,?_⟩|exact oD|fail
    all_goals rfl
  ·obtain rfl:i=l.length:=by omega
   rw[cX];repeat' first|simp only[go_sem,seval,hlm]|refine sB ?_|apply xX<;>intro hc|refine⟨oD,?_⟩|exact oD|fail
   all_goals simp[dN]
theorem qN (l:List (Bytes×Bytes)) (f:FuncId) (c:List PV) (p:(Bytes×Bytes)->Bool) (hl:l.length<4611686018427387904) (h: ∀x∈l,aA Tryz.prog f (gO x::c) (.b (p x))):aA Tryz.prog 387 [.sl (l.map gO), .fc f [] c] (.b (l.any p)):=by
 have hi:=wF l f c p hl h;have e:decide (dN p 0 l>=0)=l.any p:=by
  rw[dE,decide_eq_true_iff];exact ig
 refine eW Tryz.call387 Tryz.func387 ?_;exact o7 @e @hi
theorem zS (s:dJ) (hl:s.groups.length<1000000):aA Tryz.prog 390 [s.pv] (.s (bT s.groups)):=by
 obtain⟨gs,vs,es⟩:=s;simp only at hl;have l1:(gs.map gO).length=gs.length:=aE ..;unfold dJ.pv;simp only;refine eW Tryz.call390 Tryz.func390 ?_;refine eF @l1 ?_;refine af (α:=Nat) (fun i=>gs.length-i) (fun i=>⟨[(1, .p 1000 0 0),(6, .v (.sl (gs.map gO))),(7,E' gs.length),(8,E' i)],[(1000,⟨0,[.v (.sl (gs.map gO)), .v (.sl (vs.map dO)), .v (.sl (es.map eH.pv))],false,none⟩)],_⟩) (fun i=>i<=gs.length/\bT (gs.drop i)=bT gs) 0 (fun _=>an _) ⟨aH _,rfl⟩ ?_ ?_
 ·exact lE
 ·rintro i ⟨hi,hf⟩ R hR;rw[<-hf]
  by_cases hlt:i<gs.length
  ·have e1:=getD_map gO gs gY hlt;have hgo:=hR (i+1);rw[<-hf]at hgo;rw[aT gY hlt]at hgo⊢;obtain⟨x,hx⟩: ∃x,x=gs.getD i gY:=⟨_,rfl⟩;rw[<-hx]at e1 hgo⊢;clear hx hf hR;obtain⟨m,o⟩:=x;simp only[bT]at hgo⊢;simp only[gO]at e1
   by_cases ho:o=[]
   ·subst ho;simp only[if_true]at hgo⊢;have hgo:=hgo ⟨by omega,trivial⟩ oO
    repeat' first|simp only[go_sem,seval,l1,e1,nn]|refine sB ?_|apply xX<;>intro hc|refine⟨oD,?_⟩|exact oD|fail
    refine hgo _ ?_;exact lE
   ·have hb:(o==([]:Bytes))=false:=by simpa using ho
    rw[if_neg ho];exact lQ (aN @l1 (aN @e1 @hb))
  ·obtain rfl:i=gs.length:=by omega
   rw[cX];exact lQ @l1
def L6 (q:Bytes) (g:Bytes×Bytes):Bool:= !(g.2==[])&& !(g.2==q)
def IS (vs:List Bytes) (t:fV):Bool:=vs.getD t.var.toNat []==[]
def Kk (gs:List (Bytes×Bytes)) (vs:List Bytes) (q:eH):Bool:=(gs.getD q.me.toNat gY).2==[]&&q.terms.any (IS vs)
def E7 (s:dJ):Bool:= !(s.vars.any fun b=>b==[])||(!(bT s.groups==[])&& !(s.groups.any (L6 (bT s.groups)))&&s.eqs.all fun q=> !Kk s.groups s.vars q)
theorem Tz (q:Bytes) (g:Bytes×Bytes):aA Tryz.prog 451 [gO g, .pt (.agg [.s q]) 0] (.b (L6 q g)):=by
 obtain⟨m,o⟩:=g;simp only[gO,L6];refine eW Tryz.call451 Tryz.func451 ?_;repeat' first|simp only[go_sem,seval,bne]|refine sB ?_|apply xX<;>intro hc|refine⟨oD,?_⟩|exact oD|fail
 all_goals simp_all[bne]
theorem TA {s:dJ} {t:fV} (h0:0<=t.var) (h1:t.var<s.vars.length):aA Tryz.prog 452 [t.pv, .pt s.pv 0] (.b (IS s.vars t)):=by
 obtain⟨gs,vs,es⟩:=s;obtain⟨b,v,n,a⟩:=t;simp only at h0 h1;have l2:(vs.map dO).length=vs.length:=aE ..;have e1:=getD_map dO vs [] (i:=v.toNat) oO;simp only[dJ.pv,fV.pv,IS,dO]at*;refine eW Tryz.call452 Tryz.func452 ?_;exact lQ (aN @l2 @e1)
theorem PD {s:dJ} (hb:U9 s) (hf:oj s=true):aA Tryz.prog 384 [s.pv] (E (if E7 s then 0 else 10)):=by
 have h1:=sZ s.vars _ _ (by have:=hb.nv;omega) Ty
 have hor:=zS s (by have:=hb.ng;omega)
 have h2:=qN s.groups _ _ _ (by have:=hb.ng;omega) fun x _=>Tz (bT s.groups) x
 have h3:=fun q (hq:q∈s.eqs)=>qO q.terms 452 [.pt s.pv 0] (IS s.vars) (by have:=(hb.q q hq).1;omega) fun t ht=>by
  simp only[oj,aY]at hf;obtain⟨-,-,k⟩:=KZ (bz.1 hf.2.2 q hq);exact TA (k t ht).1 (k t ht).2.1
 have ng:=hb.ng;have ne:=hb.ne;have bq:=hb.q;obtain⟨gs,vs,es⟩:=s;simp only[oj,aY]at hf ng ne bq;have hq:=bz.1 hf.2.2;have l1:(gs.map gO).length=gs.length:=aE ..;have l3:(es.map eH.pv).length=es.length:=aE ..;unfold E7;simp only at*;clear hb hf;generalize (vs.any fun b=>b==[])=bv at*
 generalize bT gs=q at*;generalize (gs.any (L6 q))=bo at*;unfold dJ.pv at*;simp only at*;cases bv
 ·refine eW Tryz.call384 Tryz.func384 ?_;exact z1 @h1
 by_cases hq0:q=[]
 ·subst hq0;refine eW Tryz.call384 Tryz.func384 ?_;repeat' first|simp only[go_sem,seval,aL,nn]|refine cP h1 ?_|refine cP hor ?_|refine cV h2 ?_|refine sB ?_|apply xX<;>intro hc|refine⟨oD,?_⟩|exact oD|fail
  all_goals rfl
 have hb:(q==([]:Bytes))=false:=by simpa using hq0
 rw[hb];simp only[bR,bZ,cf,ka];cases bo
 ·refine eW Tryz.call384 Tryz.func384 ?_;repeat' first|simp only[go_sem,seval,aL,hb]|refine cP h1 ?_|refine cP hor ?_|refine cV h2 ?_|refine sB ?_|apply xX<;>intro hc|refine⟨oD,?_⟩|exact oD|fail
  refine af (α:=Nat) (fun i=>es.length-i) (fun i=>⟨[(1, .p 1000 0 0),(21, .v (.sl (es.map eH.pv))),(22,E' es.length),(23,E' i)],[(1000,⟨0,[.v (.sl (gs.map gO)), .v (.sl (vs.map dO)), .v (.sl (es.map eH.pv))],false,none⟩)],_⟩) (fun i=>i<=es.length/\((es.drop i).all fun q=> !Kk gs vs q)=es.all fun q=> !Kk gs vs q) 0 (fun _=>an _) ⟨aH _,rfl⟩ ?_ ?_
  ·exact lE
  ·rintro i ⟨hi,hf⟩ R hR
   by_cases hlt:i<es.length
   ·have e1:=getD_map eH.pv es kF hlt;have v2:=h3 _ (az kF hlt);obtain⟨q1,q2,-⟩:=KZ (hq _ (az kF hlt));have hgo:=fun h=>hR (i+1) ⟨by omega,h⟩ oO
    rw[aT kF hlt,List.all_cons]at hf;obtain⟨x,hx⟩: ∃x,x=es.getD i kF:=⟨_,rfl⟩;rw[<-hx]at e1 q1 q2 v2 hf;obtain⟨gr,tg,ts⟩:=x;simp only at q1 q2 v2;have hgl:gr.toNat<gs.length:=by omega
    have e3:=getD_map gO gs gY hgl;have hbq:Kk gs vs ⟨gr,tg,ts⟩=((gs.getD gr.toNat gY).2==[]&&ts.any (IS vs)):=rfl;rw[hbq]at hf;obtain⟨z,hz⟩: ∃z,z=gs.getD gr.toNat gY:=⟨_,rfl⟩;rw[<-hz]at e3 hf;obtain⟨m,o⟩:=z;simp only at hf;simp only[gO]at e3;simp only[eH.pv]at e1;clear hR hx hz h3 hq bq h1 h2 hor;generalize ts.any (IS vs)=bt at*
    by_cases ho:o=[]
    ·subst ho;cases bt
     ·simp only[nn,wz,bZ,cf]at hf;repeat' first|simp only[go_sem,seval,l1,l3,e1,e3,aL,nn,bne_self_eq_false]|refine cV v2 ?_|refine sB ?_|apply xX<;>intro hc|refine⟨oD,?_⟩|exact oD|fail
      refine hgo hf _ ?_;exact lE
     ·simp only[nn,pN,bR,dH]at hf;rw[<-hf];repeat' first|simp only[go_sem,seval,l1,l3,e1,e3,aL,nn,bne_self_eq_false]|refine cV v2 ?_|refine sB ?_|apply xX<;>intro hc|refine⟨oD,?_⟩|exact oD|fail
      all_goals rfl
    ·have hob:(o==([]:Bytes))=false:=by simpa using ho
     have hob2:(o !=([]:Bytes))=true:=by simpa using ho
     simp only[hob,dH,bZ,cf]at hf;repeat' first|simp only[go_sem,seval,l1,l3,e1,e3,aL,hob,hob2]|refine cV v2 ?_|refine sB ?_|apply xX<;>intro hc|refine⟨oD,?_⟩|exact oD|fail
     refine hgo hf _ ?_;exact lE
   ·obtain rfl:i=es.length:=by omega
    rw[cX]at hf;rw[<-hf];exact lQ @l3
 ·refine eW Tryz.call384 Tryz.func384 ?_;repeat' first|simp only[go_sem,seval,aL,hb]|refine cP h1 ?_|refine cP hor ?_|refine cV h2 ?_|refine sB ?_|apply xX<;>intro hc|refine⟨oD,?_⟩|exact oD|fail
  all_goals rfl
def LM (s:dJ):Int:=if !oj s then 3 else if IM s then 6 else if !AQ s then 13 else if !E7 s then 10 else 0
theorem GX {s:dJ} (hb:U9 s):aA Tryz.prog 272 [s.pv] (E (LM s)):=by
 have h1:=LQ hb;have h2:=PH hb;have h3:=E8 hb;have h4:=PD hb;clear hb;unfold LM;unfold dJ.pv at*;generalize oj s=b1 at*;generalize IM s=b2 at*;generalize AQ s=b3 at*;generalize E7 s=b4 at*;cases b1
 ·refine eW Tryz.call272 Tryz.func272 ?_;exact U3 @h1 @h2
 have h3:=h3 rfl;have h4:=h4 rfl;cases b2
 ·cases b3
  ·refine eW Tryz.call272 Tryz.func272 ?_;exact ZR @h1 @h2 @h3
  ·cases b4<;>
   ·refine eW Tryz.call272 Tryz.func272 ?_;exact Zj @h1 @h2 @h3 @h4
 ·refine eW Tryz.call272 Tryz.func272 ?_;exact U3 @h1 @h2
structure CI (s:dJ):Prop where
 b:U9 s
 g: ∀p∈s.groups,gE p.1 p.2=0/\p.1.length<=8/\p.2.length<=8
 v: ∀b∈s.vars,aa b=true/\b.length<=16
 q: ∀q∈s.eqs,0<=q.me/\q.me<s.groups.length/\jc (s.groups.getD q.me.toNat gY).1 (s.groups.getD q.me.toNat gY).2 q.tgt=true/\q.terms.length<=64/\
  ∀t∈q.terms,0<=t.var/\t.var<s.vars.length/\jc (s.groups.getD q.me.toNat gY).1 (s.groups.getD q.me.toNat gY).2 t.base=true/\c9 (t.neg,t.abs)=true
 ng:s.groups.length<=8
 nv:s.vars.length<=64
 ne:s.eqs.length<=64
 k:E7 s=true
theorem CI.m {s:dJ} (h:CI s):X6 s:=⟨h.g,h.q,h.ng,h.nv,h.ne⟩
theorem CI.ck {s:dJ} (h:CI s):LM s=0:=by
 have e1:oj s=true:=by
  simp only[oj,aY,bz];refine⟨fun p hp=> ?_,fun b hb=>(h.v b hb).1,fun q hq=> ?_⟩
  ·obtain⟨vm,vo,-⟩:=kp (h.g p hp).1;simp[gB,vm,vo]
  ·obtain⟨q1,q2,q3,q4,q5⟩:=h.q q hq;have hg:=(h.g _ (az gY (show q.me.toNat<s.groups.length by omega))).1
   simp only[KV,aY,decide_eq_true_eq,bz];refine⟨⟨⟨q1,q2⟩,qu hg q3⟩,fun t ht=> ?_⟩
   obtain⟨t1,t2,t3,t4⟩:=q5 t ht;simp only[QQ,aY,decide_eq_true_eq];exact⟨⟨t1,t2⟩,qu hg t3,t4⟩
 have e2:IM s=false:=by
  simp only[IM,Bool.or_eq_false_iff,decide_eq_false_iff_not,List.any_eq_false,decide_eq_true_eq];exact⟨by have:=h.ng;omega,by have:=h.nv;omega,by have:=h.ne;omega,fun q hq=>by have:=(h.q q hq).2.2.2.1;omega⟩
 have e3:AQ s=true:=by
  simp only[AQ,aY,bz];refine⟨fun p hp=>by simp[gC,(h.g p hp).1],fun q hq=> ?_⟩
  obtain⟨q1,q2,q3,q4,q5⟩:=h.q q hq;have hg:=(h.g _ (az gY (show q.me.toNat<s.groups.length by omega))).1
  simp only[Io,lj,hg,decide_true,cf,aY,bz];exact⟨q3,fun t ht=>(q5 t ht).2.2.1⟩
 unfold LM;rw[e1,e2,e3,h.k];rfl
end Go.Proofs.YtfdjchnefpefbaaGreatDoor
