/- Part of the proof. -/
import Derived.Test.YtipbhapfacgabaaGreatDoorUH29
set_option linter.all false
set_option maxHeartbeats 16000000
set_option maxRecDepth 100000
namespace Go.Proofs.Tryz
open Go Go.Dom Go.Num
structure TI (s:cY):Prop where
 g: ∀p∈s.groups,p.1.length<=8/\p.2.length<=8
 v: ∀b∈s.vars,b.length<=16
 q: ∀q∈s.eqs,q.terms.length<=1000/\ ∀t∈q.terms,t.abs.length<=16
 ng:s.groups.length<=1000
 nv:s.vars.length<=1000
 ne:s.eqs.length<=1000
def gB (g:Bytes×Bytes):Bool:=aa g.1&&aa g.2
def R7 (nv:Nat) (t:fS):Bool:=(decide (0<=t.var)&&decide (t.var<nv))&&(aa t.base&&dh (t.neg,t.abs))
def MH (ng nv:Nat) (q:dS):Bool:=(decide (0<=q.jA)&&decide (q.jA<ng)&&aa q.tgt)&&q.terms.all (R7 nv)
def pH (s:cY):Bool:=s.groups.all gB&&(s.vars.all aa&&s.eqs.all (MH s.groups.length s.vars.length))
theorem Nw {s:cY} (hb:TI s):aF 318 [s.pv] (E (if pH s then 0 else 3)):=by
 obtain⟨gs,vs,es⟩:=s;obtain⟨-,-,bq,ng,nv,ne⟩:=hb;simp only at bq ng nv ne;have l1:(gs.map gV).length=gs.length:=aR ..;have l2:(vs.map dE).length=vs.length:=aR ..;have l3:(es.map dS.pv).length=es.length:=aR ..;unfold cY.pv;simp only;refine eW call318 func318 ?_;refine fq @l1 ?_;refine aq (α:=Nat) (fun i=>gs.length-i) (fun i=>⟨[(1, .p 1000 0 0),(12, .v (.sl (gs.map gV))),(13,E' gs.length),(14,E' i)],[(1000,⟨0,[.v (.sl (gs.map gV)), .v (.sl (vs.map dE)), .v (.sl (es.map dS.pv))],false,none⟩)],_⟩) (fun i=>i<=gs.length/\(gs.drop i).all gB=gs.all gB) 0 (fun _=>aB _) ⟨aT _,rfl⟩ ?_ ?_
 ·exact lE
 ·rintro i ⟨hi,hf⟩ R hR
  by_cases hlt:i<gs.length
  ·have e1:=getD_map gV gs iC hlt;have hgo:=fun h=>hR (i+1) ⟨oO,h⟩ oO
   rw[bL iC hlt,List.all_cons]at hf;obtain⟨x,hx⟩: ∃x,x=gs.getD i iC:=⟨_,rfl⟩;rw[<-hx]at e1 hf;obtain⟨m,o⟩:=x;have v1:=aD m;have v2:=aD o;clear hR hx;simp only[gV]at e1
   cases hg:gB (m,o)with
   |true=>
    rw[hg,cB]at hf;obtain⟨vm,vo⟩:aa m=true/\aa o=true:=by simpa[gB]using hg
    rw[vm]at v1;rw[vo]at v2;refine zS (aN @l1 @e1) @v1 @v2 ?_;refine hgo hf _ ?_;exact lE
   |false=>
    rw[hg,fp]at hf;have hz:pH ⟨gs,vs,es⟩=false:=by simp only[pH,<-hf,fp]
    rw[hz];have hg:(aa m&&aa o)=false:=hg;clear hgo hf hz;generalize aa m=b1 at*;generalize aa o=b2 at*;exact Sn (aN @l1 @e1) @v1 @v2
  ·obtain rfl:i=gs.length:=oO;rw[dO]at hf;have hf1:gs.all gB=true:=hf.symm;clear hf hR;refine fq (aN @l1 @l2) ?_;refine aq (α:=Nat) (fun i=>vs.length-i) (fun i=>⟨[(1, .p 1000 0 0),(30, .v (.sl (vs.map dE))),(31,E' vs.length),(32,E' i)],[(1000,⟨0,[.v (.sl (gs.map gV)), .v (.sl (vs.map dE)), .v (.sl (es.map dS.pv))],false,none⟩)],_⟩) (fun i=>i<=vs.length/\(vs.drop i).all aa=vs.all aa) 0 (fun _=>aB _) ⟨aT _,rfl⟩ ?_ ?_
   ·exact lE
   ·rintro i ⟨hi,hf⟩ R hR
    by_cases hlt:i<vs.length
    ·have e1:=getD_map dE vs [] hlt;have hgo:=fun h=>hR (i+1) ⟨oO,h⟩ oO
     rw[bL [] hlt,List.all_cons]at hf;generalize vs.getD i []=x at*;have v1:=aD x;clear hR;simp only[dE]at e1
     cases hg:aa x with
     |true=>
      rw[hg]at v1;rw[hg,cB]at hf;refine qN (aN @l2 @e1) @v1 ?_;refine hgo hf _ ?_;exact lE
     |false=>
      rw[hg]at v1;rw[hg,fp]at hf;have hz:pH ⟨gs,vs,es⟩=false:=by simp only[pH,<-hf,fp,qF]
      rw[hz];clear hgo;exact ot (aN @l2 @e1) @v1
    ·obtain rfl:i=vs.length:=oO;rw[dO]at hf;have hf2:vs.all aa=true:=hf.symm;have hz:pH ⟨gs,vs,es⟩=es.all (MH gs.length vs.length):=by simp only[pH,hf1,hf2,cB]
     rw[hz];clear hf hR hz;refine fq (aN @l2 @l3) ?_;refine aq (α:=Nat) (fun i=>es.length-i) (fun i=>⟨[(1, .p 1000 0 0),(42, .v (.sl (es.map dS.pv))),(43,E' es.length),(44,E' i)],[(1000,⟨0,[.v (.sl (gs.map gV)), .v (.sl (vs.map dE)), .v (.sl (es.map dS.pv))],false,none⟩)],_⟩) (fun i=>i<=es.length/\(es.drop i).all (MH gs.length vs.length)=es.all (MH gs.length vs.length)) 0 (fun _=>aB _) ⟨aT _,rfl⟩ ?_ ?_
     ·exact lE
     ·rintro i ⟨hi,hf⟩ R hR
      by_cases hlt:i<es.length
      ·have e1:=getD_map dS.pv es jz hlt;have q4:=(bq _ (aG jz hlt)).1;have hgo:=fun h=>hR (i+1) ⟨oO,h⟩ oO
       rw[bL jz hlt,List.all_cons]at hf;obtain⟨x,hx⟩: ∃x,x=es.getD i jz:=⟨_,rfl⟩;rw[<-hx]at e1 q4 hf;obtain⟨gr,tg,ts⟩:=x;simp only at q4;have v1:=aD tg;have l4:(ts.map fS.pv).length=ts.length:=aR ..;simp only[dS.pv]at e1;clear hR hx
       cases hg:(decide (0<=gr)&&decide (gr<gs.length)&&aa tg)with
       |false=>
        have hq:MH gs.length vs.length ⟨gr,tg,ts⟩=false:=by simp only[MH,hg,fp]
        rw[hq,fp]at hf;rw[<-hf];clear hgo hf hq;generalize aa tg=b1 at*;repeat' first|simp only[go_sem,seval,l1,l3,e1]|refine cP v1 ?_|refine oE ?_|apply xX<;>intro hc
        all_goals simp_all
        all_goals omega
       |true=>
        have hq:MH gs.length vs.length ⟨gr,tg,ts⟩=ts.all (R7 vs.length):=by simp only[MH,hg,cB]
        rw[hq]at hf;simp only[aV,bc]at hg;obtain⟨⟨g1,g2⟩,vt⟩:=hg;rw[vt]at v1;have hd1:decide (gr<0)=false:=b9 oO;have hd2:decide (gr>=(gs.length:Int))=false:=b9 oO;clear hq g1 g2 vt;refine Hx (aN @l1 (aN @l3 (aN @l4 (aN @e1 (aN @hd1 @hd2))))) @v1 ?_;refine aq (α:=Nat) (fun i=>ts.length-i) (fun j=>⟨[(1, .p 1000 0 0),(42, .v (.sl (es.map dS.pv))),(43,E' es.length),(44,E' i),(66, .v (.sl (ts.map fS.pv))),(67,E' ts.length),(68,E' j)],[(1000,⟨0,[.v (.sl (gs.map gV)), .v (.sl (vs.map dE)), .v (.sl (es.map dS.pv))],false,none⟩)],_⟩) (fun i=>i<=ts.length/\(ts.drop i).all (R7 vs.length)=ts.all (R7 vs.length)) 0 (fun _=>aB _) ⟨aT _,rfl⟩ ?_ ?_
        ·exact lE
        ·rintro j ⟨hj,hk⟩ R' hR'
         by_cases hjt:j<ts.length
         ·have e2:=getD_map fS.pv ts jl hjt;have hgo':=fun h=>hR' (j+1) ⟨oO,h⟩ oO
          rw[bL jl hjt,List.all_cons]at hk;obtain⟨y,hy⟩: ∃y,y=ts.getD j jl:=⟨_,rfl⟩;rw[<-hy]at e2 hk;obtain⟨b,v,n,a⟩:=y;have v2:=aD b;have v3:=ib n a;rw[show(aa a&& !(n&&a==[]))=dh (n,a)from rfl]at v3
          simp only[fS.pv]at e2;clear hR' hy
          cases ht:R7 vs.length ⟨b,v,n,a⟩with
          |true=>
           rw[ht,cB]at hk;simp only[R7,aV,bc]at ht;obtain⟨⟨t1,t2⟩,t3,t4⟩:=ht;rw[t3]at v2;rw[t4]at v3;have hd3:decide (v<0)=false:=b9 oO;have hd4:decide (v>=(vs.length:Int))=false:=b9 oO;refine zS (aN @l2 (aN @l4 (aN @e2 (aN @hd3 @hd4)))) @v2 @v3 ?_;refine hgo' hk _ ?_;exact lE
          |false=>
           rw[ht,fp]at hk;rw[<-hk,fp]at hf;rw[<-hf];simp only[R7]at ht;clear hgo' hgo hk hf;generalize aa b=b1 at*;generalize dh (n,a)=b2 at*;repeat' first|simp only[go_sem,seval,l2,l4,e2]|refine cP v2 ?_|refine cP v3 ?_|refine oE ?_|apply xX<;>intro hc
           all_goals simp_all
           all_goals omega
         ·obtain rfl:j=ts.length:=oO;rw[dO]at hk;rw[<-hk]at hf;refine eJ (aN @l3 @l4) ?_;refine hgo hf _ ?_;exact lE
      ·obtain rfl:i=es.length:=oO;rw[dO]at hf;rw[<-hf];exact oo @l3
def Kk (s:cY):Bool:=decide (8<s.groups.length)||(decide (64<s.vars.length)||(decide (64<s.eqs.length)||s.eqs.any fun q=>decide (64<q.terms.length)))
theorem Q1 {s:cY} (hb:TI s):aF 319 [s.pv] (E (if Kk s then 6 else 0)):=by
 have h1:=uf s.eqs _ _ (by have:=hb.ne;omega) Q2
 obtain⟨gs,vs,es⟩:=s;have ng:=hb.ng;have nv:=hb.nv;have ne:=hb.ne;simp only at ng nv ne h1;have l1:(gs.map gV).length=gs.length:=aR ..;have l2:(vs.map dE).length=vs.length:=aR ..;have l3:(es.map dS.pv).length=es.length:=aR ..;clear hb;unfold cY.pv Kk;simp only;generalize (es.any fun q=>decide (64<q.terms.length))=b at*
 have d1:decide ((gs.length:Int)>8)=decide (8<gs.length):=by rw[jm];omega
 have d2:decide ((vs.length:Int)>64)=decide (64<vs.length):=by rw[jm];omega
 have d3:decide ((es.length:Int)>64)=decide (64<es.length):=by rw[jm];omega
 refine eW call319 func319 ?_;repeat' first|simp only[go_sem,seval,l1,l2,l3,d1,d2,d3]|refine cP h1 ?_|refine oE ?_|apply xX<;>intro hc
 all_goals simp_all
 all_goals omega
def jA (s:cY) (q:dS):Bytes×Bytes:=s.groups.getD q.jA.toNat iC
def JV (gs:List (Bytes×Bytes)) (q:dS):Bool:=Cd (gs.getD q.jA.toNat iC).1 (gs.getD q.jA.toNat iC).2 q.tgt&&q.terms.all fun t=>Cd (gs.getD q.jA.toNat iC).1 (gs.getD q.jA.toNat iC).2 t.base
def gC (g:Bytes×Bytes):Bool:=decide (gE g.1 g.2=0)
def B5 (s:cY):Bool:=s.groups.all gC&&s.eqs.all (JV s.groups)
theorem MI {ng nv:Nat} {q:dS} (h:MH ng nv q=true):0<=q.jA/\q.jA<ng/\ ∀t∈q.terms,0<=t.var/\t.var<nv/\aa t.base=true/\dh (t.neg,t.abs)=true:=by
 simp only[MH,aV,bc]at h;refine⟨h.1.1.1,h.1.1.2,fun t ht=> ?_⟩
 have:=bJ.1 h.2 t ht;simp only[R7,aV,bc]at this;exact⟨this.1.1,this.1.2,this.2.1,this.2.2⟩
theorem Gx {s:cY} (hb:TI s) (hf:pH s=true):aF 320 [s.pv] (E (if B5 s then 0 else 13)):=by
 obtain⟨gs,vs,es⟩:=s;obtain⟨bg,-,bq,ng,nv,ne⟩:=hb;simp only[pH,aV]at bg bq ng nv ne hf;have hq:=bJ.1 hf.2.2;have l1:(gs.map gV).length=gs.length:=aR ..;have l3:(es.map dS.pv).length=es.length:=aR ..;clear hf;unfold cY.pv;simp only;refine eW call320 func320 ?_;refine fq @l1 ?_;refine aq (α:=Nat) (fun i=>gs.length-i) (fun i=>⟨[(1, .p 1000 0 0),(9, .v (.sl (gs.map gV))),(10,E' gs.length),(11,E' i)],[(1000,⟨0,[.v (.sl (gs.map gV)), .v (.sl (vs.map dE)), .v (.sl (es.map dS.pv))],false,none⟩)],_⟩) (fun i=>i<=gs.length/\(gs.drop i).all gC=gs.all gC) 0 (fun _=>aB _) ⟨aT _,rfl⟩ ?_ ?_
 ·exact lE
 ·rintro i ⟨hi,hf⟩ R hR
  by_cases hlt:i<gs.length
  ·have e1:=getD_map gV gs iC hlt;have k:=bg _ (aG iC hlt);have hgo:=fun h=>hR (i+1) ⟨oO,h⟩ oO
   rw[bL iC hlt,List.all_cons]at hf;obtain⟨x,hx⟩: ∃x,x=gs.getD i iC:=⟨_,rfl⟩;rw[<-hx]at e1 k hf;obtain⟨m,o⟩:=x;have v1:=nS k.1 k.2;clear hR hx k;simp only[gV]at e1;simp only[gC]at hf
   by_cases hg:gE m o=0
   ·rw[hg]at v1;rw[aS hg,cB]at hf;refine qN (aN @l1 @e1) @v1 ?_;refine hgo hf _ ?_;exact lE
   ·rw[b9 hg,fp]at hf;have hz:B5 ⟨gs,vs,es⟩=false:=by
     simp only[B5,Dy];exact .inl hf.symm
    have hb:(gE m o !=0)=true:=by simpa using hg
    rw[hz];clear hgo hf hz;generalize gE m o=z at*;exact ot (aN @l1 (aN @e1 @hb)) @v1
  ·obtain rfl:i=gs.length:=oO;rw[dO]at hf;have hf1:gs.all gC=true:=hf.symm;have hz:B5 ⟨gs,vs,es⟩=es.all (JV gs):=by simp only[B5,hf1,cB]
   rw[hz];clear hf hR hz hf1;refine fq (aN @l1 @l3) ?_;refine aq (α:=Nat) (fun i=>es.length-i) (fun i=>⟨[(1, .p 1000 0 0),(20, .v (.sl (es.map dS.pv))),(21,E' es.length),(22,E' i)],[(1000,⟨0,[.v (.sl (gs.map gV)), .v (.sl (vs.map dE)), .v (.sl (es.map dS.pv))],false,none⟩)],_⟩) (fun i=>i<=es.length/\(es.drop i).all (JV gs)=es.all (JV gs)) 0 (fun _=>aB _) ⟨aT _,rfl⟩ ?_ ?_
   ·exact lE
   ·rintro i ⟨hi,hf⟩ R hR
    by_cases hlt:i<es.length
    ·have e1:=getD_map dS.pv es jz hlt;obtain⟨q1,q2,-⟩:=MI (hq _ (aG jz hlt));have q4:=(bq _ (aG jz hlt)).1;have hgo:=fun h=>hR (i+1) ⟨oO,h⟩ oO
     rw[bL jz hlt,List.all_cons]at hf;obtain⟨x,hx⟩: ∃x,x=es.getD i jz:=⟨_,rfl⟩;rw[<-hx]at e1 q1 q2 q4 hf;obtain⟨gr,tg,ts⟩:=x;simp only at q1 q2 q4;have hgl:gr.toNat<gs.length:=oO;have kg:=bg _ (aG iC hgl);have e3:=getD_map gV gs iC hgl;simp only[JV]at hf;obtain⟨z,hz⟩: ∃z,z=gs.getD gr.toNat iC:=⟨_,rfl⟩;rw[<-hz]at kg e3 hf;obtain⟨m,o⟩:=z;simp only at kg hf;have v1:=MY kg.1 kg.2 tg;have v2:=ug ts _ _ _ oO (QU kg.1 kg.2);have hn:(ts.any fun t=> !Cd m o t.base)= !ts.all fun t=>Cd m o t.base:=jD ..
     rw[hn]at v2;simp only[gV]at e3 v2;simp only[dS.pv]at e1;clear hR hx hz kg hn hq bq bg;generalize Cd m o tg=b1 at*;generalize (ts.all fun t=>Cd m o t.base)=b2 at*
     cases hbb:(b1&&b2)with
     |true=>
      rw[hbb,cB]at hf;simp only[aV]at hbb;obtain⟨rfl,rfl⟩:=hbb;repeat' first|simp only[go_sem,seval,l1,l3,e1,e3,aX]|refine cP v1 ?_|refine cV v2 ?_|refine oE ?_|apply xX<;>intro hc
      refine hgo hf _ ?_;exact lE
     |false=>
      rw[hbb,fp]at hf;rw[<-hf];clear hgo hf;repeat' first|simp only[go_sem,seval,l1,l3,e1,e3,aX]|refine cP v1 ?_|refine cV v2 ?_|refine oE ?_|apply xX<;>intro hc
      all_goals simp_all
    ·obtain rfl:i=es.length:=oO;rw[dO]at hf;rw[<-hf];exact oo @l3
theorem xD (l:List fS) (f:FuncId) (c:List PV) (p:fS->Bool) (hl:l.length<4611686018427387904) (h: ∀x∈l,aF f (fS.pv x::c) (.b (p x))):aF 382 [.sl (l.map fS.pv), .fc f [] c] (E (dR p 0 l)):=by
 have hlm:(l.map fS.pv).length=l.length:=aR ..;refine eW call382 func382 ?_;refine fq @hlm ?_;refine aq (α:=Nat) (fun i=>l.length-i) (fun i=>⟨[(0, .v (.sl (l.map fS.pv))),(1, .v (.fc f [] c)),(7, .v (.i .i64 l.length)),(8, .v (.i .i64 (i:Nat)))],[],_⟩) (fun i=>i<=l.length/\dR p i (l.drop i)=dR p 0 l) 0 (fun _=>aB _) ⟨aT _,rfl⟩ ?_ ?_
 ·exact lE
 ·rintro i ⟨hi,hx⟩ R hR;rw[<-hx]
  by_cases hlt:i<l.length
  ·have e1:=getD_map fS.pv l jl hlt;have hf:=h (l.getD i jl) (aG jl hlt);have hgo:=hR (i+1);rw[<-hx,bL jl hlt]at hgo;rw[bL jl hlt];simp only[dR]at hgo⊢;clear hx hR h;obtain⟨b,hb⟩: ∃b,b=p (l.getD i jl):=⟨_,rfl⟩;rw[<-hb]at hf hgo⊢;clear hb;obtain⟨x,hxx⟩: ∃x,x=l.getD i jl:=⟨_,rfl⟩;rw[<-hxx]at e1 hf;clear hxx;obtain⟨tb,tv,tn,ta⟩:=x;simp only[fS.pv]at e1 hf;cases b
   ·have hgo:=hgo ⟨oO,rfl⟩ oO;repeat' first|simp only[go_sem,seval,hlm,e1]|(refine iw hf (lH _ _) ?_)|refine oE ?_|apply xX<;>intro hc
    refine hgo _ ?_;exact lE
   ·repeat' first|simp only[go_sem,seval,hlm,e1]|(refine iw hf (lH _ _) ?_)|refine oE ?_|apply xX<;>intro hc
    all_goals rfl
  ·obtain rfl:i=l.length:=oO;rw[dO];repeat' first|simp only[go_sem,seval,hlm]|refine oE ?_|apply xX<;>intro hc
   all_goals simp[dR]
theorem rW (l:List fS) (f:FuncId) (c:List PV) (p:fS->Bool) (hl:l.length<4611686018427387904) (h: ∀x∈l,aF f (fS.pv x::c) (.b (p x))):aF 359 [.sl (l.map fS.pv), .fc f [] c] (.b (l.any p)):=by
 have hi:=xD l f c p hl h;have e:decide (dR p 0 l>=0)=l.any p:=by
  rw[cI,decide_eq_true_iff];exact jd
 refine eW call359 func359 ?_;exact ot @e @hi
theorem xC (l:List (Bytes×Bytes)) (f:FuncId) (c:List PV) (p:(Bytes×Bytes)->Bool) (hl:l.length<4611686018427387904) (h: ∀x∈l,aF f (gV x::c) (.b (p x))):aF 173 [.sl (l.map gV), .fc f [] c] (E (dR p 0 l)):=by
 have hlm:(l.map gV).length=l.length:=aR ..;refine eW call173 func173 ?_;refine fq @hlm ?_;refine aq (α:=Nat) (fun i=>l.length-i) (fun i=>⟨[(0, .v (.sl (l.map gV))),(1, .v (.fc f [] c)),(7, .v (.i .i64 l.length)),(8, .v (.i .i64 (i:Nat)))],[],_⟩) (fun i=>i<=l.length/\dR p i (l.drop i)=dR p 0 l) 0 (fun _=>aB _) ⟨aT _,rfl⟩ ?_ ?_
 ·exact lE
 ·rintro i ⟨hi,hx⟩ R hR;rw[<-hx]
  by_cases hlt:i<l.length
  ·have e1:=getD_map gV l iC hlt;have hf:=h (l.getD i iC) (aG iC hlt);have hgo:=hR (i+1);rw[<-hx,bL iC hlt]at hgo;rw[bL iC hlt];simp only[dR]at hgo⊢;clear hx hR h;obtain⟨b,hb⟩: ∃b,b=p (l.getD i iC):=⟨_,rfl⟩;rw[<-hb]at hf hgo⊢;clear hb;obtain⟨x,hxx⟩: ∃x,x=l.getD i iC:=⟨_,rfl⟩;rw[<-hxx]at e1 hf;clear hxx;obtain⟨gm,go⟩:=x;simp only[gV]at e1 hf;cases b
   ·have hgo:=hgo ⟨oO,rfl⟩ oO;repeat' first|simp only[go_sem,seval,hlm,e1]|(refine iw hf (lH _ _) ?_)|refine oE ?_|apply xX<;>intro hc
    refine hgo _ ?_;exact lE
   ·repeat' first|simp only[go_sem,seval,hlm,e1]|(refine iw hf (lH _ _) ?_)|refine oE ?_|apply xX<;>intro hc
    all_goals rfl
  ·obtain rfl:i=l.length:=oO;rw[dO];repeat' first|simp only[go_sem,seval,hlm]|refine oE ?_|apply xX<;>intro hc
   all_goals simp[dR]
theorem rV (l:List (Bytes×Bytes)) (f:FuncId) (c:List PV) (p:(Bytes×Bytes)->Bool) (hl:l.length<4611686018427387904) (h: ∀x∈l,aF f (gV x::c) (.b (p x))):aF 324 [.sl (l.map gV), .fc f [] c] (.b (l.any p)):=by
 have hi:=xC l f c p hl h;have e:decide (dR p 0 l>=0)=l.any p:=by
  rw[cI,decide_eq_true_iff];exact jd
 refine eW call324 func324 ?_;exact ot @e @hi
theorem Bf (s:cY) (hl:s.groups.length<1000000):aF 327 [s.pv] (.s (bZ s.groups)):=by
 obtain⟨gs,vs,es⟩:=s;simp only at hl;have l1:(gs.map gV).length=gs.length:=aR ..;unfold cY.pv;simp only;refine eW call327 func327 ?_;refine fq @l1 ?_;refine aq (α:=Nat) (fun i=>gs.length-i) (fun i=>⟨[(1, .p 1000 0 0),(6, .v (.sl (gs.map gV))),(7,E' gs.length),(8,E' i)],[(1000,⟨0,[.v (.sl (gs.map gV)), .v (.sl (vs.map dE)), .v (.sl (es.map dS.pv))],false,none⟩)],_⟩) (fun i=>i<=gs.length/\bZ (gs.drop i)=bZ gs) 0 (fun _=>aB _) ⟨aT _,rfl⟩ ?_ ?_
 ·exact lE
 ·rintro i ⟨hi,hf⟩ R hR;rw[<-hf]
  by_cases hlt:i<gs.length
  ·have e1:=getD_map gV gs iC hlt;have hgo:=hR (i+1);rw[<-hf]at hgo;rw[bL iC hlt]at hgo⊢;obtain⟨x,hx⟩: ∃x,x=gs.getD i iC:=⟨_,rfl⟩;rw[<-hx]at e1 hgo⊢;clear hx hf hR;obtain⟨m,o⟩:=x;simp only[bZ]at hgo⊢;simp only[gV]at e1
   by_cases ho:o=[]
   ·subst ho;simp only[aA]at hgo⊢;have hgo:=hgo ⟨oO,trivial⟩ oO;exact ua (aN @l1 (aN @e1 @nn)) @hgo
   ·have hb:(o==([]:Bytes))=false:=by simpa using ho
    rw[af ho];exact oo (aN @l1 (aN @e1 @hb))
  ·obtain rfl:i=gs.length:=oO;rw[dO];exact oo @l1
def Kq (q:Bytes) (g:Bytes×Bytes):Bool:= !(g.2==[])&& !(g.2==q)
def EO (vs:List Bytes) (t:fS):Bool:=vs.getD t.var.toNat []==[]
def Mc (gs:List (Bytes×Bytes)) (vs:List Bytes) (q:dS):Bool:=(gs.getD q.jA.toNat iC).2==[]&&q.terms.any (EO vs)
def EL (s:cY):Bool:= !(s.vars.any fun b=>b==[])||(!(bZ s.groups==[])&& !(s.groups.any (Kq (bZ s.groups)))&&s.eqs.all fun q=> !Mc s.groups s.vars q)
theorem U0 (q:Bytes) (g:Bytes×Bytes):aF 362 [gV g, .pt (.agg [.s q]) 0] (.b (Kq q g)):=by
 obtain⟨m,o⟩:=g;simp only[gV,Kq];refine eW call362 func362 ?_;repeat' first|simp only[go_sem,seval,bne]|refine oE ?_|apply xX<;>intro hc
 all_goals simp_all[bne]
theorem U1 {s:cY} {t:fS} (h0:0<=t.var) (h1:t.var<s.vars.length):aF 363 [t.pv, .pt s.pv 0] (.b (EO s.vars t)):=by
 obtain⟨gs,vs,es⟩:=s;obtain⟨b,v,n,a⟩:=t;simp only at h0 h1;have l2:(vs.map dE).length=vs.length:=aR ..;have e1:=getD_map dE vs [] (i:=v.toNat) oO;simp only[cY.pv,fS.pv,EO,dE]at*;refine eW call363 func363 ?_;exact oo (aN @l2 @e1)
theorem QX {s:cY} (hb:TI s) (hf:pH s=true):aF 321 [s.pv] (E (if EL s then 0 else 10)):=by
 have h1:=uh s.vars _ _ (by have:=hb.nv;omega) UZ
 have hor:=Bf s (by have:=hb.ng;omega)
 have h2:=rV s.groups _ _ _ (by have:=hb.ng;omega) fun x _=>U0 (bZ s.groups) x
 have h3:=fun q (hq:q∈s.eqs)=>rW q.terms 363 [.pt s.pv 0] (EO s.vars) (by have:=(hb.q q hq).1;omega) fun t ht=>by
  simp only[pH,aV]at hf;obtain⟨-,-,k⟩:=MI (bJ.1 hf.2.2 q hq);exact U1 (k t ht).1 (k t ht).2.1
 have ng:=hb.ng;have ne:=hb.ne;have bq:=hb.q;obtain⟨gs,vs,es⟩:=s;simp only[pH,aV]at hf ng ne bq;have hq:=bJ.1 hf.2.2;have l1:(gs.map gV).length=gs.length:=aR ..;have l3:(es.map dS.pv).length=es.length:=aR ..;unfold EL;simp only at*;clear hb hf;generalize (vs.any fun b=>b==[])=bv at*
 generalize bZ gs=q at*;generalize (gs.any (Kq q))=bo at*;unfold cY.pv at*;simp only at*;cases bv
 ·refine eW call321 func321 ?_;exact z1 @h1
 by_cases hq0:q=[]
 ·subst hq0;refine eW call321 func321 ?_;repeat' first|simp only[go_sem,seval,aX,nn]|refine cP h1 ?_|refine cP hor ?_|refine cV h2 ?_|refine oE ?_|apply xX<;>intro hc
  all_goals rfl
 have hb:(q==([]:Bytes))=false:=by simpa using hq0
 rw[hb];simp only[cQ,db,cB,kE];cases bo
 ·refine eW call321 func321 ?_;repeat' first|simp only[go_sem,seval,aX,hb]|refine cP h1 ?_|refine cP hor ?_|refine cV h2 ?_|refine oE ?_|apply xX<;>intro hc
  refine aq (α:=Nat) (fun i=>es.length-i) (fun i=>⟨[(1, .p 1000 0 0),(21, .v (.sl (es.map dS.pv))),(22,E' es.length),(23,E' i)],[(1000,⟨0,[.v (.sl (gs.map gV)), .v (.sl (vs.map dE)), .v (.sl (es.map dS.pv))],false,none⟩)],_⟩) (fun i=>i<=es.length/\((es.drop i).all fun q=> !Mc gs vs q)=es.all fun q=> !Mc gs vs q) 0 (fun _=>aB _) ⟨aT _,rfl⟩ ?_ ?_
  ·exact lE
  ·rintro i ⟨hi,hf⟩ R hR
   by_cases hlt:i<es.length
   ·have e1:=getD_map dS.pv es jz hlt;have v2:=h3 _ (aG jz hlt);obtain⟨q1,q2,-⟩:=MI (hq _ (aG jz hlt));have hgo:=fun h=>hR (i+1) ⟨oO,h⟩ oO
    rw[bL jz hlt,List.all_cons]at hf;obtain⟨x,hx⟩: ∃x,x=es.getD i jz:=⟨_,rfl⟩;rw[<-hx]at e1 q1 q2 v2 hf;obtain⟨gr,tg,ts⟩:=x;simp only at q1 q2 v2;have hgl:gr.toNat<gs.length:=oO;have e3:=getD_map gV gs iC hgl;have hbq:Mc gs vs ⟨gr,tg,ts⟩=((gs.getD gr.toNat iC).2==[]&&ts.any (EO vs)):=rfl;rw[hbq]at hf;obtain⟨z,hz⟩: ∃z,z=gs.getD gr.toNat iC:=⟨_,rfl⟩;rw[<-hz]at e3 hf;obtain⟨m,o⟩:=z;simp only at hf;simp only[gV]at e3;simp only[dS.pv]at e1;clear hR hx hz h3 hq bq h1 h2 hor;generalize ts.any (EO vs)=bt at*
    by_cases ho:o=[]
    ·subst ho;cases bt
     ·simp only[nn,qF,db,cB]at hf;repeat' first|simp only[go_sem,seval,l1,l3,e1,e3,aX,nn,qI]|refine cV v2 ?_|refine oE ?_|apply xX<;>intro hc
      refine hgo hf _ ?_;exact lE
     ·simp only[nn,js,cQ,fp]at hf;rw[<-hf];repeat' first|simp only[go_sem,seval,l1,l3,e1,e3,aX,nn,qI]|refine cV v2 ?_|refine oE ?_|apply xX<;>intro hc
      all_goals rfl
    ·have hob:(o==([]:Bytes))=false:=by simpa using ho
     have hob2:(o !=([]:Bytes))=true:=by simpa using ho
     simp only[hob,fp,db,cB]at hf;repeat' first|simp only[go_sem,seval,l1,l3,e1,e3,aX,hob,hob2]|refine cV v2 ?_|refine oE ?_|apply xX<;>intro hc
     refine hgo hf _ ?_;exact lE
   ·obtain rfl:i=es.length:=oO;rw[dO]at hf;rw[<-hf];exact oo @l3
 ·refine eW call321 func321 ?_;repeat' first|simp only[go_sem,seval,aX,hb]|refine cP h1 ?_|refine cP hor ?_|refine cV h2 ?_|refine oE ?_|apply xX<;>intro hc
  all_goals rfl
def Nu (s:cY):Int:=if !pH s then 3 else if Kk s then 6 else if !B5 s then 13 else if !EL s then 10 else 0
theorem Ii {s:cY} (hb:TI s):aF 249 [s.pv] (E (Nu s)):=by
 have h1:=Nw hb;have h2:=Q1 hb;have h3:=Gx hb;have h4:=QX hb;clear hb;unfold Nu;unfold cY.pv at*;generalize pH s=b1 at*;generalize Kk s=b2 at*;generalize B5 s=b3 at*;generalize EL s=b4 at*;cases b1
 ·refine eW call249 func249 ?_;exact Wn @h1 @h2
 have h3:=h3 rfl;have h4:=h4 rfl;cases b2
 ·cases b3
  ·refine eW call249 func249 ?_;exact zu3 @h1 @h2 @h3
  ·cases b4<;>
   ·refine eW call249 func249 ?_;exact zu4 @h1 @h2 @h3 @h4
 ·refine eW call249 func249 ?_;exact Wn @h1 @h2
structure DZ (s:cY):Prop where
 b:TI s
 g: ∀p∈s.groups,gE p.1 p.2=0/\p.1.length<=8/\p.2.length<=8
 v: ∀b∈s.vars,aa b=true/\b.length<=16
 q: ∀q∈s.eqs,0<=q.jA/\q.jA<s.groups.length/\lf (s.groups.getD q.jA.toNat iC).1 (s.groups.getD q.jA.toNat iC).2 q.tgt=true/\q.terms.length<=64/\
  ∀t∈q.terms,0<=t.var/\t.var<s.vars.length/\lf (s.groups.getD q.jA.toNat iC).1 (s.groups.getD q.jA.toNat iC).2 t.base=true/\dh (t.neg,t.abs)=true
 ng:s.groups.length<=8
 nv:s.vars.length<=64
 ne:s.eqs.length<=64
 k:EL s=true
theorem DZ.m {s:cY} (h:DZ s):Y5 s:=⟨h.g,h.q,h.ng,h.nv,h.ne⟩
theorem DZ.ck {s:cY} (h:DZ s):Nu s=0:=by
 have e1:pH s=true:=by
  simp only[pH,aV,bJ];refine⟨fun p hp=> ?_,fun b hb=>(h.v b hb).1,fun q hq=> ?_⟩
  ·obtain⟨vm,vo,-⟩:=qJ (h.g p hp).1;simp[gB,vm,vo]
  ·obtain⟨q1,q2,q3,q4,q5⟩:=h.q q hq;have hg:=(h.g _ (aG iC (show q.jA.toNat<s.groups.length by omega))).1
   simp only[MH,aV,bc,bJ];refine⟨⟨⟨q1,q2⟩,rv hg q3⟩,fun t ht=> ?_⟩
   obtain⟨t1,t2,t3,t4⟩:=q5 t ht;simp only[R7,aV,bc];exact⟨⟨t1,t2⟩,rv hg t3,t4⟩
 have e2:Kk s=false:=by
  simp only[Kk,DB,kS,wP,bc];exact⟨by have:=h.ng;omega,by have:=h.nv;omega,by have:=h.ne;omega,fun q hq=>by have:=(h.q q hq).2.2.2.1;omega⟩
 have e3:B5 s=true:=by
  simp only[B5,aV,bJ];refine⟨fun p hp=>by simp[gC,(h.g p hp).1],fun q hq=> ?_⟩
  obtain⟨q1,q2,q3,q4,q5⟩:=h.q q hq;have hg:=(h.g _ (aG iC (show q.jA.toNat<s.groups.length by omega))).1
  simp only[JV,Cd,hg,decide_true,cB,aV,bJ];exact⟨q3,fun t ht=>(q5 t ht).2.2.1⟩
 unfold Nu;rw[e1,e2,e3,h.k];rfl
