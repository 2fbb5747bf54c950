/- Part of the proof. -/
import Derived.Test.YtkmahpcpmgedkaaGreatDoorFC26
set_option linter.all false
set_option maxHeartbeats 16000000
set_option maxRecDepth 100000
namespace Go.Proofs.Tryz
open Go Go.Dom Go.Num
structure Wx (s:cU):Prop where
 g: ∀p∈s.groups,p.1.length<=8/\p.2.length<=8
 v: ∀b∈s.vars,b.length<=16
 q: ∀q∈s.eqs,q.terms.length<=1000/\ ∀t∈q.terms,t.abs.length<=16
 ng:s.groups.length<=1000
 nv:s.vars.length<=1000
 ne:s.eqs.length<=1000
def gB (g:Bytes×Bytes):Bool:=aa g.1&&aa g.2
def Sr (nv:Nat) (t:eT):Bool:=(decide (0<=t.var)&&decide (t.var<nv))&&(aa t.base&&cz (t.neg,t.abs))
def MB (ng nv:Nat) (q:dx):Bool:=(decide (0<=q.mS)&&decide (q.mS<ng)&&aa q.tgt)&&q.terms.all (Sr nv)
def pW (s:cU):Bool:=s.groups.all gB&&(s.vars.all aa&&s.eqs.all (MB s.groups.length s.vars.length))
theorem Np {s:cU} (hb:Wx s):aE 367 [s.pv] (E (if pW s then 0 else 3)):=by
 obtain⟨gs,vs,es⟩:=s;obtain⟨-,-,bq,ng,nv,ne⟩:=hb;simp only at bq ng nv ne;have l1:(gs.map eB).length=gs.length:=aC ..;have l2:(vs.map cO).length=vs.length:=aC ..;have l3:(es.map dx.pv).length=es.length:=aC ..;unfold cU.pv;simp only;refine eW call367 func367 ?_;refine dH @l1 ?_;refine af (α:=Nat) (fun i=>gs.length-i) (fun i=>⟨[(1, .p 1000 0 0),(12, .v (.sl (gs.map eB))),(13,E' gs.length),(14,E' i)],[(1000,⟨0,[.v (.sl (gs.map eB)), .v (.sl (vs.map cO)), .v (.sl (es.map dx.pv))],false,none⟩)],_⟩) (fun i=>i<=gs.length/\(gs.drop i).all gB=gs.all gB) 0 (fun _=>aA _) ⟨aI _,rfl⟩ ?_ ?_
 ·exact lE
 ·rintro i ⟨hi,hf⟩ R hR
  by_cases hlt:i<gs.length
  ·have e1:=getD_map eB gs fj hlt;have hgo:=fun h=>hR (i+1) ⟨oO,h⟩ oO
   rw[aW fj hlt,List.all_cons]at hf;obtain⟨x,hx⟩: ∃x,x=gs.getD i fj:=⟨_,rfl⟩;rw[<-hx]at e1 hf;obtain⟨m,o⟩:=x;have v1:=aT m;have v2:=aT o;clear hR hx;simp only[eB]at e1
   cases hg:gB (m,o)with
   |true=>
    rw[hg,cr]at hf;obtain⟨vm,vo⟩:aa m=true/\aa o=true:=by simpa[gB]using hg
    rw[vm]at v1;rw[vo]at v2;refine qC (aN @l1 @e1) @v1 @v2 ?_;refine hgo hf _ ?_;exact lE
   |false=>
    rw[hg,dK]at hf;have hz:pW ⟨gs,vs,es⟩=false:=by simp only[pW,<-hf,dK]
    rw[hz];have hg:(aa m&&aa o)=false:=hg;clear hgo hf hz;generalize aa m=b1 at*;generalize aa o=b2 at*;exact Wn (aN @l1 @e1) @v1 @v2
  ·obtain rfl:i=gs.length:=oO;rw[da]at hf;have hf1:gs.all gB=true:=hf.symm;clear hf hR;refine dH (aN @l1 @l2) ?_;refine af (α:=Nat) (fun i=>vs.length-i) (fun i=>⟨[(1, .p 1000 0 0),(30, .v (.sl (vs.map cO))),(31,E' vs.length),(32,E' i)],[(1000,⟨0,[.v (.sl (gs.map eB)), .v (.sl (vs.map cO)), .v (.sl (es.map dx.pv))],false,none⟩)],_⟩) (fun i=>i<=vs.length/\(vs.drop i).all aa=vs.all aa) 0 (fun _=>aA _) ⟨aI _,rfl⟩ ?_ ?_
   ·exact lE
   ·rintro i ⟨hi,hf⟩ R hR
    by_cases hlt:i<vs.length
    ·have e1:=getD_map cO vs [] hlt;have hgo:=fun h=>hR (i+1) ⟨oO,h⟩ oO
     rw[aW [] hlt,List.all_cons]at hf;generalize vs.getD i []=x at*;have v1:=aT x;clear hR;simp only[cO]at e1
     cases hg:aa x with
     |true=>
      rw[hg]at v1;rw[hg,cr]at hf;refine jm (aN @l2 @e1) @v1 ?_;refine hgo hf _ ?_;exact lE
     |false=>
      rw[hg]at v1;rw[hg,dK]at hf;have hz:pW ⟨gs,vs,es⟩=false:=by simp only[pW,<-hf,dK,ur]
      rw[hz];clear hgo;exact m9 (aN @l2 @e1) @v1
    ·obtain rfl:i=vs.length:=oO;rw[da]at hf;have hf2:vs.all aa=true:=hf.symm;have hz:pW ⟨gs,vs,es⟩=es.all (MB gs.length vs.length):=by simp only[pW,hf1,hf2,cr]
     rw[hz];clear hf hR hz;refine dH (aN @l2 @l3) ?_;refine af (α:=Nat) (fun i=>es.length-i) (fun i=>⟨[(1, .p 1000 0 0),(42, .v (.sl (es.map dx.pv))),(43,E' es.length),(44,E' i)],[(1000,⟨0,[.v (.sl (gs.map eB)), .v (.sl (vs.map cO)), .v (.sl (es.map dx.pv))],false,none⟩)],_⟩) (fun i=>i<=es.length/\(es.drop i).all (MB gs.length vs.length)=es.all (MB gs.length vs.length)) 0 (fun _=>aA _) ⟨aI _,rfl⟩ ?_ ?_
     ·exact lE
     ·rintro i ⟨hi,hf⟩ R hR
      by_cases hlt:i<es.length
      ·have e1:=getD_map dx.pv es hG hlt;have q4:=(bq _ (an hG hlt)).1;have hgo:=fun h=>hR (i+1) ⟨oO,h⟩ oO
       rw[aW hG hlt,List.all_cons]at hf;obtain⟨x,hx⟩: ∃x,x=es.getD i hG:=⟨_,rfl⟩;rw[<-hx]at e1 q4 hf;obtain⟨gr,tg,ts⟩:=x;simp only at q4;have v1:=aT tg;have l4:(ts.map eT.pv).length=ts.length:=aC ..;simp only[dx.pv]at e1;clear hR hx
       cases hg:(decide (0<=gr)&&decide (gr<gs.length)&&aa tg)with
       |false=>
        have hq:MB gs.length vs.length ⟨gr,tg,ts⟩=false:=by simp only[MB,hg,dK]
        rw[hq,dK]at hf;rw[<-hf];clear hgo hf hq;generalize aa tg=b1 at*;repeat' first|simp only[go_sem,seval,l1,l3,e1]|refine cP v1 ?_|refine oE ?_|apply xX<;>intro hc
        all_goals simp_all
        all_goals omega
       |true=>
        have hq:MB gs.length vs.length ⟨gr,tg,ts⟩=ts.all (Sr vs.length):=by simp only[MB,hg,cr]
        rw[hq]at hf;simp only[ba,cK]at hg;obtain⟨⟨g1,g2⟩,vt⟩:=hg;rw[vt]at v1;have hd1:decide (gr<0)=false:=aG oO;have hd2:decide (gr>=(gs.length:Int))=false:=aG oO;clear hq g1 g2 vt;refine oZ (aN @l1 (aN @l3 (aN @l4 (aN @e1 (aN @hd1 @hd2))))) @v1 ?_;refine af (α:=Nat) (fun i=>ts.length-i) (fun j=>⟨[(1, .p 1000 0 0),(42, .v (.sl (es.map dx.pv))),(43,E' es.length),(44,E' i),(66, .v (.sl (ts.map eT.pv))),(67,E' ts.length),(68,E' j)],[(1000,⟨0,[.v (.sl (gs.map eB)), .v (.sl (vs.map cO)), .v (.sl (es.map dx.pv))],false,none⟩)],_⟩) (fun i=>i<=ts.length/\(ts.drop i).all (Sr vs.length)=ts.all (Sr vs.length)) 0 (fun _=>aA _) ⟨aI _,rfl⟩ ?_ ?_
        ·exact lE
        ·rintro j ⟨hj,hk⟩ R' hR'
         by_cases hjt:j<ts.length
         ·have e2:=getD_map eT.pv ts fp hjt;have hgo':=fun h=>hR' (j+1) ⟨oO,h⟩ oO
          rw[aW fp hjt,List.all_cons]at hk;obtain⟨y,hy⟩: ∃y,y=ts.getD j fp:=⟨_,rfl⟩;rw[<-hy]at e2 hk;obtain⟨b,v,n,a⟩:=y;have v2:=aT b;have v3:=hO n a;rw[show(aa a&& !(n&&a==[]))=cz (n,a)from rfl]at v3
          simp only[eT.pv]at e2;clear hR' hy
          cases ht:Sr vs.length ⟨b,v,n,a⟩with
          |true=>
           rw[ht,cr]at hk;simp only[Sr,ba,cK]at ht;obtain⟨⟨t1,t2⟩,t3,t4⟩:=ht;rw[t3]at v2;rw[t4]at v3;have hd3:decide (v<0)=false:=aG oO;have hd4:decide (v>=(vs.length:Int))=false:=aG oO;refine qC (aN @l2 (aN @l4 (aN @e2 (aN @hd3 @hd4)))) @v2 @v3 ?_;refine hgo' hk _ ?_;exact lE
          |false=>
           rw[ht,dK]at hk;rw[<-hk,dK]at hf;rw[<-hf];simp only[Sr]at ht;clear hgo' hgo hk hf;generalize aa b=b1 at*;generalize cz (n,a)=b2 at*;repeat' first|simp only[go_sem,seval,l2,l4,e2]|refine cP v2 ?_|refine cP v3 ?_|refine oE ?_|apply xX<;>intro hc
           all_goals simp_all
           all_goals omega
         ·obtain rfl:j=ts.length:=oO;rw[da]at hk;rw[<-hk]at hf;refine dI (aN @l3 @l4) ?_;refine hgo hf _ ?_;exact lE
      ·obtain rfl:i=es.length:=oO;rw[da]at hf;rw[<-hf];exact gi @l3
def Kg (s:cU):Bool:=decide (8<s.groups.length)||(decide (64<s.vars.length)||(decide (64<s.eqs.length)||s.eqs.any fun q=>decide (64<q.terms.length)))
theorem Rg {s:cU} (hb:Wx s):aE 368 [s.pv] (E (if Kg s then 6 else 0)):=by
 have h1:=uI s.eqs _ _ (by have:=hb.ne;omega) Rh
 obtain⟨gs,vs,es⟩:=s;have ng:=hb.ng;have nv:=hb.nv;have ne:=hb.ne;simp only at ng nv ne h1;have l1:(gs.map eB).length=gs.length:=aC ..;have l2:(vs.map cO).length=vs.length:=aC ..;have l3:(es.map dx.pv).length=es.length:=aC ..;clear hb;unfold cU.pv Kg;simp only;generalize (es.any fun q=>decide (64<q.terms.length))=b at*
 have d1:decide ((gs.length:Int)>8)=decide (8<gs.length):=by rw[mD];omega
 have d2:decide ((vs.length:Int)>64)=decide (64<vs.length):=by rw[mD];omega
 have d3:decide ((es.length:Int)>64)=decide (64<es.length):=by rw[mD];omega
 refine eW call368 func368 ?_;repeat' first|simp only[go_sem,seval,l1,l2,l3,d1,d2,d3]|refine cP h1 ?_|refine oE ?_|apply xX<;>intro hc
 all_goals simp_all
 all_goals omega
def mS (s:cU) (q:dx):Bytes×Bytes:=s.groups.getD q.mS.toNat fj
def JU (gs:List (Bytes×Bytes)) (q:dx):Bool:=jb (gs.getD q.mS.toNat fj).1 (gs.getD q.mS.toNat fj).2 q.tgt&&q.terms.all fun t=>jb (gs.getD q.mS.toNat fj).1 (gs.getD q.mS.toNat fj).2 t.base
def gC (g:Bytes×Bytes):Bool:=decide (gE g.1 g.2=0)
def Cu (s:cU):Bool:=s.groups.all gC&&s.eqs.all (JU s.groups)
theorem MC {ng nv:Nat} {q:dx} (h:MB ng nv q=true):0<=q.mS/\q.mS<ng/\ ∀t∈q.terms,0<=t.var/\t.var<nv/\aa t.base=true/\cz (t.neg,t.abs)=true:=by
 simp only[MB,ba,cK]at h;refine⟨h.1.1.1,h.1.1.2,fun t ht=> ?_⟩
 have:=bH.1 h.2 t ht;simp only[Sr,ba,cK]at this;exact⟨this.1.1,this.1.2,this.2.1,this.2.2⟩
theorem GI {s:cU} (hb:Wx s) (hf:pW s=true):aE 369 [s.pv] (E (if Cu s then 0 else 13)):=by
 obtain⟨gs,vs,es⟩:=s;obtain⟨bg,-,bq,ng,nv,ne⟩:=hb;simp only[pW,ba]at bg bq ng nv ne hf;have hq:=bH.1 hf.2.2;have l1:(gs.map eB).length=gs.length:=aC ..;have l3:(es.map dx.pv).length=es.length:=aC ..;clear hf;unfold cU.pv;simp only;refine eW call369 func369 ?_;refine dH @l1 ?_;refine af (α:=Nat) (fun i=>gs.length-i) (fun i=>⟨[(1, .p 1000 0 0),(9, .v (.sl (gs.map eB))),(10,E' gs.length),(11,E' i)],[(1000,⟨0,[.v (.sl (gs.map eB)), .v (.sl (vs.map cO)), .v (.sl (es.map dx.pv))],false,none⟩)],_⟩) (fun i=>i<=gs.length/\(gs.drop i).all gC=gs.all gC) 0 (fun _=>aA _) ⟨aI _,rfl⟩ ?_ ?_
 ·exact lE
 ·rintro i ⟨hi,hf⟩ R hR
  by_cases hlt:i<gs.length
  ·have e1:=getD_map eB gs fj hlt;have k:=bg _ (an fj hlt);have hgo:=fun h=>hR (i+1) ⟨oO,h⟩ oO
   rw[aW fj hlt,List.all_cons]at hf;obtain⟨x,hx⟩: ∃x,x=gs.getD i fj:=⟨_,rfl⟩;rw[<-hx]at e1 k hf;obtain⟨m,o⟩:=x;have v1:=kL k.1 k.2;clear hR hx k;simp only[eB]at e1;simp only[gC]at hf
   by_cases hg:gE m o=0
   ·rw[hg]at v1;rw[aJ hg,cr]at hf;refine jm (aN @l1 @e1) @v1 ?_;refine hgo hf _ ?_;exact lE
   ·rw[aG hg,dK]at hf;have hz:Cu ⟨gs,vs,es⟩=false:=by
     simp only[Cu,Bool.and_eq_false_iff];exact .inl hf.symm
    have hb:(gE m o !=0)=true:=by simpa using hg
    rw[hz];clear hgo hf hz;generalize gE m o=z at*;exact m9 (aN @l1 (aN @e1 @hb)) @v1
  ·obtain rfl:i=gs.length:=oO;rw[da]at hf;have hf1:gs.all gC=true:=hf.symm;have hz:Cu ⟨gs,vs,es⟩=es.all (JU gs):=by simp only[Cu,hf1,cr]
   rw[hz];clear hf hR hz hf1;refine dH (aN @l1 @l3) ?_;refine af (α:=Nat) (fun i=>es.length-i) (fun i=>⟨[(1, .p 1000 0 0),(20, .v (.sl (es.map dx.pv))),(21,E' es.length),(22,E' i)],[(1000,⟨0,[.v (.sl (gs.map eB)), .v (.sl (vs.map cO)), .v (.sl (es.map dx.pv))],false,none⟩)],_⟩) (fun i=>i<=es.length/\(es.drop i).all (JU gs)=es.all (JU gs)) 0 (fun _=>aA _) ⟨aI _,rfl⟩ ?_ ?_
   ·exact lE
   ·rintro i ⟨hi,hf⟩ R hR
    by_cases hlt:i<es.length
    ·have e1:=getD_map dx.pv es hG hlt;obtain⟨q1,q2,-⟩:=MC (hq _ (an hG hlt));have q4:=(bq _ (an hG hlt)).1;have hgo:=fun h=>hR (i+1) ⟨oO,h⟩ oO
     rw[aW hG hlt,List.all_cons]at hf;obtain⟨x,hx⟩: ∃x,x=es.getD i hG:=⟨_,rfl⟩;rw[<-hx]at e1 q1 q2 q4 hf;obtain⟨gr,tg,ts⟩:=x;simp only at q1 q2 q4;have hgl:gr.toNat<gs.length:=oO;have kg:=bg _ (an fj hgl);have e3:=getD_map eB gs fj hgl;simp only[JU]at hf;obtain⟨z,hz⟩: ∃z,z=gs.getD gr.toNat fj:=⟨_,rfl⟩;rw[<-hz]at kg e3 hf;obtain⟨m,o⟩:=z;simp only at kg hf;have v1:=yR kg.1 kg.2 tg;have v2:=uJ ts _ _ _ oO (Q8 kg.1 kg.2);have hn:(ts.any fun t=> !jb m o t.base)= !ts.all fun t=>jb m o t.base:=np ..
     rw[hn]at v2;simp only[eB]at e3 v2;simp only[dx.pv]at e1;clear hR hx hz kg hn hq bq bg;generalize jb m o tg=b1 at*;generalize (ts.all fun t=>jb m o t.base)=b2 at*
     cases hbb:(b1&&b2)with
     |true=>
      rw[hbb,cr]at hf;simp only[ba]at hbb;obtain⟨rfl,rfl⟩:=hbb;repeat' first|simp only[go_sem,seval,l1,l3,e1,e3,aU]|refine cP v1 ?_|refine cV v2 ?_|refine oE ?_|apply xX<;>intro hc
      refine hgo hf _ ?_;exact lE
     |false=>
      rw[hbb,dK]at hf;rw[<-hf];clear hgo hf;repeat' first|simp only[go_sem,seval,l1,l3,e1,e3,aU]|refine cP v1 ?_|refine cV v2 ?_|refine oE ?_|apply xX<;>intro hc
      all_goals simp_all
    ·obtain rfl:i=es.length:=oO;rw[da]at hf;rw[<-hf];exact gi @l3
theorem yj (l:List eT) (f:FuncId) (c:List PV) (p:eT->Bool) (hl:l.length<4611686018427387904) (h: ∀x∈l,aE f (eT.pv x::c) (.b (p x))):aE 470 [.sl (l.map eT.pv), .fc f [] c] (E (eJ p 0 l)):=by
 have hlm:(l.map eT.pv).length=l.length:=aC ..;refine eW call470 func470 ?_;refine dH @hlm ?_;refine af (α:=Nat) (fun i=>l.length-i) (fun i=>⟨[(0, .v (.sl (l.map eT.pv))),(1, .v (.fc f [] c)),(7, .v (.i .i64 l.length)),(8, .v (.i .i64 (i:Nat)))],[],_⟩) (fun i=>i<=l.length/\eJ p i (l.drop i)=eJ p 0 l) 0 (fun _=>aA _) ⟨aI _,rfl⟩ ?_ ?_
 ·exact lE
 ·rintro i ⟨hi,hx⟩ R hR;rw[<-hx]
  by_cases hlt:i<l.length
  ·have e1:=getD_map eT.pv l fp hlt;have hf:=h (l.getD i fp) (an fp hlt);have hgo:=hR (i+1);rw[<-hx,aW fp hlt]at hgo;rw[aW fp hlt];simp only[eJ]at hgo⊢;clear hx hR h;obtain⟨b,hb⟩: ∃b,b=p (l.getD i fp):=⟨_,rfl⟩;rw[<-hb]at hf hgo⊢;clear hb;obtain⟨x,hxx⟩: ∃x,x=l.getD i fp:=⟨_,rfl⟩;rw[<-hxx]at e1 hf;clear hxx;obtain⟨tb,tv,tn,ta⟩:=x;simp only[eT.pv]at e1 hf;cases b
   ·have hgo:=hgo ⟨oO,rfl⟩ oO;repeat' first|simp only[go_sem,seval,hlm,e1]|(refine jn hf (nM _ _) ?_)|refine oE ?_|apply xX<;>intro hc
    refine hgo _ ?_;exact lE
   ·repeat' first|simp only[go_sem,seval,hlm,e1]|(refine jn hf (nM _ _) ?_)|refine oE ?_|apply xX<;>intro hc
    all_goals rfl
  ·obtain rfl:i=l.length:=oO;rw[da];repeat' first|simp only[go_sem,seval,hlm]|refine oE ?_|apply xX<;>intro hc
   all_goals simp[eJ]
theorem sJ (l:List eT) (f:FuncId) (c:List PV) (p:eT->Bool) (hl:l.length<4611686018427387904) (h: ∀x∈l,aE f (eT.pv x::c) (.b (p x))):aE 438 [.sl (l.map eT.pv), .fc f [] c] (.b (l.any p)):=by
 have hi:=yj l f c p hl h;have e:decide (eJ p 0 l>=0)=l.any p:=by
  rw[ew,decide_eq_true_iff];exact jh
 refine eW call438 func438 ?_;exact m9 @e @hi
theorem yg (l:List (Bytes×Bytes)) (f:FuncId) (c:List PV) (p:(Bytes×Bytes)->Bool) (hl:l.length<4611686018427387904) (h: ∀x∈l,aE f (eB x::c) (.b (p x))):aE 143 [.sl (l.map eB), .fc f [] c] (E (eJ p 0 l)):=by
 have hlm:(l.map eB).length=l.length:=aC ..;refine eW call143 func143 ?_;refine dH @hlm ?_;refine af (α:=Nat) (fun i=>l.length-i) (fun i=>⟨[(0, .v (.sl (l.map eB))),(1, .v (.fc f [] c)),(7, .v (.i .i64 l.length)),(8, .v (.i .i64 (i:Nat)))],[],_⟩) (fun i=>i<=l.length/\eJ p i (l.drop i)=eJ p 0 l) 0 (fun _=>aA _) ⟨aI _,rfl⟩ ?_ ?_
 ·exact lE
 ·rintro i ⟨hi,hx⟩ R hR;rw[<-hx]
  by_cases hlt:i<l.length
  ·have e1:=getD_map eB l fj hlt;have hf:=h (l.getD i fj) (an fj hlt);have hgo:=hR (i+1);rw[<-hx,aW fj hlt]at hgo;rw[aW fj hlt];simp only[eJ]at hgo⊢;clear hx hR h;obtain⟨b,hb⟩: ∃b,b=p (l.getD i fj):=⟨_,rfl⟩;rw[<-hb]at hf hgo⊢;clear hb;obtain⟨x,hxx⟩: ∃x,x=l.getD i fj:=⟨_,rfl⟩;rw[<-hxx]at e1 hf;clear hxx;obtain⟨gm,go⟩:=x;simp only[eB]at e1 hf;cases b
   ·have hgo:=hgo ⟨oO,rfl⟩ oO;repeat' first|simp only[go_sem,seval,hlm,e1]|(refine jn hf (nM _ _) ?_)|refine oE ?_|apply xX<;>intro hc
    refine hgo _ ?_;exact lE
   ·repeat' first|simp only[go_sem,seval,hlm,e1]|(refine jn hf (nM _ _) ?_)|refine oE ?_|apply xX<;>intro hc
    all_goals rfl
  ·obtain rfl:i=l.length:=oO;rw[da];repeat' first|simp only[go_sem,seval,hlm]|refine oE ?_|apply xX<;>intro hc
   all_goals simp[eJ]
theorem sI (l:List (Bytes×Bytes)) (f:FuncId) (c:List PV) (p:(Bytes×Bytes)->Bool) (hl:l.length<4611686018427387904) (h: ∀x∈l,aE f (eB x::c) (.b (p x))):aE 373 [.sl (l.map eB), .fc f [] c] (.b (l.any p)):=by
 have hi:=yg l f c p hl h;have e:decide (eJ p 0 l>=0)=l.any p:=by
  rw[ew,decide_eq_true_iff];exact jh
 refine eW call373 func373 ?_;exact m9 @e @hi
theorem BA (s:cU) (hl:s.groups.length<1000000):aE 376 [s.pv] (.s (bM s.groups)):=by
 obtain⟨gs,vs,es⟩:=s;simp only at hl;have l1:(gs.map eB).length=gs.length:=aC ..;unfold cU.pv;simp only;refine eW call376 func376 ?_;refine dH @l1 ?_;refine af (α:=Nat) (fun i=>gs.length-i) (fun i=>⟨[(1, .p 1000 0 0),(6, .v (.sl (gs.map eB))),(7,E' gs.length),(8,E' i)],[(1000,⟨0,[.v (.sl (gs.map eB)), .v (.sl (vs.map cO)), .v (.sl (es.map dx.pv))],false,none⟩)],_⟩) (fun i=>i<=gs.length/\bM (gs.drop i)=bM gs) 0 (fun _=>aA _) ⟨aI _,rfl⟩ ?_ ?_
 ·exact lE
 ·rintro i ⟨hi,hf⟩ R hR;rw[<-hf]
  by_cases hlt:i<gs.length
  ·have e1:=getD_map eB gs fj hlt;have hgo:=hR (i+1);rw[<-hf]at hgo;rw[aW fj hlt]at hgo⊢;obtain⟨x,hx⟩: ∃x,x=gs.getD i fj:=⟨_,rfl⟩;rw[<-hx]at e1 hgo⊢;clear hx hf hR;obtain⟨m,o⟩:=x;simp only[bM]at hgo⊢;simp only[eB]at e1
   by_cases ho:o=[]
   ·subst ho;simp only[ax]at hgo⊢;have hgo:=hgo ⟨oO,trivial⟩ oO;exact jN (aN @l1 (aN @e1 @nn)) @hgo
   ·have hb:(o==([]:Bytes))=false:=by simpa using ho
    rw[ae ho];exact gi (aN @l1 (aN @e1 @hb))
  ·obtain rfl:i=gs.length:=oO;rw[da];exact gi @l1
def GS (q:Bytes) (g:Bytes×Bytes):Bool:= !(g.2==[])&& !(g.2==q)
def AI (vs:List Bytes) (t:eT):Bool:=vs.getD t.var.toNat []==[]
def Jw (gs:List (Bytes×Bytes)) (vs:List Bytes) (q:dx):Bool:=(gs.getD q.mS.toNat fj).2==[]&&q.terms.any (AI vs)
def EP (s:cU):Bool:= !(s.vars.any fun b=>b==[])||(!(bM s.groups==[])&& !(s.groups.any (GS (bM s.groups)))&&s.eqs.all fun q=> !Jw s.groups s.vars q)
theorem U0 (q:Bytes) (g:Bytes×Bytes):aE 441 [eB g, .pt (.agg [.s q]) 0] (.b (GS q g)):=by
 obtain⟨m,o⟩:=g;simp only[eB,GS];refine eW call441 func441 ?_;repeat' first|simp only[go_sem,seval,bne]|refine oE ?_|apply xX<;>intro hc
 all_goals simp_all[bne]
theorem U1 {s:cU} {t:eT} (h0:0<=t.var) (h1:t.var<s.vars.length):aE 442 [t.pv, .pt s.pv 0] (.b (AI s.vars t)):=by
 obtain⟨gs,vs,es⟩:=s;obtain⟨b,v,n,a⟩:=t;simp only at h0 h1;have l2:(vs.map cO).length=vs.length:=aC ..;have e1:=getD_map cO vs [] (i:=v.toNat) oO;simp only[cU.pv,eT.pv,AI,cO]at*;refine eW call442 func442 ?_;exact gi (aN @l2 @e1)
theorem Rb {s:cU} (hb:Wx s) (hf:pW s=true):aE 370 [s.pv] (E (if EP s then 0 else 10)):=by
 have h1:=uK s.vars _ _ (by have:=hb.nv;omega) UZ
 have hor:=BA s (by have:=hb.ng;omega)
 have h2:=sI s.groups _ _ _ (by have:=hb.ng;omega) fun x _=>U0 (bM s.groups) x
 have h3:=fun q (hq:q∈s.eqs)=>sJ q.terms 442 [.pt s.pv 0] (AI s.vars) (by have:=(hb.q q hq).1;omega) fun t ht=>by
  simp only[pW,ba]at hf;obtain⟨-,-,k⟩:=MC (bH.1 hf.2.2 q hq);exact U1 (k t ht).1 (k t ht).2.1
 have ng:=hb.ng;have ne:=hb.ne;have bq:=hb.q;obtain⟨gs,vs,es⟩:=s;simp only[pW,ba]at hf ng ne bq;have hq:=bH.1 hf.2.2;have l1:(gs.map eB).length=gs.length:=aC ..;have l3:(es.map dx.pv).length=es.length:=aC ..;unfold EP;simp only at*;clear hb hf;generalize (vs.any fun b=>b==[])=bv at*
 generalize bM gs=q at*;generalize (gs.any (GS q))=bo at*;unfold cU.pv at*;simp only at*;cases bv
 ·refine eW call370 func370 ?_;exact z1 @h1
 by_cases hq0:q=[]
 ·subst hq0;refine eW call370 func370 ?_;repeat' first|simp only[go_sem,seval,aU,nn]|refine cP h1 ?_|refine cP hor ?_|refine cV h2 ?_|refine oE ?_|apply xX<;>intro hc
  all_goals rfl
 have hb:(q==([]:Bytes))=false:=by simpa using hq0
 rw[hb];simp only[bV,cv,cr,lA];cases bo
 ·refine eW call370 func370 ?_;repeat' first|simp only[go_sem,seval,aU,hb]|refine cP h1 ?_|refine cP hor ?_|refine cV h2 ?_|refine oE ?_|apply xX<;>intro hc
  refine af (α:=Nat) (fun i=>es.length-i) (fun i=>⟨[(1, .p 1000 0 0),(21, .v (.sl (es.map dx.pv))),(22,E' es.length),(23,E' i)],[(1000,⟨0,[.v (.sl (gs.map eB)), .v (.sl (vs.map cO)), .v (.sl (es.map dx.pv))],false,none⟩)],_⟩) (fun i=>i<=es.length/\((es.drop i).all fun q=> !Jw gs vs q)=es.all fun q=> !Jw gs vs q) 0 (fun _=>aA _) ⟨aI _,rfl⟩ ?_ ?_
  ·exact lE
  ·rintro i ⟨hi,hf⟩ R hR
   by_cases hlt:i<es.length
   ·have e1:=getD_map dx.pv es hG hlt;have v2:=h3 _ (an hG hlt);obtain⟨q1,q2,-⟩:=MC (hq _ (an hG hlt));have hgo:=fun h=>hR (i+1) ⟨oO,h⟩ oO
    rw[aW hG hlt,List.all_cons]at hf;obtain⟨x,hx⟩: ∃x,x=es.getD i hG:=⟨_,rfl⟩;rw[<-hx]at e1 q1 q2 v2 hf;obtain⟨gr,tg,ts⟩:=x;simp only at q1 q2 v2;have hgl:gr.toNat<gs.length:=oO;have e3:=getD_map eB gs fj hgl;have hbq:Jw gs vs ⟨gr,tg,ts⟩=((gs.getD gr.toNat fj).2==[]&&ts.any (AI vs)):=rfl;rw[hbq]at hf;obtain⟨z,hz⟩: ∃z,z=gs.getD gr.toNat fj:=⟨_,rfl⟩;rw[<-hz]at e3 hf;obtain⟨m,o⟩:=z;simp only at hf;simp only[eB]at e3;simp only[dx.pv]at e1;clear hR hx hz h3 hq bq h1 h2 hor;generalize ts.any (AI vs)=bt at*
    by_cases ho:o=[]
    ·subst ho;cases bt
     ·simp only[nn,ur,cv,cr]at hf;repeat' first|simp only[go_sem,seval,l1,l3,e1,e3,aU,nn,lF]|refine cV v2 ?_|refine oE ?_|apply xX<;>intro hc
      refine hgo hf _ ?_;exact lE
     ·simp only[nn,jK,bV,dK]at hf;rw[<-hf];repeat' first|simp only[go_sem,seval,l1,l3,e1,e3,aU,nn,lF]|refine cV v2 ?_|refine oE ?_|apply xX<;>intro hc
      all_goals rfl
    ·have hob:(o==([]:Bytes))=false:=by simpa using ho
     have hob2:(o !=([]:Bytes))=true:=by simpa using ho
     simp only[hob,dK,cv,cr]at hf;repeat' first|simp only[go_sem,seval,l1,l3,e1,e3,aU,hob,hob2]|refine cV v2 ?_|refine oE ?_|apply xX<;>intro hc
     refine hgo hf _ ?_;exact lE
   ·obtain rfl:i=es.length:=oO;rw[da]at hf;rw[<-hf];exact gi @l3
 ·refine eW call370 func370 ?_;repeat' first|simp only[go_sem,seval,aU,hb]|refine cP h1 ?_|refine cP hor ?_|refine cV h2 ?_|refine oE ?_|apply xX<;>intro hc
  all_goals rfl
def Nn (s:cU):Int:=if !pW s then 3 else if Kg s then 6 else if !Cu s then 13 else if !EP s then 10 else 0
theorem It {s:cU} (hb:Wx s):aE 247 [s.pv] (E (Nn s)):=by
 have h1:=Np hb;have h2:=Rg hb;have h3:=GI hb;have h4:=Rb hb;clear hb;unfold Nn;unfold cU.pv at*;generalize pW s=b1 at*;generalize Kg s=b2 at*;generalize Cu s=b3 at*;generalize EP s=b4 at*;cases b1
 ·refine eW call247 func247 ?_;exact Ps @h1 @h2
 have h3:=h3 rfl;have h4:=h4 rfl;cases b2
 ·cases b3
  ·refine eW call247 func247 ?_;exact Zi @h1 @h2 @h3
  ·cases b4<;>
   ·refine eW call247 func247 ?_;exact Y7 @h1 @h2 @h3 @h4
 ·refine eW call247 func247 ?_;exact Ps @h1 @h2
structure Ca (s:cU):Prop where
 b:Wx s
 g: ∀p∈s.groups,gE p.1 p.2=0/\p.1.length<=8/\p.2.length<=8
 v: ∀b∈s.vars,aa b=true/\b.length<=16
 q: ∀q∈s.eqs,0<=q.mS/\q.mS<s.groups.length/\jz (s.groups.getD q.mS.toNat fj).1 (s.groups.getD q.mS.toNat fj).2 q.tgt=true/\q.terms.length<=64/\
  ∀t∈q.terms,0<=t.var/\t.var<s.vars.length/\jz (s.groups.getD q.mS.toNat fj).1 (s.groups.getD q.mS.toNat fj).2 t.base=true/\cz (t.neg,t.abs)=true
 ng:s.groups.length<=8
 nv:s.vars.length<=64
 ne:s.eqs.length<=64
 k:EP s=true
theorem Ca.m {s:cU} (h:Ca s):TZ s:=⟨h.g,h.q,h.ng,h.nv,h.ne⟩
theorem Ca.ck {s:cU} (h:Ca s):Nn s=0:=by
 have e1:pW s=true:=by
  simp only[pW,ba,bH];refine⟨fun p hp=> ?_,fun b hb=>(h.v b hb).1,fun q hq=> ?_⟩
  ·obtain⟨vm,vo,-⟩:=jf (h.g p hp).1;simp[gB,vm,vo]
  ·obtain⟨q1,q2,q3,q4,q5⟩:=h.q q hq;have hg:=(h.g _ (an fj (show q.mS.toNat<s.groups.length by omega))).1
   simp only[MB,ba,cK,bH];refine⟨⟨⟨q1,q2⟩,gO hg q3⟩,fun t ht=> ?_⟩
   obtain⟨t1,t2,t3,t4⟩:=q5 t ht;simp only[Sr,ba,cK];exact⟨⟨t1,t2⟩,gO hg t3,t4⟩
 have e2:Kg s=false:=by
  simp only[Kg,Bool.or_eq_false_iff,pQ,xV,cK];exact⟨by have:=h.ng;omega,by have:=h.nv;omega,by have:=h.ne;omega,fun q hq=>by have:=(h.q q hq).2.2.2.1;omega⟩
 have e3:Cu s=true:=by
  simp only[Cu,ba,bH];refine⟨fun p hp=>by simp[gC,(h.g p hp).1],fun q hq=> ?_⟩
  obtain⟨q1,q2,q3,q4,q5⟩:=h.q q hq;have hg:=(h.g _ (an fj (show q.mS.toNat<s.groups.length by omega))).1
  simp only[JU,jb,hg,decide_true,cr,ba,bH];exact⟨q3,fun t ht=>(q5 t ht).2.2.1⟩
 unfold Nn;rw[e1,e2,e3,h.k];rfl
