/- Part of the proof. -/
import Derived.Test.YthlapgdhjcddkaaGreatDoorUF34
set_option linter.all false
set_option maxHeartbeats 16000000
set_option maxRecDepth 100000
namespace Go.Proofs.Tryz
open Go Go.Dom Go.Num
theorem xE (s:aT) (hl:s.groups.length<1000000):aH 363 [s.pv] (.s (ba s.groups)):=by
 obtain⟨gs,vs,es⟩:=s;simp only at hl;have l1:(gs.map cz).length=gs.length:=au ..;unfold aT.pv;simp only;refine eW call363 func363 ?_;refine pO ?_;refine ah (α:=Nat) (fun i=>gs.length-i) (fun i=>⟨[(1, .p 1000 0 0),(3,E' i)],[(1000,⟨0,[.v (.sl (gs.map cz)), .v (.sl (vs.map bO)), .v (.sl (es.map bZ.pv))],false,none⟩)],_⟩) (fun i=>i<=gs.length/\ba (gs.drop i)=ba gs) 0 (fun _=>aA _) ⟨aD _,rfl⟩ ?_ ?_
 ·exact lE
 ·rintro i ⟨hi,hf⟩ R hR;rw[<-hf]
  by_cases hlt:i<gs.length
  ·have e1:=getD_map cz gs dL hlt;have hgo:=hR (i+1);rw[<-hf]at hgo;rw[aE dL hlt]at hgo⊢;obtain⟨x,hx⟩: ∃x,x=gs.getD i dL:=⟨_,rfl⟩;rw[<-hx]at e1 hgo⊢;clear hx hf hR;obtain⟨m,o⟩:=x;simp only[ba]at hgo⊢;simp only[cz]at e1
   by_cases ho:o=[]
   ·subst ho;simp only[aC]at hgo⊢;have hgo:=hgo ⟨oO,trivial⟩ oO;exact gH (aN @l1 (aN @e1 @nn)) @hgo
   ·have hb:(o==([]:Bytes))=false:=by simpa using ho
    rw[aa ho];exact fz (aN @l1 (aN @e1 @hb))
  ·obtain rfl:i=gs.length:=oO;rw[bw];exact fz @l1
theorem GV {α:Type} {p:α->Bool} {l:List α} {i:Nat} (d:α) (h:i<l.length):(l.take (i+1)).any p=((l.take i).any p||p (l.getD i d)):=by
 rw[aL d h,List.any_append];simp
theorem T3 {s:aT} (hs:xq s):aH 323 [s.pv] (.b true):=by
 have hk:=hs.k;have hor:=xE s (by have:=hs.ng;omega)
 obtain⟨gs,vs,es⟩:=s;obtain⟨-,hg,hv,hq,ng,nv,ne,-⟩:=hs;simp only at hg hv hq ng nv ne;have l1:(gs.map cz).length=gs.length:=au ..;have l2:(vs.map bO).length=vs.length:=au ..;have l3:(es.map bZ.pv).length=es.length:=au ..;unfold uF at hk;simp only at hk hor;unfold aT.pv at*;simp only at*;refine eW call323 func323 ?_;refine pO ?_;refine ah (α:=Nat) (fun i=>vs.length-i) (fun i=>⟨[(1, .p 1000 0 0),(3, .v (.b ((vs.take i).any fun b=>b==[]))),(4,E' i)],[(1000,⟨0,[.v (.sl (gs.map cz)), .v (.sl (vs.map bO)), .v (.sl (es.map bZ.pv))],false,none⟩)],_⟩) (fun i=>i<=vs.length) 0 (fun _=>aA _) (aD _) ?_ ?_
 ·exact lE
 ·intro i hi R hR
  by_cases hlt:i<vs.length
  ·have e1:=getD_map bO vs [] hlt;have hgo:=hR (i+1) oO oO;rw[GV [] hlt]at hgo;generalize (vs.take i).any (fun b=>b==[])=b1 at*
   generalize vs.getD i []=x at*;clear hR hk;simp only[bO]at e1;cases b1
   ·rw[eH]at hgo;exact gH (aN @l2 @e1) @hgo
   ·rw[iI]at hgo;exact gH (aN @l2 @e1) @hgo
  ·obtain rfl:i=vs.length:=oO;rw[bm]
   cases hb:vs.any (fun b=>b==[])with
   |false=>
    exact fz @l2
   |true=>
    rw[hb]at hk;simp only[dy,eH,bc,fW]at hk;obtain⟨⟨hk1,hk2⟩,hk3⟩:=hk;generalize ba gs=q at*;clear hR hb;refine jA (aN @l2 @hk1) @hor ?_;refine ah (α:=Nat) (fun i=>gs.length-i) (fun i=>⟨[(1, .p 1000 0 0),(5, .v (.s q)),(6,E' i)],[(1000,⟨0,[.v (.sl (gs.map cz)), .v (.sl (vs.map bO)), .v (.sl (es.map bZ.pv))],false,none⟩)],_⟩) (fun i=>i<=gs.length) 0 (fun _=>aA _) (aD _) ?_ ?_
    ·exact lE
    ·intro i hi R hR
     by_cases hlt:i<gs.length
     ·have e1:=getD_map cz gs dL hlt;have hgo:=hR (i+1) oO oO;have ho:xW q (gs.getD i dL)=false:=by
       have:=kK.1 hk2 _ (ai dL hlt);simpa using this
      obtain⟨x,hx⟩: ∃x,x=gs.getD i dL:=⟨_,rfl⟩;rw[<-hx]at e1 ho;clear hR hx hk2 hk3;obtain⟨m,o⟩:=x;simp only[cz,xW]at e1 ho
      by_cases h0:(o==([]:Bytes))=true
      ·exact gH (aN @l1 (aN @e1 @h0)) @hgo
      ·have h0:(o==([]:Bytes))=false:=by simpa using h0
       have h1:(o==q)=true:=by rw[h0]at ho;simpa using ho
       exact gH (aN @l1 (aN @e1 (aN @h0 @h1))) @hgo
     ·obtain rfl:i=gs.length:=oO;clear hR;refine dh @l1 ?_;refine ah (α:=Nat) (fun i=>es.length-i) (fun i=>⟨[(1, .p 1000 0 0),(7,E' i)],[(1000,⟨0,[.v (.sl (gs.map cz)), .v (.sl (vs.map bO)), .v (.sl (es.map bZ.pv))],false,none⟩)],_⟩) (fun i=>i<=es.length) 0 (fun _=>aA _) (aD _) ?_ ?_
      ·exact lE
      ·intro i hi R hR
       by_cases hlt:i<es.length
       ·have e1:=getD_map bZ.pv es dU hlt;obtain⟨q1,q2,-,q4,q5⟩:=hq _ (ai dU hlt);have hbq:=bz.1 hk3 _ (ai dU hlt);have hgo:=hR (i+1) oO oO;obtain⟨x,hx⟩: ∃x,x=es.getD i dU:=⟨_,rfl⟩;rw[<-hx]at e1 q1 q2 q4 q5 hbq;obtain⟨gr,tg,ts⟩:=x;simp only at q1 q2 q4 q5;have hgl:gr.toNat<gs.length:=oO;have e3:=getD_map cz gs dL hgl;have hbb:BG gs vs ⟨gr,tg,ts⟩=((gs.getD gr.toNat dL).2==[]&&ts.any (sH vs)):=rfl;rw[hbb]at hbq;obtain⟨z,hz⟩: ∃z,z=gs.getD gr.toNat dL:=⟨_,rfl⟩;rw[<-hz]at e3 hbq;obtain⟨m,o⟩:=z;simp only at hbq;have l4:(ts.map dx.pv).length=ts.length:=au ..;simp only[bZ.pv]at e1;simp only[cz]at e3;clear hR hx hz hbb;refine dh (aN @l3 @e1) ?_;refine ah (α:=Nat) (fun i=>ts.length-i) (fun j=>⟨[(1, .p 1000 0 0),(7,E' i),(8, .p 1033 0 0),(9,E' j)],[(1000,⟨0,[.v (.sl (gs.map cz)), .v (.sl (vs.map bO)), .v (.sl (es.map bZ.pv))],false,none⟩),(1033,⟨0,[.v (.i .i64 gr), .v (.s tg), .v (.sl (ts.map dx.pv))],false,some 119⟩)],_⟩) (fun i=>i<=ts.length) 0 (fun _=>aA _) (aD _) ?_ ?_
        ·exact lE
        ·intro j hj R' hR'
         by_cases hjt:j<ts.length
         ·have e2:=getD_map dx.pv ts dN hjt;obtain⟨t1,t2,-,-⟩:=q5 _ (ai dN hjt);have hgo':=hR' (j+1) oO oO;have hbt:((o==[])&&sH vs (ts.getD j dN))=false:=by
           cases h0:(o==([]:Bytes))with
           |false=>rfl
           |true=>
            rw[h0]at hbq;have h2:ts.any (sH vs)=false:=by simpa using hbq
            have:=kK.1 h2 _ (ai dN hjt);simpa using this
          obtain⟨y,hy⟩: ∃y,y=ts.getD j dN:=⟨_,rfl⟩;rw[<-hy]at e2 t1 t2 hbt;obtain⟨b,v,n,a⟩:=y;simp only at t1 t2;have e4:=getD_map bO vs [] (i:=v.toNat) oO;simp only[sH]at hbt;simp only[dx.pv]at e2;clear hR' hy hbq q5;generalize vs.getD v.toNat []=u at*;simp only[bO]at e4;generalize h0:(o==([]:Bytes))=p0 at*;generalize h1:(u==([]:Bytes))=p1 at*;cases p1
          ·refine dw (aN @l2 (aN @l4 (aN @e2 (aN @e4 @h1)))) ?_;refine hgo' _ ?_;exact lE
          ·have h0:(o==([]:Bytes))=false:=by rw[h0];simpa using hbt
           refine dw (aN @l1 (aN @l2 (aN @l4 (aN @e2 (aN @e3 (aN @e4 (aN @h1 @h0))))))) ?_;refine hgo' _ ?_;exact lE
         ·obtain rfl:j=ts.length:=oO;exact gH (aN @l3 @l4) @hgo
       ·obtain rfl:i=es.length:=oO;exact fz @l3
theorem Lx {s:aT} (hs:xq s):aH 164 [s.pv] (E 0):=by
 have h1:=Im hs.m fun b hb=>(hs.v b hb).1
 have h2:=PS hs.m;have h3:=DZ hs.m;have h4:=T3 hs;clear hs;have h5:aH 255 [s.pv] (E 0):=by
  unfold aT.pv at*;refine eW call255 func255 ?_;exact z4 @h2 @h3 @h4 oT
 unfold aT.pv at*;refine eW call164 func164 ?_;exact z2 @h1 @h5
theorem PQ {s:aT} (hb:qH s):aH 254 [s.pv] (.b (jD s)):=by
 obtain⟨gs,vs,es⟩:=s;obtain⟨-,-,bq,ng,nv,ne⟩:=hb;simp only at bq ng nv ne;have l1:(gs.map cz).length=gs.length:=au ..;have l2:(vs.map bO).length=vs.length:=au ..;have l3:(es.map bZ.pv).length=es.length:=au ..;unfold aT.pv;simp only;refine eW call254 func254 ?_;refine pO ?_;refine ah (α:=Nat) (fun i=>gs.length-i) (fun i=>⟨[(1, .p 1000 0 0),(3,E' i)],[(1000,⟨0,[.v (.sl (gs.map cz)), .v (.sl (vs.map bO)), .v (.sl (es.map bZ.pv))],false,none⟩)],_⟩) (fun i=>i<=gs.length/\(gs.drop i).all gB=gs.all gB) 0 (fun _=>aA _) ⟨aD _,rfl⟩ ?_ ?_
 ·exact lE
 ·rintro i ⟨hi,hf⟩ R hR
  by_cases hlt:i<gs.length
  ·have e1:=getD_map cz gs dL hlt;have hgo:=fun h=>hR (i+1) ⟨oO,h⟩ oO
   rw[aE dL hlt,List.all_cons]at hf;obtain⟨x,hx⟩: ∃x,x=gs.getD i dL:=⟨_,rfl⟩;rw[<-hx]at e1 hf;obtain⟨m,o⟩:=x;have v1:=aU m;have v2:=aU o;clear hR hx;simp only[cz]at e1
   cases hg:gB (m,o)with
   |true=>
    rw[hg,bE]at hf;obtain⟨vm,vo⟩:ae m=true/\ae o=true:=by simpa[gB]using hg
    rw[vm]at v1;rw[vo]at v2;refine rz (aN @l1 @e1) @v1 @v2 ?_;refine hgo hf _ ?_;exact lE
   |false=>
    rw[hg,br]at hf;have hz:jD ⟨gs,vs,es⟩=false:=by simp only[jD,<-hf,br]
    rw[hz];have hg:(ae m&&ae o)=false:=hg;clear hgo hf hz;generalize ae m=b1 at*;generalize ae o=b2 at*;exact Ur (aN @l1 @e1) @v1 @v2
  ·obtain rfl:i=gs.length:=oO;rw[bw]at hf;have hf1:gs.all gB=true:=hf.symm;clear hf hR;refine dh @l1 ?_;refine ah (α:=Nat) (fun i=>vs.length-i) (fun i=>⟨[(1, .p 1000 0 0),(4,E' i)],[(1000,⟨0,[.v (.sl (gs.map cz)), .v (.sl (vs.map bO)), .v (.sl (es.map bZ.pv))],false,none⟩)],_⟩) (fun i=>i<=vs.length/\(vs.drop i).all ae=vs.all ae) 0 (fun _=>aA _) ⟨aD _,rfl⟩ ?_ ?_
   ·exact lE
   ·rintro i ⟨hi,hf⟩ R hR
    by_cases hlt:i<vs.length
    ·have e1:=getD_map bO vs [] hlt;have hgo:=fun h=>hR (i+1) ⟨oO,h⟩ oO
     rw[aE [] hlt,List.all_cons]at hf;generalize vs.getD i []=x at*;have v1:=aU x;clear hR;simp only[bO]at e1
     cases hg:ae x with
     |true=>
      rw[hg]at v1;rw[hg,bE]at hf;refine gR (aN @l2 @e1) @v1 ?_;refine hgo hf _ ?_;exact lE
     |false=>
      rw[hg]at v1;rw[hg,br]at hf;have hz:jD ⟨gs,vs,es⟩=false:=by simp only[jD,<-hf,br,mU]
      rw[hz];clear hgo;exact iE (aN @l2 @e1) @v1
    ·obtain rfl:i=vs.length:=oO;rw[bw]at hf;have hf2:vs.all ae=true:=hf.symm;have hz:jD ⟨gs,vs,es⟩=es.all (Cl gs.length vs.length):=by simp only[jD,hf1,hf2,bE]
     rw[hz];clear hf hR hz;refine dh @l2 ?_;refine ah (α:=Nat) (fun i=>es.length-i) (fun i=>⟨[(1, .p 1000 0 0),(5,E' i)],[(1000,⟨0,[.v (.sl (gs.map cz)), .v (.sl (vs.map bO)), .v (.sl (es.map bZ.pv))],false,none⟩)],_⟩) (fun i=>i<=es.length/\(es.drop i).all (Cl gs.length vs.length)=es.all (Cl gs.length vs.length)) 0 (fun _=>aA _) ⟨aD _,rfl⟩ ?_ ?_
     ·exact lE
     ·rintro i ⟨hi,hf⟩ R hR
      by_cases hlt:i<es.length
      ·have e1:=getD_map bZ.pv es dU hlt;have q4:=(bq _ (ai dU hlt)).1;have hgo:=fun h=>hR (i+1) ⟨oO,h⟩ oO
       rw[aE dU hlt,List.all_cons]at hf;obtain⟨x,hx⟩: ∃x,x=es.getD i dU:=⟨_,rfl⟩;rw[<-hx]at e1 q4 hf;obtain⟨gr,tg,ts⟩:=x;simp only at q4;have v1:=aU tg;have l4:(ts.map dx.pv).length=ts.length:=au ..;simp only[bZ.pv]at e1;clear hR hx
       cases hg:(decide (0<=gr)&&decide (gr<gs.length)&&ae tg)with
       |false=>
        have hq:Cl gs.length vs.length ⟨gr,tg,ts⟩=false:=by simp only[Cl,hg,br]
        rw[hq,br]at hf;rw[<-hf];clear hgo hf hq;generalize ae tg=b1 at*;repeat' first|simp only[go_sem,seval,l1,l3,e1]|refine cP v1 ?_|refine oE ?_|apply xX<;>intro hc
        all_goals simp_all
        all_goals omega
       |true=>
        have hq:Cl gs.length vs.length ⟨gr,tg,ts⟩=ts.all (Ix vs.length):=by simp only[Cl,hg,bE]
        rw[hq]at hf;simp only[bc,a8]at hg;obtain⟨⟨g1,g2⟩,vt⟩:=hg;rw[vt]at v1;have hd1:decide (gr<0)=false:=aS oO;have hd2:decide (gr>=(gs.length:Int))=false:=aS oO;clear hq g1 g2 vt;refine jA (aN @l1 (aN @l3 (aN @l4 (aN @e1 (aN @hd1 @hd2))))) @v1 ?_;refine ah (α:=Nat) (fun i=>ts.length-i) (fun j=>⟨[(1, .p 1000 0 0),(5,E' i),(6, .p 1025 0 0),(7,E' j)],[(1000,⟨0,[.v (.sl (gs.map cz)), .v (.sl (vs.map bO)), .v (.sl (es.map bZ.pv))],false,none⟩),(1025,⟨0,[.v (.i .i64 gr), .v (.s tg), .v (.sl (ts.map dx.pv))],false,some 119⟩)],_⟩) (fun i=>i<=ts.length/\(ts.drop i).all (Ix vs.length)=ts.all (Ix vs.length)) 0 (fun _=>aA _) ⟨aD _,rfl⟩ ?_ ?_
        ·exact lE
        ·rintro j ⟨hj,hk⟩ R' hR'
         by_cases hjt:j<ts.length
         ·have e2:=getD_map dx.pv ts dN hjt;have hgo':=fun h=>hR' (j+1) ⟨oO,h⟩ oO
          rw[aE dN hjt,List.all_cons]at hk;obtain⟨y,hy⟩: ∃y,y=ts.getD j dN:=⟨_,rfl⟩;rw[<-hy]at e2 hk;obtain⟨b,v,n,a⟩:=y;have v2:=aU b;have v3:=jW n a;rw[show(ae a&& !(n&&a==[]))=cr (n,a)from rfl]at v3
          simp only[dx.pv]at e2;clear hR' hy
          cases ht:Ix vs.length ⟨b,v,n,a⟩with
          |true=>
           rw[ht,bE]at hk;simp only[Ix,bc,a8]at ht;obtain⟨⟨t1,t2⟩,t3,t4⟩:=ht;rw[t3]at v2;rw[t4]at v3;have hd3:decide (v<0)=false:=aS oO;have hd4:decide (v>=(vs.length:Int))=false:=aS oO;refine rz (aN @l2 (aN @l4 (aN @e2 (aN @hd3 @hd4)))) @v2 @v3 ?_;refine hgo' hk _ ?_;exact lE
          |false=>
           rw[ht,br]at hk;rw[<-hk,br]at hf;rw[<-hf];simp only[Ix]at ht;clear hgo' hgo hk hf;generalize ae b=b1 at*;generalize cr (n,a)=b2 at*;repeat' first|simp only[go_sem,seval,l2,l4,e2]|refine cP v2 ?_|refine cP v3 ?_|refine oE ?_|apply xX<;>intro hc
           all_goals simp_all
           all_goals omega
         ·obtain rfl:j=ts.length:=oO;rw[bw]at hk;rw[<-hk]at hf;refine dw (aN @l3 @l4) ?_;refine hgo hf _ ?_;exact lE
      ·obtain rfl:i=es.length:=oO;rw[bw]at hf;rw[<-hf];exact fz @l3
theorem Yi {s:aT} (hb:qH s):aH 321 [s.pv] (.b (sG s)):=by
 obtain⟨gs,vs,es⟩:=s;obtain⟨-,-,bq,ng,nv,ne⟩:=hb;simp only at bq ng nv ne;have l1:(gs.map cz).length=gs.length:=au ..;have l2:(vs.map bO).length=vs.length:=au ..;have l3:(es.map bZ.pv).length=es.length:=au ..;unfold aT.pv;simp only;refine eW call321 func321 ?_;refine pO ?_;refine ah (α:=Nat) (fun i=>es.length-i) (fun i=>⟨[(1, .p 1000 0 0),(3,E' i)],[(1000,⟨0,[.v (.sl (gs.map cz)), .v (.sl (vs.map bO)), .v (.sl (es.map bZ.pv))],false,none⟩)],_⟩) (fun i=>i<=es.length/\((es.drop i).any fun q=>decide (64<q.terms.length))=es.any fun q=>decide (64<q.terms.length)) 0 (fun _=>aA _) ⟨aD _,rfl⟩ ?_ ?_
 ·exact lE
 ·rintro i ⟨hi,hf⟩ R hR
  by_cases hlt:i<es.length
  ·have e1:=getD_map bZ.pv es dU hlt;have q4:=(bq _ (ai dU hlt)).1;have hgo:=fun h=>hR (i+1) ⟨oO,h⟩ oO
   rw[aE dU hlt,List.any_cons]at hf;obtain⟨x,hx⟩: ∃x,x=es.getD i dU:=⟨_,rfl⟩;rw[<-hx]at e1 q4 hf;obtain⟨gr,tg,ts⟩:=x;simp only at q4;have l4:(ts.map dx.pv).length=ts.length:=au ..;simp only[bZ.pv]at e1;clear hR hx
   by_cases h64:64<ts.length
   ·simp only[h64,decide_true,iI]at hf;have hz:sG ⟨gs,vs,es⟩=true:=by simp only[sG,<-hf,vw]
    rw[hz];clear hgo;exact fz (aN @l3 (aN @l4 @e1))
   ·simp only[h64,decide_false,eH]at hf;refine dw (aN @l3 (aN @l4 @e1)) ?_;refine hgo hf _ ?_;exact lE
  ·obtain rfl:i=es.length:=oO;rw[bw]at hf;have hz:sG ⟨gs,vs,es⟩=(decide (8<gs.length)||(decide (64<vs.length)||decide (64<es.length))):=by
    simp only[sG,<-hf,List.any_nil,vC]
   rw[hz];clear hf hR hz;have d3:decide ((es.length:Int)>64)=decide (64<es.length):=by rw[fk];omega
   by_cases h1:8<gs.length
   ·rw[aQ h1];exact fz (aN @l1 (aN @l2 @l3))
   ·rw[aS h1]
    by_cases h2:64<vs.length
    ·rw[aQ h2];exact fz (aN @l1 (aN @l2 @l3))
    ·rw[aS h2];generalize decide (64<es.length)=b at*;exact fz (aN @l1 (aN @l2 (aN @l3 @d3)))
theorem Ik {s:aT} (hb:qH s) (hf:jD s=true):aH 322 [s.pv] (.b (pS s)):=by
 obtain⟨gs,vs,es⟩:=s;obtain⟨bg,-,bq,ng,nv,ne⟩:=hb;simp only at bg bq ng nv ne;have hfq: ∀q∈es,Cl gs.length vs.length q=true:=by
  simp only[jD,bc]at hf;exact bz.1 hf.2.2
 have l1:(gs.map cz).length=gs.length:=au ..;have l3:(es.map bZ.pv).length=es.length:=au ..;unfold aT.pv;simp only;clear hf;refine eW call322 func322 ?_;refine pO ?_;refine ah (α:=Nat) (fun i=>gs.length-i) (fun i=>⟨[(1, .p 1000 0 0),(3,E' i)],[(1000,⟨0,[.v (.sl (gs.map cz)), .v (.sl (vs.map bO)), .v (.sl (es.map bZ.pv))],false,none⟩)],_⟩) (fun i=>i<=gs.length/\(gs.drop i).all gC=gs.all gC) 0 (fun _=>aA _) ⟨aD _,rfl⟩ ?_ ?_
 ·exact lE
 ·rintro i ⟨hi,hf⟩ R hR
  by_cases hlt:i<gs.length
  ·have e1:=getD_map cz gs dL hlt;have k:=bg _ (ai dL hlt);have hgo:=fun h=>hR (i+1) ⟨oO,h⟩ oO
   rw[aE dL hlt,List.all_cons]at hf;obtain⟨x,hx⟩: ∃x,x=gs.getD i dL:=⟨_,rfl⟩;rw[<-hx]at e1 k hf;obtain⟨m,o⟩:=x;have v1:=oJ k.1 k.2;clear hR hx k;simp only[cz]at e1
   by_cases hE:gE m o=0
   ·have hc:gC (m,o)=true:=aQ hE;rw[hc,bE]at hf;rw[hE]at v1;refine gR (aN @l1 @e1) @v1 ?_;refine hgo hf _ ?_;exact lE
   ·have hc:gC (m,o)=false:=aS hE;rw[hc,br]at hf;have hz:pS ⟨gs,vs,es⟩=false:=by simp only[pS,<-hf,br]
    rw[hz];have hb2:(gE m o !=0)=true:=by simpa using hE
    clear hgo;generalize gE m o=ge at*;exact iE (aN @l1 (aN @e1 @hb2)) @v1
  ·obtain rfl:i=gs.length:=oO;rw[bw]at hf;have hf1:gs.all gC=true:=hf.symm;have hz:pS ⟨gs,vs,es⟩=es.all (zZ gs):=by simp only[pS,hf1,bE]
   rw[hz];clear hf hR hz;refine dh @l1 ?_;refine ah (α:=Nat) (fun i=>es.length-i) (fun i=>⟨[(1, .p 1000 0 0),(4,E' i)],[(1000,⟨0,[.v (.sl (gs.map cz)), .v (.sl (vs.map bO)), .v (.sl (es.map bZ.pv))],false,none⟩)],_⟩) (fun i=>i<=es.length/\(es.drop i).all (zZ gs)=es.all (zZ gs)) 0 (fun _=>aA _) ⟨aD _,rfl⟩ ?_ ?_
   ·exact lE
   ·rintro i ⟨hi,hf⟩ R hR
    by_cases hlt:i<es.length
    ·have e1:=getD_map bZ.pv es dU hlt;have q4:=(bq _ (ai dU hlt)).1;obtain⟨q1,q2,q3⟩:=Cm (hfq _ (ai dU hlt));have hgo:=fun h=>hR (i+1) ⟨oO,h⟩ oO
     rw[aE dU hlt,List.all_cons]at hf;obtain⟨x,hx⟩: ∃x,x=es.getD i dU:=⟨_,rfl⟩;rw[<-hx]at e1 q1 q2 q3 q4 hf;obtain⟨gr,tg,ts⟩:=x;simp only at q1 q2 q3 q4;have hgl:gr.toNat<gs.length:=oO;have kg:=bg _ (ai dL hgl);have e3:=getD_map cz gs dL hgl;have hq:zZ gs ⟨gr,tg,ts⟩=(vX (gs.getD gr.toNat dL).1 (gs.getD gr.toNat dL).2 tg&&ts.all fun t=>vX (gs.getD gr.toNat dL).1 (gs.getD gr.toNat dL).2 t.base):=rfl
     rw[hq]at hf;obtain⟨z,hz⟩: ∃z,z=gs.getD gr.toNat dL:=⟨_,rfl⟩;rw[<-hz]at kg e3 hf;obtain⟨m,o⟩:=z;simp only at kg hf;have v1:=rW kg.1 kg.2 tg;have v2:=rW kg.1 kg.2;have l4:(ts.map dx.pv).length=ts.length:=au ..;simp only[cz]at e3;simp only[bZ.pv]at e1;clear hR hx hz hq
     cases hT:vX m o tg with
     |false=>
      rw[hT]at v1;rw[hT,br,br]at hf;rw[<-hf];clear hgo v2;exact iE (aN @l1 (aN @l3 (aN @e1 @e3))) @v1
     |true=>
     rw[hT]at v1;rw[hT,bE]at hf;refine jA (aN @l1 (aN @l3 (aN @e1 @e3))) @v1 ?_;refine ah (α:=Nat) (fun i=>ts.length-i) (fun j=>⟨[(1, .p 1000 0 0),(4,E' i),(5, .p 1019 0 0),(6, .p 1027 0 0),(7,E' j)],[(1000,⟨0,[.v (.sl (gs.map cz)), .v (.sl (vs.map bO)), .v (.sl (es.map bZ.pv))],false,none⟩),(1019,⟨0,[.v (.i .i64 gr), .v (.s tg), .v (.sl (ts.map dx.pv))],false,some 119⟩),(1027,⟨0,[.v (.s m), .v (.s o)],false,some 114⟩)],_⟩) (fun i=>i<=ts.length/\((ts.drop i).all fun t=>vX m o t.base)=ts.all fun t=>vX m o t.base) 0 (fun _=>aA _) ⟨aD _,rfl⟩ ?_ ?_
     ·exact lE
     ·rintro j ⟨hj,hk⟩ R' hR'
      by_cases hjt:j<ts.length
      ·have e2:=getD_map dx.pv ts dN hjt;have hgo':=fun h=>hR' (j+1) ⟨oO,h⟩ oO
       rw[aE dN hjt,List.all_cons]at hk;obtain⟨y,hy⟩: ∃y,y=ts.getD j dN:=⟨_,rfl⟩;rw[<-hy]at e2 hk;obtain⟨b,v,n,a⟩:=y;have v3:=v2 b;simp only[dx.pv]at e2;simp only at hk;clear hR' hy
       cases hB:vX m o b with
       |true=>
        rw[hB]at v3;rw[hB,bE]at hk;refine gR (aN @l4 @e2) @v3 ?_;refine hgo' hk _ ?_;exact lE
       |false=>
        rw[hB]at v3;rw[hB,br]at hk;rw[<-hk,br]at hf;rw[<-hf];clear hgo' hgo;exact iE (aN @l4 @e2) @v3
      ·obtain rfl:j=ts.length:=oO;rw[bw]at hk;rw[<-hk]at hf;refine dw @l4 ?_;refine hgo hf _ ?_;exact lE
    ·obtain rfl:i=es.length:=oO;rw[bw]at hf;rw[<-hf];exact fz @l3
theorem T4 {s:aT} (hb:qH s) (hf:jD s=true):aH 323 [s.pv] (.b (uF s)):=by
 have hor:=xE s (by have:=hb.ng;omega)
 obtain⟨gs,vs,es⟩:=s;obtain⟨-,-,bq,ng,nv,ne⟩:=hb;simp only at bq ng nv ne;have hfq: ∀q∈es,Cl gs.length vs.length q=true:=by
  simp only[jD,bc]at hf;exact bz.1 hf.2.2
 have l1:(gs.map cz).length=gs.length:=au ..;have l2:(vs.map bO).length=vs.length:=au ..;have l3:(es.map bZ.pv).length=es.length:=au ..;have hk:uF ⟨gs,vs,es⟩=(!(vs.any fun b=>b==[])||(!(ba gs==[])&& !(gs.any (xW (ba gs)))&&es.all fun q=> !BG gs vs q)):=rfl
 rw[hk];clear hk hf;simp only at hor;unfold aT.pv at*;simp only at*;refine eW call323 func323 ?_;refine pO ?_;refine ah (α:=Nat) (fun i=>vs.length-i) (fun i=>⟨[(1, .p 1000 0 0),(3, .v (.b ((vs.take i).any fun b=>b==[]))),(4,E' i)],[(1000,⟨0,[.v (.sl (gs.map cz)), .v (.sl (vs.map bO)), .v (.sl (es.map bZ.pv))],false,none⟩)],_⟩) (fun i=>i<=vs.length) 0 (fun _=>aA _) (aD _) ?_ ?_
 ·exact lE
 ·intro i hi R hR
  by_cases hlt:i<vs.length
  ·have e1:=getD_map bO vs [] hlt;have hgo:=hR (i+1) oO oO;rw[GV [] hlt]at hgo;generalize (vs.take i).any (fun b=>b==[])=b1 at*
   generalize vs.getD i []=x at*;clear hR;simp only[bO]at e1;cases b1
   ·rw[eH]at hgo;exact gH (aN @l2 @e1) @hgo
   ·rw[iI]at hgo;exact gH (aN @l2 @e1) @hgo
  ·obtain rfl:i=vs.length:=oO;rw[bm]
   cases hb:vs.any (fun b=>b==[])with
   |false=>
    exact fz @l2
   |true=>
    rw[dy,eH];generalize ba gs=q at*;clear hR
    by_cases hq0:(q==([]:Bytes))=true
    ·rw[hq0,dy,br,br];exact iE (aN @l2 @hq0) @hor
    have hq0:(q==([]:Bytes))=false:=by simpa using hq0
    rw[hq0,dW,bE];refine jA (aN @l2 @hq0) @hor ?_;refine ah (α:=Nat) (fun i=>gs.length-i) (fun i=>⟨[(1, .p 1000 0 0),(5, .v (.s q)),(6,E' i)],[(1000,⟨0,[.v (.sl (gs.map cz)), .v (.sl (vs.map bO)), .v (.sl (es.map bZ.pv))],false,none⟩)],_⟩) (fun i=>i<=gs.length/\(gs.drop i).any (xW q)=gs.any (xW q)) 0 (fun _=>aA _) ⟨aD _,rfl⟩ ?_ ?_
    ·exact lE
    ·rintro i ⟨hi,hf⟩ R hR
     by_cases hlt:i<gs.length
     ·have e1:=getD_map cz gs dL hlt;have hgo:=fun h=>hR (i+1) ⟨oO,h⟩ oO
      rw[aE dL hlt,List.any_cons]at hf;obtain⟨x,hx⟩: ∃x,x=gs.getD i dL:=⟨_,rfl⟩;rw[<-hx]at e1 hf;clear hR hx;obtain⟨m,o⟩:=x;simp only[cz,xW]at e1 hf
      by_cases h0:(o==([]:Bytes))=true
      ·rw[h0,dy,br,eH]at hf;refine dw (aN @l1 (aN @e1 @h0)) ?_;refine hgo hf _ ?_;exact lE
      ·have h0:(o==([]:Bytes))=false:=by simpa using h0
       by_cases h1:(o==q)=true
       ·rw[h1,dy,mU,eH]at hf;refine dw (aN @l1 (aN @e1 (aN @h0 @h1))) ?_;refine hgo hf _ ?_;exact lE
       ·have h1:(o==q)=false:=by simpa using h1
        rw[h0,h1,dW,bE,iI]at hf;rw[<-hf,dy,br];clear hgo;exact fz (aN @l1 (aN @e1 (aN @h0 @h1)))
     ·obtain rfl:i=gs.length:=oO;rw[bw,List.any_nil]at hf;rw[<-hf,dW,bE];clear hR hf;refine dh @l1 ?_;refine ah (α:=Nat) (fun i=>es.length-i) (fun i=>⟨[(1, .p 1000 0 0),(7,E' i)],[(1000,⟨0,[.v (.sl (gs.map cz)), .v (.sl (vs.map bO)), .v (.sl (es.map bZ.pv))],false,none⟩)],_⟩) (fun i=>i<=es.length/\((es.drop i).all fun q=> !BG gs vs q)=es.all fun q=> !BG gs vs q) 0 (fun _=>aA _) ⟨aD _,rfl⟩ ?_ ?_
      ·exact lE
      ·rintro i ⟨hi,hf⟩ R hR
       by_cases hlt:i<es.length
       ·have e1:=getD_map bZ.pv es dU hlt;have q4:=(bq _ (ai dU hlt)).1;obtain⟨q1,q2,q5⟩:=Cm (hfq _ (ai dU hlt));have hgo:=fun h=>hR (i+1) ⟨oO,h⟩ oO
        rw[aE dU hlt,List.all_cons]at hf;obtain⟨x,hx⟩: ∃x,x=es.getD i dU:=⟨_,rfl⟩;rw[<-hx]at e1 q1 q2 q4 q5 hf;obtain⟨gr,tg,ts⟩:=x;simp only at q1 q2 q4 q5;have hgl:gr.toNat<gs.length:=oO;have e3:=getD_map cz gs dL hgl;have hbb:BG gs vs ⟨gr,tg,ts⟩=((gs.getD gr.toNat dL).2==[]&&ts.any (sH vs)):=rfl;rw[hbb]at hf;obtain⟨z,hz⟩: ∃z,z=gs.getD gr.toNat dL:=⟨_,rfl⟩;rw[<-hz]at e3 hf;obtain⟨m,o⟩:=z;simp only at hf;have l4:(ts.map dx.pv).length=ts.length:=au ..;simp only[bZ.pv]at e1;simp only[cz]at e3;clear hR hx hz hbb;refine dh (aN @l3 @e1) ?_;refine ah (α:=Nat) (fun i=>ts.length-i) (fun j=>⟨[(1, .p 1000 0 0),(7,E' i),(8, .p 1033 0 0),(9,E' j)],[(1000,⟨0,[.v (.sl (gs.map cz)), .v (.sl (vs.map bO)), .v (.sl (es.map bZ.pv))],false,none⟩),(1033,⟨0,[.v (.i .i64 gr), .v (.s tg), .v (.sl (ts.map dx.pv))],false,some 119⟩)],_⟩) (fun j=>j<=ts.length/\(o==[]&&(ts.drop j).any (sH vs))=(o==[]&&ts.any (sH vs))) 0 (fun _=>aA _) ⟨aD _,rfl⟩ ?_ ?_
        ·exact lE
        ·rintro j ⟨hj,hk⟩ R' hR'
         by_cases hjt:j<ts.length
         ·have e2:=getD_map dx.pv ts dN hjt;obtain⟨t1,t2,-,-⟩:=q5 _ (ai dN hjt);have hgo':=fun h=>hR' (j+1) ⟨oO,h⟩ oO
          rw[aE dN hjt,List.any_cons]at hk;obtain⟨y,hy⟩: ∃y,y=ts.getD j dN:=⟨_,rfl⟩;rw[<-hy]at e2 t1 t2 hk;obtain⟨b,v,n,a⟩:=y;simp only at t1 t2;have e4:=getD_map bO vs [] (i:=v.toNat) oO;simp only[sH]at hk;simp only[dx.pv]at e2;clear hR' hy q5;generalize vs.getD v.toNat []=u at*;simp only[bO]at e4;generalize h0:(o==([]:Bytes))=p0 at*;generalize h1:(u==([]:Bytes))=p1 at*;cases p1
          ·rw[eH]at hk;refine dw (aN @l2 (aN @l4 (aN @e2 (aN @e4 @h1)))) ?_;refine hgo' hk _ ?_;exact lE
          ·cases p0
           ·refine dw (aN @l1 (aN @l2 (aN @l4 (aN @e2 (aN @e3 (aN @e4 (aN @h1 @h0))))))) ?_;refine hgo' (by simp) _ ?_
            exact lE
           ·rw[iI,me]at hk;rw[<-hk,dy,br]at hf;rw[<-hf];clear hgo' hgo;exact fz (aN @l1 (aN @l2 (aN @l4 (aN @e2 (aN @e3 (aN @e4 (aN @h1 @h0)))))))
         ·obtain rfl:j=ts.length:=oO;rw[bw,List.any_nil,mU]at hk;rw[<-hk,dW,bE]at hf;refine dw (aN @l3 @l4) ?_;refine hgo hf _ ?_;exact lE
       ·obtain rfl:i=es.length:=oO;rw[bw]at hf;rw[<-hf];exact fz @l3
theorem CL {s:aT} (hb:qH s):aH 164 [s.pv] (E (mP s)):=by
 have h1:=PQ hb;have h2:=Yi hb;have h3:=fun h=>Ik hb h
 have h4:=fun h=>T4 hb h
 unfold mP
 cases hf:jD s with
 |false=>
  rw[hf]at h1;unfold aT.pv at*;refine eW call164 func164 ?_;exact z1 @h1
 |true=>
 rw[hf]at h1;have h3:=h3 hf;have h4:=h4 hf;have h5:aH 255 [s.pv] (E (if sG s then 6 else if !pS s then 13 else if !uF s then 10 else 0)):=by
  generalize sG s=b1 at*;generalize pS s=b2 at*;generalize uF s=b3 at*;unfold aT.pv at*
  cases b1<;>cases b2<;>cases b3
  all_goals
   refine eW call255 func255 ?_;exact z4 @h2 @h3 @h4 oT
 simp only[dy,cE,aB];generalize (if sG s=true then 6 else if(!pS s)=true then 13 else if(!uF s)=true then(10:Int)else 0)=e at*
 unfold aT.pv at*;refine eW call164 func164 ?_;exact z2 @h1 @h5
