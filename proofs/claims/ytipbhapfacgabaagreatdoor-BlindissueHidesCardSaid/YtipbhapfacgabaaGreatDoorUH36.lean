/- Part of the proof. -/
import Derived.Test.YtipbhapfacgabaaGreatDoorUH35
set_option linter.all false
set_option maxHeartbeats 16000000
set_option maxRecDepth 100000
namespace Go.Proofs.Tryz
open Go Go.Dom Go.Num
theorem MW (k:Nat) {c:Int} (hc:c=IntKind.u8.wrap (k:Int)) (P:List Bytes) (hn:P.length<=1000) (hb: ∀s∈P,s.length<=100000):aF 277 [.i .u8 c, .sl (P.map .s), .sl [], .fn (.func 278)] (.s (nG (ig k P))):=by
 subst hc;have w1:=fun nm=>YO FR EM 1001 nm k
 have w2:=fun nm=>pQ 1001 1004 nm 0 [UInt8.ofNat k] P.length oC (dD (aB 1) oC) oO
 have lP:(P.map PV.s).length=P.length:=aR ..;refine eW call277 func277 ?_;repeat' first|simp only[go_sem,seval,lP]|(refine aW (w1 _) (by simp[hget,bF]) ?_)|(refine aW (w2 _) (by simp[hget]) ?_)|refine oE ?_|apply xX<;>intro hc
 refine aj ?_;refine eJ @lP ?_;obtain⟨H,hH⟩: ∃H,H=UInt8.ofNat k::be 8 P.length:=⟨_,rfl⟩;have hHl:H.length=9:=by rw[hH,List.length_cons,cA]
 have hfr:ig k P=H++cE P:=by rw[hH,ig];rfl
 rw[hfr]
 try rw[<-hH]
 have hPb: ∀i,i<=P.length->(H++cE (P.take i)).length<=9+i*100008:=fun i hi=>by
  rw[bU,hHl];have h1:=oJ (P.take i) (n:=100000) fun s hs=>hb s (kO hs)
  rw[da,pk hi]at h1;omega
 clear w1 w2 hfr hH;refine aq (α:=Nat) (fun i=>P.length-i) (fun i=>⟨[(9, .p 1001 0 0),(41, .v (.sl (P.map .s))),(42,E' P.length),(43,E' i)],[(1001,bB FR 1001 1004 (8+9*i) (H++cE (P.take i))),(1004,bD (8+9*i) (H++cE (P.take i)))],_⟩) (fun i=>i<=P.length) 0 (fun _=>aB _) (aT _) ?_ ?_
 ·(refine AS.Le.of (by first|decide|omega) ?_ ?_<;>simp[dG,dF,aO,hget,AV.bd,AV.bd.bdL,u8,ar,au,az])
  have e0:H++cE []=H:=jr H;rw[e0];exact⟨rfl,lC _ _ _ _ _ _ oC oC,rfl,lD _ _ _⟩
 ·intro i hi R hR
  by_cases hit:i<P.length
  ·have e2:=nB hit;have hgo:=hR (i+1) oO oO;have hbs:=hb (P.getD i []) (aG [] hit);have hPi:=hPb i hi;rw[aY ([]:Bytes) hit,mY,<-gZ,<-gZ]at hgo;generalize P.getD i []=y at e2 hgo hbs;generalize hB:H++cE (P.take i)=B at hgo hPi⊢;have w1:=fun nm=>pQ 1001 1004 nm (8+9*i) B y.length oC oO oO
   have w2:=fun nm=>Y9 FR 1001 1004 nm (8+9*i+8) (B++be 8 y.length) y oC (by rw[bU,cA];omega)
   simp only[show 8+9*(i+1)=8+9*i+8+1 by omega]at hgo
   clear hR hb hPb;repeat' first|simp only[go_sem,seval,lP,e2]|(refine aW (w1 _) (by simp[hget]) ?_)|(refine aW (w2 _) (by simp[hget]) ?_)|refine oE ?_|apply xX<;>intro hc
   refine hgo _ ?_;refine lG ?_;all_goals exact⟨lC _ _ _ _ _ _ oC oC,lD _ _ _⟩
  ·have h:i=P.length:=oO;rw[h,cq];have hl2:=hPb P.length (aB _);rw[cq]at hl2;have hne:H++cE P≠[]:=by intro h0;have:=congrArg List.length h0;rw[bU,hHl]at this;simp at this
   generalize H++cE P=B at hl2 hne⊢;have w3:=fun nm=>Ld FR 1001 1004 nm (8+9*P.length) B oC (fun h0=>hne (iZ.1 h0)) oO
   have hsu:=q9 (s:=B) oO;repeat' first|simp only[go_sem,seval,lP]|(refine aW (w3 _) (by simp[hget]) ?_)|refine cP hsu ?_|refine oE ?_|apply xX<;>intro hc
theorem CQ (st l:Bytes) (xs:List Bytes) (h1:st.length<=100000) (h2:l.length<=100000) (hn:xs.length<=900) (h3: ∀x∈xs,x.length<=100000):aF 189 [.s st, .s l, .sl (xs.map .s)] (.s (eF st l xs)):=by
 by_cases h0:xs=[]
 ·subst h0;have h:=MW 76 (c:=76) rfl [st,l] (by simp) (by intro s hs;simp at hs;rcases hs with rfl|rfl<;>assumption)
  simp only[br,bH]at h⊢;refine eW call189 func189 ?_;exact z1 @h
 ·exact jJ st l xs h1 h2 h0 hn h3
structure Y4 (s:cY):Prop where
 ng:s.groups.length<=100
 g: ∀g∈s.groups,g.1.length<=1000/\g.2.length<=1000
 nv:s.vars.length<=100
 v: ∀b∈s.vars,b.length<=1000
 ne:s.eqs.length<=100
 q: ∀q∈s.eqs,0<=q.jA/\q.jA<100/\q.tgt.length<=1000/\q.terms.length<=100/\ ∀t∈q.terms,0<=t.var/\t.var<100/\t.base.length<=1000/\t.abs.length<=1000
def yj (gs:List (Bytes×Bytes)):List Bytes:=gs.flatMap fun g=>[g.1,g.2]
theorem H8 (gs:List (Bytes×Bytes)):(yj gs).length=2*gs.length:=by
 unfold yj
 induction gs with
 |nil=>rfl
 |cons g r ih=>rw[fP,bU,ih,List.length_cons];simp;omega
theorem Nc (gs:List (Bytes×Bytes)) (g:Bytes×Bytes):bI PV.s (yj (gs++[g]))=bI PV.s (yj gs)++[.v (.s g.1), .v (.s g.2)]:=by
 unfold yj bI;simp[PV.cells]
theorem Ss {st:Bytes} (hst:st.length<=1000) {s:cY} (hs:Y4 s):aF 187 [.s st,s.pv] (.s (jX st s)):=by
 obtain⟨ng,hg,nv,hv,ne,hq⟩:=hs;obtain⟨gs,vs,es⟩:=s;simp only at ng hg nv hv ne hq;have l1:(gs.map gV).length=gs.length:=aR ..;simp only[jX,cY.pv];rw[show(gs.flatMap fun g=>[g.1,g.2])=yj gs from rfl]
 have gl:=H8 gs;have gb: ∀x∈yj gs,x.length<=1000:=fun x hx=>by
  unfold yj at hx;obtain⟨g,hgm,hx⟩:=jS.1 hx;have:=hg g hgm;simp at hx;rcases hx with rfl|rfl
  ·exact this.1
  ·exact this.2
 have n1:=CQ st zC (yj gs) oO oC oO (fun x hx=>by have:=gb x hx;omega)
 have n2:=CQ (eF st zC (yj gs)) Bw vs (by rw[dL];decide) oC oO (fun x hx=>by have:=hv x hx;omega)
 have l2:=dL (eF st zC (yj gs)) Bw vs
 by_cases hg0:gs=[]
 ·subst hg0;clear gl gb l1 hg ng
  by_cases hv0:vs=[]
  ·subst hv0;simp only[bH,show yj []=[]from rfl]at*
   generalize hS:eF (eF st zC []) Bw []=s0 at*;refine eW call187 func187 ?_;repeat' first|simp only[go_sem,seval]|(refine aj ?_)|refine oE ?_|apply xX<;>intro hc
   repeat' first|simp only[go_sem,seval]|refine cV n1 ?_|refine cV n2 ?_|refine oE ?_|apply xX<;>intro hc
   clear n1 n2;refine aq (α:=Nat) (fun i=>es.length-i) (fun i=>⟨[(0, .v (.s ((es.take i).foldl jW s0))),(50, .v (.sl (es.map dS.pv))),(51,E' es.length),(52,E' i)],[],_⟩) (fun i=>i<=es.length) 0 (fun _=>aB _) (aT _) ?_ ?_
   ·(refine AS.Le.of (by first|decide|omega) ?_ ?_<;>simp[dG,dF,aO,hget,AV.bd,AV.bd.bdL,u8,ar,au,az])
    all_goals rfl
   ·intro i hi R hR
    by_cases hit:i<es.length
    ·have e2:=getD_map dS.pv es jz hit;have hgo:=hR (i+1) oO oO;rw[fZ jW s0 jz hit]at hgo;obtain⟨g1,g2,g3,nt,ht⟩:=hq _ (aG jz hit);have hX:=mc (l:=es.take i) l2;generalize (es.take i).foldl jW s0=X at hgo hX⊢;generalize es.getD i jz=q at*;obtain⟨jA,tgt,ts⟩:=q;simp only at g1 g2 g3 nt ht;obtain⟨n,rfl⟩: ∃n:Nat,jA=(n:Int):=⟨jA.toNat,oO⟩;have e2:(es.map dS.pv).getD i .fn0= .agg [.i .i64 (n:Int), .s tgt, .sl (ts.map fS.pv)]:=e2;simp only[jW,Int.toNat_natCast]at hgo;have ln:=kV n;have l4:(ts.map fS.pv).length=ts.length:=aR ..;have c1:=lF n oO;have c2:=kI X p9 (gM n) oO oC oO;have c3:=jJ (e9 X p9 (gM n)) uU [tgt] (by rw[ic];decide) oC (by simp) (by simp) (by simp;omega)
     have lS:=dL (e9 X p9 (gM n)) uU [tgt];generalize eF (e9 X p9 (gM n)) uU [tgt]=S0 at*;simp only[br,bH]at c3;clear hR hq;refine rT (aN @e2 @l4) @c1 @c2 @c3 oT ?_;refine aq (α:=Nat) (fun k=>ts.length-k) (fun k=>⟨[(0, .v (.s ((ts.take k).foldl jY S0))),(50, .v (.sl (es.map dS.pv))),(51,E' es.length),(52,E' i),(67, .v (.sl (ts.map fS.pv))),(68,E' ts.length),(69,E' k)],[],_⟩) (fun k=>k<=ts.length) 0 (fun _=>aB _) (aT _) ?_ ?_
     ·(refine AS.Le.of (by first|decide|omega) ?_ ?_<;>simp[dG,dF,aO,hget,AV.bd,AV.bd.bdL,u8,ar,au,az])
      all_goals rfl
     ·clear c1 c2 c3 e2;intro k hk R' hR'
      by_cases hkt:k<ts.length
      ·have e3:=getD_map fS.pv ts jl hkt;have hgo':=hR' (k+1) oO oO;rw[fZ jY S0 jl hkt]at hgo';obtain⟨v1,v2,lb,la⟩:=ht _ (aG jl hkt);have hY:=mf (l:=ts.take k) lS;generalize (ts.take k).foldl jY S0=Y at hgo' hY⊢;generalize ts.getD k jl=t at*;obtain⟨base,vr,ng,ab⟩:=t;simp only at v1 v2 lb la;obtain⟨v,rfl⟩: ∃v:Nat,vr=(v:Int):=⟨vr.toNat,oO⟩;have e3:(ts.map fS.pv).getD k .fn0= .agg [.s base, .i .i64 (v:Int), .b ng, .s ab]:=e3;simp only[jY,Int.toNat_natCast]at hgo';have lv:=kV v;have c4:=lF v oO;have c5:=kI Y uV (gM v) oO oC oO;have c6:=jJ (e9 Y uV (gM v)) sV [base] (by rw[ic];decide) oC (by simp) (by simp) (by simp;omega)
       have c7:=s8 (eF (e9 Y uV (gM v)) sV [base]) Fo ng ab (by rw[dL];decide) oC oO
       simp only[br,bH]at c6;clear hR' hgo;refine zT (aN @e3 @l4) @c4 @c5 @c6 @c7 ?_;refine hgo' _ ?_
       (refine AS.Le.of (by first|decide|omega) ?_ ?_<;>simp[dG,dF,aO,hget,AV.bd,AV.bd.bdL,u8,ar,au,az])
       all_goals first|omega|skip
      ·have h:k=ts.length:=oO;rw[h,cq];refine eJ @l4 ?_;refine hgo _ ?_
       (refine AS.Le.of (by first|decide|omega) ?_ ?_<;>simp[dG,dF,aO,hget,AV.bd,AV.bd.bdL,u8,ar,au,az])
       all_goals first|omega|skip
    ·have h:i=es.length:=oO;rw[h,cq];exact z0
  ·obtain⟨w0,wr,hw⟩: ∃a b,vs=a::b:=List.exists_cons_of_ne_nil hv0;have hvl:vs.length=wr.length+1:=by rw[hw];rfl
   have hpos: ∀ _:True,(0:Int)<(vs.length:Int):=fun _=>oO
   have g0:(vs.map dE).getD 0 .fn0= .agg [.s w0]:=by rw[hw];rfl
   simp only[bH,show yj []=[]from rfl]at*
   generalize eF st zC []=s1 at*;generalize hS:eF s1 Bw vs=s0 at*;refine eW call187 func187 ?_;repeat' first|simp only[go_sem,seval]|(refine aj ?_)|refine oE ?_|apply xX<;>intro hc
   refine eJ (aN @g0 (hpos oT)) ?_;have hro:[AV.v (PV.s w0)]=bI PV.s (vs.take 1):=by rw[hw];rfl
   rw[hro];refine aq (α:=Nat) (fun j=>vs.length-j) (fun j=>⟨[(0, .v (.s st)),(3, .p 1000 0 0),(5, .sn),(6, .rs 1022 j 0 (1+j) 1),(31, .v (.sl (vs.map dE))),(32,E' vs.length),(33,E' (j+1))],[(1000,⟨0,[.v (.sl []), .v (.sl (vs.map dE)), .v (.sl (es.map dS.pv))],false,none⟩),(1022,⟨j,bI PV.s (vs.take (j+1)),true,some 22⟩)],1026⟩) (fun j=>j+1<=vs.length) 0 (fun _=>fk rfl) oO ?_ ?_
   ·(refine AS.Le.of (by first|decide|omega) ?_ ?_<;>simp[dG,dF,aO,hget,AV.bd,AV.bd.bdL,u8,ar,au,az])
    all_goals first|exact fun c hc=>cf hc|exact⟨fun c hc=>cf hc,fun c hc=>cf hc⟩
   ·intro j hj R hR;have hlr:(vs.take (j+1)).length=1+j:=by rw[da];omega
    have q0:(bI PV.s (vs.take (j+1))).length=1+j:=by rw[dw dq.s,hlr,eH]
    have q1:List.take (1+j) (bI PV.s (vs.take (j+1)))=bI PV.s (vs.take (j+1)):=dc oO
    by_cases hjt:j+1<vs.length
    ·have e2:=getD_map dE vs ([]:Bytes) hjt;have hgo:=hR (j+1) oO oO;rw[aY ([]:Bytes) hjt,dQ]at hgo;generalize vs.getD (j+1) []=y at e2 hgo;have e2:(vs.map dE).getD (j+1) .fn0= .agg [.s y]:=e2;have e3: ∀ _:True,((j:Int)+1).toNat=j+1:=fun _=>oO
     clear hR hlr n1 n2;refine eJ (aN @q0 (aN @q1 (aN @e2 (e3 oT)))) ?_;refine hgo _ ?_
     (refine AS.Le.of (by first|decide|omega) ?_ ?_<;>simp[dG,dF,aO,hget,AV.bd,AV.bd.bdL,u8,ar,au,az])
     all_goals first|omega|exact⟨rfl,fun c hc=>by rcases hc with hc|⟨a,ha,rfl⟩;exact cf hc;rfl⟩|exact⟨fun c hc=>cf hc,rfl,fun c hc=>by rcases hc with hc|⟨a,ha,rfl⟩;exact cf hc;rfl⟩|(intro c hc;rcases hc with hc|rfl|rfl;exact cf hc;rfl;rfl)
    ·have hj2:j+1=vs.length:=oO;rw[hj2,cq]at hlr q0 q1⊢;clear hR hpos g0 hro;repeat' first|simp only[go_sem,seval,q0,q1]|refine cV n1 ?_|(refine pJ (l:=vs) (g:=PV.s) (ver:=j) (gr:=true) (el:=some 22) n2 dq.s rfl (by simp[hget]) hlr.symm ?_)|refine oE ?_|apply xX<;>intro hc
     clear n1 n2;refine aq (α:=Nat) (fun i=>es.length-i) (fun i=>⟨[(0, .v (.s ((es.take i).foldl jW s0))),(50, .v (.sl (es.map dS.pv))),(51,E' es.length),(52,E' i)],[],_⟩) (fun i=>i<=es.length) 0 (fun _=>aB _) (aT _) ?_ ?_
     ·(refine AS.Le.of (by first|decide|omega) ?_ ?_<;>simp[dG,dF,aO,hget,AV.bd,AV.bd.bdL,u8,ar,au,az])
      all_goals rfl
     ·intro i hi R hR
      by_cases hit:i<es.length
      ·have e2:=getD_map dS.pv es jz hit;have hgo:=hR (i+1) oO oO;rw[fZ jW s0 jz hit]at hgo;obtain⟨g1,g2,g3,nt,ht⟩:=hq _ (aG jz hit);have hX:=mc (l:=es.take i) l2;generalize (es.take i).foldl jW s0=X at hgo hX⊢;generalize es.getD i jz=q at*;obtain⟨jA,tgt,ts⟩:=q;simp only at g1 g2 g3 nt ht;obtain⟨n,rfl⟩: ∃n:Nat,jA=(n:Int):=⟨jA.toNat,oO⟩;have e2:(es.map dS.pv).getD i .fn0= .agg [.i .i64 (n:Int), .s tgt, .sl (ts.map fS.pv)]:=e2;simp only[jW,Int.toNat_natCast]at hgo;have ln:=kV n;have l4:(ts.map fS.pv).length=ts.length:=aR ..;have c1:=lF n oO;have c2:=kI X p9 (gM n) oO oC oO;have c3:=jJ (e9 X p9 (gM n)) uU [tgt] (by rw[ic];decide) oC (by simp) (by simp) (by simp;omega)
       have lS:=dL (e9 X p9 (gM n)) uU [tgt];generalize eF (e9 X p9 (gM n)) uU [tgt]=S0 at*;simp only[br,bH]at c3;clear hR hq;refine rT (aN @e2 @l4) @c1 @c2 @c3 oT ?_;refine aq (α:=Nat) (fun k=>ts.length-k) (fun k=>⟨[(0, .v (.s ((ts.take k).foldl jY S0))),(50, .v (.sl (es.map dS.pv))),(51,E' es.length),(52,E' i),(67, .v (.sl (ts.map fS.pv))),(68,E' ts.length),(69,E' k)],[],_⟩) (fun k=>k<=ts.length) 0 (fun _=>aB _) (aT _) ?_ ?_
       ·(refine AS.Le.of (by first|decide|omega) ?_ ?_<;>simp[dG,dF,aO,hget,AV.bd,AV.bd.bdL,u8,ar,au,az])
        all_goals rfl
       ·clear c1 c2 c3 e2;intro k hk R' hR'
        by_cases hkt:k<ts.length
        ·have e3:=getD_map fS.pv ts jl hkt;have hgo':=hR' (k+1) oO oO;rw[fZ jY S0 jl hkt]at hgo';obtain⟨v1,v2,lb,la⟩:=ht _ (aG jl hkt);have hY:=mf (l:=ts.take k) lS;generalize (ts.take k).foldl jY S0=Y at hgo' hY⊢;generalize ts.getD k jl=t at*;obtain⟨base,vr,ng,ab⟩:=t;simp only at v1 v2 lb la;obtain⟨v,rfl⟩: ∃v:Nat,vr=(v:Int):=⟨vr.toNat,oO⟩;have e3:(ts.map fS.pv).getD k .fn0= .agg [.s base, .i .i64 (v:Int), .b ng, .s ab]:=e3;simp only[jY,Int.toNat_natCast]at hgo';have lv:=kV v;have c4:=lF v oO;have c5:=kI Y uV (gM v) oO oC oO;have c6:=jJ (e9 Y uV (gM v)) sV [base] (by rw[ic];decide) oC (by simp) (by simp) (by simp;omega)
         have c7:=s8 (eF (e9 Y uV (gM v)) sV [base]) Fo ng ab (by rw[dL];decide) oC oO
         simp only[br,bH]at c6;clear hR' hgo;refine zT (aN @e3 @l4) @c4 @c5 @c6 @c7 ?_;refine hgo' _ ?_
         (refine AS.Le.of (by first|decide|omega) ?_ ?_<;>simp[dG,dF,aO,hget,AV.bd,AV.bd.bdL,u8,ar,au,az])
         all_goals first|omega|skip
        ·have h:k=ts.length:=oO;rw[h,cq];refine eJ @l4 ?_;refine hgo _ ?_
         (refine AS.Le.of (by first|decide|omega) ?_ ?_<;>simp[dG,dF,aO,hget,AV.bd,AV.bd.bdL,u8,ar,au,az])
         all_goals first|omega|skip
      ·have h:i=es.length:=oO;rw[h,cq];exact z0
 obtain⟨g1,gr,hgg⟩: ∃a b,gs=a::b:=List.exists_cons_of_ne_nil hg0;have hgl:gs.length=gr.length+1:=by rw[hgg];rfl
 have hgp: ∀ _:True,(0:Int)<(gs.length:Int):=fun _=>oO
 have gg0:(gs.map gV).getD 0 .fn0= .agg [.s g1.1, .s g1.2]:=by rw[hgg];rfl
 have hrog:[AV.v (.s g1.1),AV.v (.s g1.2)]=bI PV.s (yj (gs.take 1)):=by rw[hgg];rfl
 generalize hS1:eF st zC (yj gs)=s1 at*;generalize hS:eF s1 Bw vs=s0 at*;refine eW call187 func187 ?_;refine fq @l1 ?_;refine aj ?_;refine eJ (aN @l1 (aN @gg0 (hgp oT))) ?_;rw[hrog];refine aq (α:=Nat) (fun j=>gs.length-j) (fun j=>⟨[(0, .v (.s st)),(3, .p 1000 0 0),(5, .rs 1019 j 0 (2+2*j) 1),(6, .sn),(16, .v (.sl (gs.map gV))),(17,E' gs.length),(18,E' (j+1))],[(1000,⟨0,[.v (.sl (gs.map gV)), .v (.sl (vs.map dE)), .v (.sl (es.map dS.pv))],false,none⟩),(1019,⟨j,bI PV.s (yj (gs.take (j+1))),true,some 22⟩)],1023⟩) (fun j=>j+1<=gs.length) 0 (fun _=>fk rfl) oO ?_ ?_
 ·(refine AS.Le.of (by first|decide|omega) ?_ ?_<;>simp[dG,dF,aO,hget,AV.bd,AV.bd.bdL,u8,ar,au,az])
  all_goals first|exact fun c hc=>cf hc|exact⟨fun c hc=>cf hc,fun c hc=>cf hc⟩
 ·intro jg hjg R hR;have hlg:(yj (gs.take (jg+1))).length=2+2*jg:=by rw[H8,da];omega
  have p0:(bI PV.s (yj (gs.take (jg+1)))).length=2+2*jg:=by rw[dw dq.s,hlg,eH]
  have p1:List.take (2+2*jg) (bI PV.s (yj (gs.take (jg+1))))=bI PV.s (yj (gs.take (jg+1))):=dc oO
  by_cases hjt:jg+1<gs.length
  ·have e2:=getD_map gV gs (([],[]):Bytes×Bytes) hjt;have hgo:=hR (jg+1) oO oO;rw[aY (([],[]):Bytes×Bytes) hjt,Nc]at hgo;generalize gs.getD (jg+1) ([],[])=y at e2 hgo;have e2:(gs.map gV).getD (jg+1) .fn0= .agg [.s y.1, .s y.2]:=e2;have e3: ∀ _:True,((jg:Int)+1).toNat=jg+1:=fun _=>oO
   clear hR hlg n1 n2;refine eJ (aN @p0 (aN @p1 (aN @e2 (aN (e3 oT) @l1)))) ?_;refine hgo _ ?_
   (refine AS.Le.of (by first|decide|omega) ?_ ?_<;>simp[dG,dF,aO,hget,AV.bd,AV.bd.bdL,u8,ar,au,az])
   all_goals first|omega|exact⟨rfl,fun c hc=>by rcases hc with hc|⟨a,ha,rfl⟩;exact cf hc;rfl⟩|exact⟨fun c hc=>cf hc,rfl,fun c hc=>by rcases hc with hc|⟨a,ha,rfl⟩;exact cf hc;rfl⟩|(intro c hc;rcases hc with hc|rfl|rfl;exact cf hc;rfl;rfl)
  ·have hj2:jg+1=gs.length:=oO;rw[hj2,cq]at hlg p0 p1⊢;clear hR hgp gg0 hrog
   by_cases hv0:vs=[]
   ·subst hv0;simp only[bH]at*;refine fq (aN @l1 (aN @p0 @p1)) ?_;refine aj ?_;repeat' first|simp only[go_sem,seval,p0,p1]|refine cV n2 ?_|(refine pJ (l:=yj gs) (g:=PV.s) (ver:=jg) (gr:=true) (el:=some 22) n1 dq.s rfl (by simp[hget]) hlg.symm ?_)|refine oE ?_|apply xX<;>intro hc
    clear n1 n2;refine aq (α:=Nat) (fun i=>es.length-i) (fun i=>⟨[(0, .v (.s ((es.take i).foldl jW s0))),(50, .v (.sl (es.map dS.pv))),(51,E' es.length),(52,E' i)],[],_⟩) (fun i=>i<=es.length) 0 (fun _=>aB _) (aT _) ?_ ?_
    ·(refine AS.Le.of (by first|decide|omega) ?_ ?_<;>simp[dG,dF,aO,hget,AV.bd,AV.bd.bdL,u8,ar,au,az])
     all_goals rfl
    ·intro i hi R hR
     by_cases hit:i<es.length
     ·have e2:=getD_map dS.pv es jz hit;have hgo:=hR (i+1) oO oO;rw[fZ jW s0 jz hit]at hgo;obtain⟨g1,g2,g3,nt,ht⟩:=hq _ (aG jz hit);have hX:=mc (l:=es.take i) l2;generalize (es.take i).foldl jW s0=X at hgo hX⊢;generalize es.getD i jz=q at*;obtain⟨jA,tgt,ts⟩:=q;simp only at g1 g2 g3 nt ht;obtain⟨n,rfl⟩: ∃n:Nat,jA=(n:Int):=⟨jA.toNat,oO⟩;have e2:(es.map dS.pv).getD i .fn0= .agg [.i .i64 (n:Int), .s tgt, .sl (ts.map fS.pv)]:=e2;simp only[jW,Int.toNat_natCast]at hgo;have ln:=kV n;have l4:(ts.map fS.pv).length=ts.length:=aR ..;have c1:=lF n oO;have c2:=kI X p9 (gM n) oO oC oO;have c3:=jJ (e9 X p9 (gM n)) uU [tgt] (by rw[ic];decide) oC (by simp) (by simp) (by simp;omega)
      have lS:=dL (e9 X p9 (gM n)) uU [tgt];generalize eF (e9 X p9 (gM n)) uU [tgt]=S0 at*;simp only[br,bH]at c3;clear hR hq;refine rT (aN @e2 @l4) @c1 @c2 @c3 oT ?_;refine aq (α:=Nat) (fun k=>ts.length-k) (fun k=>⟨[(0, .v (.s ((ts.take k).foldl jY S0))),(50, .v (.sl (es.map dS.pv))),(51,E' es.length),(52,E' i),(67, .v (.sl (ts.map fS.pv))),(68,E' ts.length),(69,E' k)],[],_⟩) (fun k=>k<=ts.length) 0 (fun _=>aB _) (aT _) ?_ ?_
      ·(refine AS.Le.of (by first|decide|omega) ?_ ?_<;>simp[dG,dF,aO,hget,AV.bd,AV.bd.bdL,u8,ar,au,az])
       all_goals rfl
      ·clear c1 c2 c3 e2;intro k hk R' hR'
       by_cases hkt:k<ts.length
       ·have e3:=getD_map fS.pv ts jl hkt;have hgo':=hR' (k+1) oO oO;rw[fZ jY S0 jl hkt]at hgo';obtain⟨v1,v2,lb,la⟩:=ht _ (aG jl hkt);have hY:=mf (l:=ts.take k) lS;generalize (ts.take k).foldl jY S0=Y at hgo' hY⊢;generalize ts.getD k jl=t at*;obtain⟨base,vr,ng,ab⟩:=t;simp only at v1 v2 lb la;obtain⟨v,rfl⟩: ∃v:Nat,vr=(v:Int):=⟨vr.toNat,oO⟩;have e3:(ts.map fS.pv).getD k .fn0= .agg [.s base, .i .i64 (v:Int), .b ng, .s ab]:=e3;simp only[jY,Int.toNat_natCast]at hgo';have lv:=kV v;have c4:=lF v oO;have c5:=kI Y uV (gM v) oO oC oO;have c6:=jJ (e9 Y uV (gM v)) sV [base] (by rw[ic];decide) oC (by simp) (by simp) (by simp;omega)
        have c7:=s8 (eF (e9 Y uV (gM v)) sV [base]) Fo ng ab (by rw[dL];decide) oC oO
        simp only[br,bH]at c6;clear hR' hgo;refine zT (aN @e3 @l4) @c4 @c5 @c6 @c7 ?_;refine hgo' _ ?_
        (refine AS.Le.of (by first|decide|omega) ?_ ?_<;>simp[dG,dF,aO,hget,AV.bd,AV.bd.bdL,u8,ar,au,az])
        all_goals first|omega|skip
       ·have h:k=ts.length:=oO;rw[h,cq];refine eJ @l4 ?_;refine hgo _ ?_
        (refine AS.Le.of (by first|decide|omega) ?_ ?_<;>simp[dG,dF,aO,hget,AV.bd,AV.bd.bdL,u8,ar,au,az])
        all_goals first|omega|skip
     ·have h:i=es.length:=oO;rw[h,cq];exact z0
   ·obtain⟨w0,wr,hw⟩: ∃a b,vs=a::b:=List.exists_cons_of_ne_nil hv0;have hvl:vs.length=wr.length+1:=by rw[hw];rfl
    have hpos: ∀ _:True,(0:Int)<(vs.length:Int):=fun _=>oO
    have g0:(vs.map dE).getD 0 .fn0= .agg [.s w0]:=by rw[hw];rfl
    refine fq (aN @l1 (aN @p0 @p1)) ?_;refine aj ?_;refine eJ (aN @g0 (aN (hpos oT) (aN @p0 @p1))) ?_;have hro:[AV.v (PV.s w0)]=bI PV.s (vs.take 1):=by rw[hw];rfl
    rw[hro];refine aq (α:=Nat) (fun j=>vs.length-j) (fun j=>⟨[(0, .v (.s st)),(3, .p 1000 0 0),(5, .rs 1019 jg 0 (2+2*jg) 1),(6, .rs 1037 j 0 (1+j) 1),(31, .v (.sl (vs.map dE))),(32,E' vs.length),(33,E' (j+1))],[(1000,⟨0,[.v (.sl (gs.map gV)), .v (.sl (vs.map dE)), .v (.sl (es.map dS.pv))],false,none⟩),(1019,⟨jg,bI PV.s (yj gs),true,some 22⟩),(1037,⟨j,bI PV.s (vs.take (j+1)),true,some 22⟩)],1041⟩) (fun j=>j+1<=vs.length) 0 (fun _=>fk rfl) oO ?_ ?_
    ·(refine AS.Le.of (by first|decide|omega) ?_ ?_<;>simp[dG,dF,aO,hget,AV.bd,AV.bd.bdL,u8,ar,au,az])
     all_goals first|exact fun c hc=>cf hc|exact⟨fun c hc=>cf hc,fun c hc=>cf hc⟩
    ·intro j hj R hR;have hlr:(vs.take (j+1)).length=1+j:=by rw[da];omega
     have q0:(bI PV.s (vs.take (j+1))).length=1+j:=by rw[dw dq.s,hlr,eH]
     have q1:List.take (1+j) (bI PV.s (vs.take (j+1)))=bI PV.s (vs.take (j+1)):=dc oO
     by_cases hjt:j+1<vs.length
     ·have e2:=getD_map dE vs ([]:Bytes) hjt;have hgo:=hR (j+1) oO oO;rw[aY ([]:Bytes) hjt,dQ]at hgo;generalize vs.getD (j+1) []=y at e2 hgo;have e2:(vs.map dE).getD (j+1) .fn0= .agg [.s y]:=e2;have e3: ∀ _:True,((j:Int)+1).toNat=j+1:=fun _=>oO
      clear hR hlr n1 n2;refine eJ (aN @q0 (aN @q1 (aN @e2 (e3 oT)))) ?_;refine hgo _ ?_
      (refine AS.Le.of (by first|decide|omega) ?_ ?_<;>simp[dG,dF,aO,hget,AV.bd,AV.bd.bdL,u8,ar,au,az])
      all_goals first|omega|exact⟨rfl,fun c hc=>by rcases hc with hc|⟨a,ha,rfl⟩;exact cf hc;rfl⟩|exact⟨fun c hc=>cf hc,rfl,fun c hc=>by rcases hc with hc|⟨a,ha,rfl⟩;exact cf hc;rfl⟩|(intro c hc;rcases hc with hc|rfl|rfl;exact cf hc;rfl;rfl)
     ·have hj2:j+1=vs.length:=oO;rw[hj2,cq]at hlr q0 q1⊢;clear hR hpos g0 hro;repeat' first|simp only[go_sem,seval,q0,q1,p0,p1]|(refine pJ (l:=yj gs) (g:=PV.s) (ver:=jg) (gr:=true) (el:=some 22) n1 dq.s rfl (by simp[hget]) hlg.symm ?_)|(refine pJ (l:=vs) (g:=PV.s) (ver:=j) (gr:=true) (el:=some 22) n2 dq.s rfl (by simp[hget]) hlr.symm ?_)|refine oE ?_|apply xX<;>intro hc
      clear n1 n2;refine aq (α:=Nat) (fun i=>es.length-i) (fun i=>⟨[(0, .v (.s ((es.take i).foldl jW s0))),(50, .v (.sl (es.map dS.pv))),(51,E' es.length),(52,E' i)],[],_⟩) (fun i=>i<=es.length) 0 (fun _=>aB _) (aT _) ?_ ?_
      ·(refine AS.Le.of (by first|decide|omega) ?_ ?_<;>simp[dG,dF,aO,hget,AV.bd,AV.bd.bdL,u8,ar,au,az])
       all_goals rfl
      ·intro i hi R hR
       by_cases hit:i<es.length
       ·have e2:=getD_map dS.pv es jz hit;have hgo:=hR (i+1) oO oO;rw[fZ jW s0 jz hit]at hgo;obtain⟨g1,g2,g3,nt,ht⟩:=hq _ (aG jz hit);have hX:=mc (l:=es.take i) l2;generalize (es.take i).foldl jW s0=X at hgo hX⊢;generalize es.getD i jz=q at*;obtain⟨jA,tgt,ts⟩:=q;simp only at g1 g2 g3 nt ht;obtain⟨n,rfl⟩: ∃n:Nat,jA=(n:Int):=⟨jA.toNat,oO⟩;have e2:(es.map dS.pv).getD i .fn0= .agg [.i .i64 (n:Int), .s tgt, .sl (ts.map fS.pv)]:=e2;simp only[jW,Int.toNat_natCast]at hgo;have ln:=kV n;have l4:(ts.map fS.pv).length=ts.length:=aR ..;have c1:=lF n oO;have c2:=kI X p9 (gM n) oO oC oO;have c3:=jJ (e9 X p9 (gM n)) uU [tgt] (by rw[ic];decide) oC (by simp) (by simp) (by simp;omega)
        have lS:=dL (e9 X p9 (gM n)) uU [tgt];generalize eF (e9 X p9 (gM n)) uU [tgt]=S0 at*;simp only[br,bH]at c3;clear hR hq;refine rT (aN @e2 @l4) @c1 @c2 @c3 oT ?_;refine aq (α:=Nat) (fun k=>ts.length-k) (fun k=>⟨[(0, .v (.s ((ts.take k).foldl jY S0))),(50, .v (.sl (es.map dS.pv))),(51,E' es.length),(52,E' i),(67, .v (.sl (ts.map fS.pv))),(68,E' ts.length),(69,E' k)],[],_⟩) (fun k=>k<=ts.length) 0 (fun _=>aB _) (aT _) ?_ ?_
        ·(refine AS.Le.of (by first|decide|omega) ?_ ?_<;>simp[dG,dF,aO,hget,AV.bd,AV.bd.bdL,u8,ar,au,az])
         all_goals rfl
        ·clear c1 c2 c3 e2;intro k hk R' hR'
         by_cases hkt:k<ts.length
         ·have e3:=getD_map fS.pv ts jl hkt;have hgo':=hR' (k+1) oO oO;rw[fZ jY S0 jl hkt]at hgo';obtain⟨v1,v2,lb,la⟩:=ht _ (aG jl hkt);have hY:=mf (l:=ts.take k) lS;generalize (ts.take k).foldl jY S0=Y at hgo' hY⊢;generalize ts.getD k jl=t at*;obtain⟨base,vr,ng,ab⟩:=t;simp only at v1 v2 lb la;obtain⟨v,rfl⟩: ∃v:Nat,vr=(v:Int):=⟨vr.toNat,oO⟩;have e3:(ts.map fS.pv).getD k .fn0= .agg [.s base, .i .i64 (v:Int), .b ng, .s ab]:=e3;simp only[jY,Int.toNat_natCast]at hgo';have lv:=kV v;have c4:=lF v oO;have c5:=kI Y uV (gM v) oO oC oO;have c6:=jJ (e9 Y uV (gM v)) sV [base] (by rw[ic];decide) oC (by simp) (by simp) (by simp;omega)
          have c7:=s8 (eF (e9 Y uV (gM v)) sV [base]) Fo ng ab (by rw[dL];decide) oC oO
          simp only[br,bH]at c6;clear hR' hgo;refine zT (aN @e3 @l4) @c4 @c5 @c6 @c7 ?_;refine hgo' _ ?_
          (refine AS.Le.of (by first|decide|omega) ?_ ?_<;>simp[dG,dF,aO,hget,AV.bd,AV.bd.bdL,u8,ar,au,az])
          all_goals first|omega|skip
         ·have h:k=ts.length:=oO;rw[h,cq];refine eJ @l4 ?_;refine hgo _ ?_
          (refine AS.Le.of (by first|decide|omega) ?_ ?_<;>simp[dG,dF,aO,hget,AV.bd,AV.bd.bdL,u8,ar,au,az])
          all_goals first|omega|skip
       ·have h:i=es.length:=oO;rw[h,cq];exact z0
