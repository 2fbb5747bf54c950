/- Part of the proof. -/
import Derived.Test.YthlapgdhjcddkaaGreatDoorUF43
import Derived.Test.YthlapgdhjcddkaaGreatDoorUF44
set_option linter.all false
set_option maxHeartbeats 16000000
set_option maxRecDepth 100000
namespace Go.Proofs.Tryz
open Go Go.Dom Go.Num
theorem uQ (st l:Bytes) (xs:List Bytes) (h1:st.length<=100000) (h2:l.length<=100000) (hn:xs.length<=900) (h3: ∀x∈xs,x.length<=100000):aH 41 [.s st, .s l, .sl (xs.map .s)] (.s (cY st l xs)):=by
 by_cases h0:xs=[]
 ·subst h0;have h:=wU 76 (kd:=[76]) rfl [st,l] (by simp) (by intro s hs;simp at hs;rcases hs with rfl|rfl<;>assumption)
  simp only[b8,cb]at h⊢;refine eW call41 func41 ?_;exact YY @h
 ·exact iy st l xs h1 h2 h0 hn h3
theorem Pw {st:Bytes} (hst:st.length<=1000) {s:aT} (hs:Ux s):aH 39 [.s st,s.pv] (.s (gn st s)):=by
 obtain⟨ng,hg,nv,hv,ne,hq⟩:=hs;obtain⟨gs,vs,es⟩:=s;simp only at ng hg nv hv ne hq;have l1:(gs.map cz).length=gs.length:=au ..;simp only[gn,aT.pv];rw[show(gs.flatMap fun g=>[g.1,g.2])=px gs from rfl]
 have gl:=yq gs;have gb: ∀x∈px gs,x.length<=1000:=fun x hx=>by
  unfold px at hx;obtain⟨g,hgm,hx⟩:=jy.1 hx;have:=hg g hgm;simp at hx;rcases hx with rfl|rfl
  ·exact this.1
  ·exact this.2
 have n1:=uQ st pI (px gs) oO oC oO (fun x hx=>by have:=gb x hx;omega)
 have n2:=uQ (cY st pI (px gs)) rj vs (by rw[cL];decide) oC oO (fun x hx=>by have:=hv x hx;omega)
 have l2:=cL (cY st pI (px gs)) rj vs
 by_cases hg0:gs=[]
 ·subst hg0;clear gl gb l1 hg ng
  by_cases hv0:vs=[]
  ·subst hv0;simp only[cb,show px []=[]from rfl]at*
   generalize hS:cY (cY st pI []) rj []=s0 at*;refine eW call39 func39 ?_;repeat' first|simp only[go_sem,seval]|(refine aq ?_)|refine oE ?_|apply xX<;>intro hc
   repeat' first|simp only[go_sem,seval]|refine cV n1 ?_|refine cV n2 ?_|refine oE ?_|apply xX<;>intro hc
   clear n1 n2;refine ah (α:=Nat) (fun i=>es.length-i) (fun i=>⟨[(0, .v (.s ((es.take i).foldl fB s0))),(3, .p 1000 0 0),(9,E' i)],[(1000,⟨0,[.v (.sl []), .v (.sl []), .v (.sl (es.map bZ.pv))],false,none⟩)],1023⟩) (fun i=>i<=es.length) 0 (fun _=>cd rfl) (aD _) ?_ ?_
   ·(refine AS.Le.of (by first|decide|omega) ?_ ?_<;>simp[cU,cT,aO,az,AV.bd,AV.bd.bdL,u8,aj,ak,an])
    all_goals rfl
   ·intro i hi R hR
    by_cases hit:i<es.length
    ·have e2:=getD_map bZ.pv es dU hit;have hgo:=hR (i+1) oO oO;rw[dB fB s0 dU hit]at hgo;obtain⟨g1,g2,g3,nt,ht⟩:=hq _ (ai dU hit);have hX:=iq (l:=es.take i) l2;generalize (es.take i).foldl fB s0=X at hgo hX⊢;generalize es.getD i dU=q at*;obtain⟨ig,tgt,ts⟩:=q;simp only at g1 g2 g3 nt ht;obtain⟨n,rfl⟩: ∃n:Nat,ig=(n:Int):=⟨ig.toNat,oO⟩;have e2:(es.map bZ.pv).getD i .fn0= .agg [.i .i64 (n:Int), .s tgt, .sl (ts.map dx.pv)]:=e2;simp only[fB,Int.toNat_natCast]at hgo;have ln:=dA n;have l4:(ts.map dx.pv).length=ts.length:=au ..;have c1:=il n oO;have c2:=iG X js (cF n) oO oC oO;have c3:=iy (cZ X js (cF n)) mH [tgt] (by rw[dT];decide) oC (by simp) (by simp) (by simp;omega)
     have lS:=cL (cZ X js (cF n)) mH [tgt];generalize cY (cZ X js (cF n)) mH [tgt]=S0 at*;simp only[b8,cb]at c3;clear hR hq;refine mK (aN @e2 @l4) @c1 @c2 @c3 oT ?_;refine ah (α:=Nat) (fun k=>ts.length-k) (fun k=>⟨[(0, .v (.s ((ts.take k).foldl fC S0))),(3, .p 1000 0 0),(9,E' i),(10, .p 1033 0 0),(11,E' k)],[(1000,⟨0,[.v (.sl []), .v (.sl []), .v (.sl (es.map bZ.pv))],false,none⟩),(1033,⟨0,[.v (.i .i64 (n:Int)), .v (.s tgt), .v (.sl (ts.map dx.pv))],false,some 119⟩)],_⟩) (fun k=>k<=ts.length) 0 (fun _=>aA _) (aD _) ?_ ?_
     ·(refine AS.Le.of (by first|decide|omega) ?_ ?_<;>simp[cU,cT,aO,az,AV.bd,AV.bd.bdL,u8,aj,ak,an])
      all_goals rfl
     ·clear c1 c2 c3 e2;intro k hk R' hR'
      by_cases hkt:k<ts.length
      ·have e3:=getD_map dx.pv ts dN hkt;have hgo':=hR' (k+1) oO oO;rw[dB fC S0 dN hkt]at hgo';obtain⟨v1,v2,lb,la⟩:=ht _ (ai dN hkt);have hY:=ir (l:=ts.take k) lS;generalize (ts.take k).foldl fC S0=Y at hgo' hY⊢;generalize ts.getD k dN=t at*;obtain⟨base,vr,ng,ab⟩:=t;simp only at v1 v2 lb la;obtain⟨v,rfl⟩: ∃v:Nat,vr=(v:Int):=⟨vr.toNat,oO⟩;have e3:(ts.map dx.pv).getD k .fn0= .agg [.s base, .i .i64 (v:Int), .b ng, .s ab]:=e3;simp only[fC,Int.toNat_natCast]at hgo';have lv:=dA v;have c4:=il v oO;have c5:=iG Y mI (cF v) oO oC oO;have c6:=iy (cZ Y mI (cF v)) mE [base] (by rw[dT];decide) oC (by simp) (by simp) (by simp;omega)
       have c7:=qe (cY (cZ Y mI (cF v)) mE [base]) uX ng ab (by rw[cL];decide) oC oO
       simp only[b8,cb]at c6;clear hR' hgo;refine nX (aN @e3 @l4) @c4 @c5 @c6 @c7 ?_;refine hgo' _ ?_
       (refine AS.Le.of (by first|decide|omega) ?_ ?_<;>simp[cU,cT,aO,az,AV.bd,AV.bd.bdL,u8,aj,ak,an])
       all_goals first|omega|skip
      ·have h:k=ts.length:=oO;rw[h,bm];refine dw @l4 ?_;refine hgo _ ?_
       (refine AS.Le.of (by first|decide|omega) ?_ ?_<;>simp[cU,cT,aO,az,AV.bd,AV.bd.bdL,u8,aj,ak,an])
       all_goals first|omega|skip
    ·have h:i=es.length:=oO;rw[h,bm];exact z0
  ·obtain⟨w0,wr,hw⟩: ∃a b,vs=a::b:=List.exists_cons_of_ne_nil hv0;have hvl:vs.length=wr.length+1:=by rw[hw];rfl
   have hpos: ∀ _:True,(0:Int)<(vs.length:Int):=fun _=>oO
   have g0:(vs.map bO).getD 0 .fn0= .agg [.s w0]:=by rw[hw];rfl
   simp only[cb,show px []=[]from rfl]at*
   generalize cY st pI []=s1 at*;generalize hS:cY s1 rj vs=s0 at*;refine eW call39 func39 ?_;repeat' first|simp only[go_sem,seval]|(refine aq ?_)|refine oE ?_|apply xX<;>intro hc
   refine dw (aN @g0 (hpos oT)) ?_;have hro:[AV.v (PV.s w0)]=aP PV.s (vs.take 1):=by rw[hw];rfl
   rw[hro];refine ah (α:=Nat) (fun j=>vs.length-j) (fun j=>⟨[(0, .v (.s st)),(3, .p 1000 0 0),(5, .sn),(6, .rs 1024 j 0 (1+j) 1),(8,E' (j+1))],[(1000,⟨0,[.v (.sl []), .v (.sl (vs.map bO)), .v (.sl (es.map bZ.pv))],false,none⟩),(1024,⟨j,aP PV.s (vs.take (j+1)),true,some 22⟩)],1029⟩) (fun j=>j+1<=vs.length) 0 (fun _=>cd rfl) oO ?_ ?_
   ·(refine AS.Le.of (by first|decide|omega) ?_ ?_<;>simp[cU,cT,aO,az,AV.bd,AV.bd.bdL,u8,aj,ak,an])
    all_goals first|exact fun c hc=>bj hc|exact⟨fun c hc=>bj hc,fun c hc=>bj hc⟩
   ·intro j hj R hR;have hlr:(vs.take (j+1)).length=1+j:=by rw[bQ];omega
    have q0:(aP PV.s (vs.take (j+1))).length=1+j:=by rw[bT cH.s,hlr,dr]
    have q1:List.take (1+j) (aP PV.s (vs.take (j+1)))=aP PV.s (vs.take (j+1)):=cQ oO
    by_cases hjt:j+1<vs.length
    ·have e2:=getD_map bO vs ([]:Bytes) hjt;have hgo:=hR (j+1) oO oO;rw[aL ([]:Bytes) hjt,bU]at hgo;generalize vs.getD (j+1) []=y at e2 hgo;have e2:(vs.map bO).getD (j+1) .fn0= .agg [.s y]:=e2;have e3: ∀ _:True,((j:Int)+1).toNat=j+1:=fun _=>oO
     clear hR hlr n1 n2;refine dw (aN @q0 (aN @q1 (aN @e2 (e3 oT)))) ?_;refine hgo _ ?_
     (refine AS.Le.of (by first|decide|omega) ?_ ?_<;>simp[cU,cT,aO,az,AV.bd,AV.bd.bdL,u8,aj,ak,an])
     all_goals first|omega|exact⟨rfl,fun c hc=>by rcases hc with hc|⟨a,ha,rfl⟩;exact bj hc;rfl⟩|exact⟨fun c hc=>bj hc,rfl,fun c hc=>by rcases hc with hc|⟨a,ha,rfl⟩;exact bj hc;rfl⟩|(intro c hc;rcases hc with hc|rfl|rfl;exact bj hc;rfl;rfl)
    ·have hj2:j+1=vs.length:=oO;rw[hj2,bm]at hlr q0 q1⊢;clear hR hpos g0 hro;repeat' first|simp only[go_sem,seval,q0,q1]|refine cV n1 ?_|(refine mj (l:=vs) (g:=PV.s) (ver:=j) (gr:=true) (el:=some 22) n2 cH.s rfl (by simp[az]) hlr.symm ?_)|refine oE ?_|apply xX<;>intro hc
     clear n1 n2;refine ah (α:=Nat) (fun i=>es.length-i) (fun i=>⟨[(0, .v (.s ((es.take i).foldl fB s0))),(3, .p 1000 0 0),(9,E' i)],[(1000,⟨0,[.v (.sl []), .v (.sl (vs.map bO)), .v (.sl (es.map bZ.pv))],false,none⟩)],1041⟩) (fun i=>i<=es.length) 0 (fun _=>cd rfl) (aD _) ?_ ?_
     ·(refine AS.Le.of (by first|decide|omega) ?_ ?_<;>simp[cU,cT,aO,az,AV.bd,AV.bd.bdL,u8,aj,ak,an])
      all_goals rfl
     ·intro i hi R hR
      by_cases hit:i<es.length
      ·have e2:=getD_map bZ.pv es dU hit;have hgo:=hR (i+1) oO oO;rw[dB fB s0 dU hit]at hgo;obtain⟨g1,g2,g3,nt,ht⟩:=hq _ (ai dU hit);have hX:=iq (l:=es.take i) l2;generalize (es.take i).foldl fB s0=X at hgo hX⊢;generalize es.getD i dU=q at*;obtain⟨ig,tgt,ts⟩:=q;simp only at g1 g2 g3 nt ht;obtain⟨n,rfl⟩: ∃n:Nat,ig=(n:Int):=⟨ig.toNat,oO⟩;have e2:(es.map bZ.pv).getD i .fn0= .agg [.i .i64 (n:Int), .s tgt, .sl (ts.map dx.pv)]:=e2;simp only[fB,Int.toNat_natCast]at hgo;have ln:=dA n;have l4:(ts.map dx.pv).length=ts.length:=au ..;have c1:=il n oO;have c2:=iG X js (cF n) oO oC oO;have c3:=iy (cZ X js (cF n)) mH [tgt] (by rw[dT];decide) oC (by simp) (by simp) (by simp;omega)
       have lS:=cL (cZ X js (cF n)) mH [tgt];generalize cY (cZ X js (cF n)) mH [tgt]=S0 at*;simp only[b8,cb]at c3;clear hR hq;refine mK (aN @e2 @l4) @c1 @c2 @c3 oT ?_;refine ah (α:=Nat) (fun k=>ts.length-k) (fun k=>⟨[(0, .v (.s ((ts.take k).foldl fC S0))),(3, .p 1000 0 0),(9,E' i),(10, .p 1051 0 0),(11,E' k)],[(1000,⟨0,[.v (.sl []), .v (.sl (vs.map bO)), .v (.sl (es.map bZ.pv))],false,none⟩),(1051,⟨0,[.v (.i .i64 (n:Int)), .v (.s tgt), .v (.sl (ts.map dx.pv))],false,some 119⟩)],_⟩) (fun k=>k<=ts.length) 0 (fun _=>aA _) (aD _) ?_ ?_
       ·(refine AS.Le.of (by first|decide|omega) ?_ ?_<;>simp[cU,cT,aO,az,AV.bd,AV.bd.bdL,u8,aj,ak,an])
        all_goals rfl
       ·clear c1 c2 c3 e2;intro k hk R' hR'
        by_cases hkt:k<ts.length
        ·have e3:=getD_map dx.pv ts dN hkt;have hgo':=hR' (k+1) oO oO;rw[dB fC S0 dN hkt]at hgo';obtain⟨v1,v2,lb,la⟩:=ht _ (ai dN hkt);have hY:=ir (l:=ts.take k) lS;generalize (ts.take k).foldl fC S0=Y at hgo' hY⊢;generalize ts.getD k dN=t at*;obtain⟨base,vr,ng,ab⟩:=t;simp only at v1 v2 lb la;obtain⟨v,rfl⟩: ∃v:Nat,vr=(v:Int):=⟨vr.toNat,oO⟩;have e3:(ts.map dx.pv).getD k .fn0= .agg [.s base, .i .i64 (v:Int), .b ng, .s ab]:=e3;simp only[fC,Int.toNat_natCast]at hgo';have lv:=dA v;have c4:=il v oO;have c5:=iG Y mI (cF v) oO oC oO;have c6:=iy (cZ Y mI (cF v)) mE [base] (by rw[dT];decide) oC (by simp) (by simp) (by simp;omega)
         have c7:=qe (cY (cZ Y mI (cF v)) mE [base]) uX ng ab (by rw[cL];decide) oC oO
         simp only[b8,cb]at c6;clear hR' hgo;refine nX (aN @e3 @l4) @c4 @c5 @c6 @c7 ?_;refine hgo' _ ?_
         (refine AS.Le.of (by first|decide|omega) ?_ ?_<;>simp[cU,cT,aO,az,AV.bd,AV.bd.bdL,u8,aj,ak,an])
         all_goals first|omega|skip
        ·have h:k=ts.length:=oO;rw[h,bm];refine dw @l4 ?_;refine hgo _ ?_
         (refine AS.Le.of (by first|decide|omega) ?_ ?_<;>simp[cU,cT,aO,az,AV.bd,AV.bd.bdL,u8,aj,ak,an])
         all_goals first|omega|skip
      ·have h:i=es.length:=oO;rw[h,bm];exact z0
 obtain⟨g1,gr,hgg⟩: ∃a b,gs=a::b:=List.exists_cons_of_ne_nil hg0;have hgl:gs.length=gr.length+1:=by rw[hgg];rfl
 have hgp: ∀ _:True,(0:Int)<(gs.length:Int):=fun _=>oO
 have gg0:(gs.map cz).getD 0 .fn0= .agg [.s g1.1, .s g1.2]:=by rw[hgg];rfl
 have hrog:[AV.v (.s g1.1),AV.v (.s g1.2)]=aP PV.s (px (gs.take 1)):=by rw[hgg];rfl
 generalize hS1:cY st pI (px gs)=s1 at*;generalize hS:cY s1 rj vs=s0 at*;refine eW call39 func39 ?_;refine dh @l1 ?_;refine aq ?_;refine dw (aN @l1 (aN @gg0 (hgp oT))) ?_;rw[hrog];refine ah (α:=Nat) (fun j=>gs.length-j) (fun j=>⟨[(0, .v (.s st)),(3, .p 1000 0 0),(5, .rs 1024 j 0 (2+2*j) 1),(6, .sn),(7,E' (j+1))],[(1000,⟨0,[.v (.sl (gs.map cz)), .v (.sl (vs.map bO)), .v (.sl (es.map bZ.pv))],false,none⟩),(1024,⟨j,aP PV.s (px (gs.take (j+1))),true,some 22⟩)],1029⟩) (fun j=>j+1<=gs.length) 0 (fun _=>cd rfl) oO ?_ ?_
 ·(refine AS.Le.of (by first|decide|omega) ?_ ?_<;>simp[cU,cT,aO,az,AV.bd,AV.bd.bdL,u8,aj,ak,an])
  all_goals first|exact fun c hc=>bj hc|exact⟨fun c hc=>bj hc,fun c hc=>bj hc⟩
 ·intro jg hjg R hR;have hlg:(px (gs.take (jg+1))).length=2+2*jg:=by rw[yq,bQ];omega
  have p0:(aP PV.s (px (gs.take (jg+1)))).length=2+2*jg:=by rw[bT cH.s,hlg,dr]
  have p1:List.take (2+2*jg) (aP PV.s (px (gs.take (jg+1))))=aP PV.s (px (gs.take (jg+1))):=cQ oO
  by_cases hjt:jg+1<gs.length
  ·have e2:=getD_map cz gs (([],[]):Bytes×Bytes) hjt;have hgo:=hR (jg+1) oO oO;rw[aL (([],[]):Bytes×Bytes) hjt,FM]at hgo;generalize gs.getD (jg+1) ([],[])=y at e2 hgo;have e2:(gs.map cz).getD (jg+1) .fn0= .agg [.s y.1, .s y.2]:=e2;have e3: ∀ _:True,((jg:Int)+1).toNat=jg+1:=fun _=>oO
   clear hR hlg n1 n2;refine dw (aN @p0 (aN @p1 (aN @e2 (aN (e3 oT) @l1)))) ?_;refine hgo _ ?_
   (refine AS.Le.of (by first|decide|omega) ?_ ?_<;>simp[cU,cT,aO,az,AV.bd,AV.bd.bdL,u8,aj,ak,an])
   all_goals first|omega|exact⟨rfl,fun c hc=>by rcases hc with hc|⟨a,ha,rfl⟩;exact bj hc;rfl⟩|exact⟨fun c hc=>bj hc,rfl,fun c hc=>by rcases hc with hc|⟨a,ha,rfl⟩;exact bj hc;rfl⟩|(intro c hc;rcases hc with hc|rfl|rfl;exact bj hc;rfl;rfl)
  ·have hj2:jg+1=gs.length:=oO;rw[hj2,bm]at hlg p0 p1⊢;clear hR hgp gg0 hrog
   by_cases hv0:vs=[]
   ·subst hv0;simp only[cb]at*;refine dh (aN @l1 (aN @p0 @p1)) ?_;refine aq ?_;repeat' first|simp only[go_sem,seval,p0,p1]|refine cV n2 ?_|(refine mj (l:=px gs) (g:=PV.s) (ver:=jg) (gr:=true) (el:=some 22) n1 cH.s rfl (by simp[az]) hlg.symm ?_)|refine oE ?_|apply xX<;>intro hc
    clear n1 n2;refine ah (α:=Nat) (fun i=>es.length-i) (fun i=>⟨[(0, .v (.s ((es.take i).foldl fB s0))),(3, .p 1000 0 0),(9,E' i)],[(1000,⟨0,[.v (.sl (gs.map cz)), .v (.sl []), .v (.sl (es.map bZ.pv))],false,none⟩)],1047⟩) (fun i=>i<=es.length) 0 (fun _=>cd rfl) (aD _) ?_ ?_
    ·(refine AS.Le.of (by first|decide|omega) ?_ ?_<;>simp[cU,cT,aO,az,AV.bd,AV.bd.bdL,u8,aj,ak,an])
     all_goals rfl
    ·intro i hi R hR
     by_cases hit:i<es.length
     ·have e2:=getD_map bZ.pv es dU hit;have hgo:=hR (i+1) oO oO;rw[dB fB s0 dU hit]at hgo;obtain⟨g1,g2,g3,nt,ht⟩:=hq _ (ai dU hit);have hX:=iq (l:=es.take i) l2;generalize (es.take i).foldl fB s0=X at hgo hX⊢;generalize es.getD i dU=q at*;obtain⟨ig,tgt,ts⟩:=q;simp only at g1 g2 g3 nt ht;obtain⟨n,rfl⟩: ∃n:Nat,ig=(n:Int):=⟨ig.toNat,oO⟩;have e2:(es.map bZ.pv).getD i .fn0= .agg [.i .i64 (n:Int), .s tgt, .sl (ts.map dx.pv)]:=e2;simp only[fB,Int.toNat_natCast]at hgo;have ln:=dA n;have l4:(ts.map dx.pv).length=ts.length:=au ..;have c1:=il n oO;have c2:=iG X js (cF n) oO oC oO;have c3:=iy (cZ X js (cF n)) mH [tgt] (by rw[dT];decide) oC (by simp) (by simp) (by simp;omega)
      have lS:=cL (cZ X js (cF n)) mH [tgt];generalize cY (cZ X js (cF n)) mH [tgt]=S0 at*;simp only[b8,cb]at c3;clear hR hq;refine mK (aN @e2 @l4) @c1 @c2 @c3 oT ?_;refine ah (α:=Nat) (fun k=>ts.length-k) (fun k=>⟨[(0, .v (.s ((ts.take k).foldl fC S0))),(3, .p 1000 0 0),(9,E' i),(10, .p 1057 0 0),(11,E' k)],[(1000,⟨0,[.v (.sl (gs.map cz)), .v (.sl []), .v (.sl (es.map bZ.pv))],false,none⟩),(1057,⟨0,[.v (.i .i64 (n:Int)), .v (.s tgt), .v (.sl (ts.map dx.pv))],false,some 119⟩)],_⟩) (fun k=>k<=ts.length) 0 (fun _=>aA _) (aD _) ?_ ?_
      ·(refine AS.Le.of (by first|decide|omega) ?_ ?_<;>simp[cU,cT,aO,az,AV.bd,AV.bd.bdL,u8,aj,ak,an])
       all_goals rfl
      ·clear c1 c2 c3 e2;intro k hk R' hR'
       by_cases hkt:k<ts.length
       ·have e3:=getD_map dx.pv ts dN hkt;have hgo':=hR' (k+1) oO oO;rw[dB fC S0 dN hkt]at hgo';obtain⟨v1,v2,lb,la⟩:=ht _ (ai dN hkt);have hY:=ir (l:=ts.take k) lS;generalize (ts.take k).foldl fC S0=Y at hgo' hY⊢;generalize ts.getD k dN=t at*;obtain⟨base,vr,ng,ab⟩:=t;simp only at v1 v2 lb la;obtain⟨v,rfl⟩: ∃v:Nat,vr=(v:Int):=⟨vr.toNat,oO⟩;have e3:(ts.map dx.pv).getD k .fn0= .agg [.s base, .i .i64 (v:Int), .b ng, .s ab]:=e3;simp only[fC,Int.toNat_natCast]at hgo';have lv:=dA v;have c4:=il v oO;have c5:=iG Y mI (cF v) oO oC oO;have c6:=iy (cZ Y mI (cF v)) mE [base] (by rw[dT];decide) oC (by simp) (by simp) (by simp;omega)
        have c7:=qe (cY (cZ Y mI (cF v)) mE [base]) uX ng ab (by rw[cL];decide) oC oO
        simp only[b8,cb]at c6;clear hR' hgo;refine nX (aN @e3 @l4) @c4 @c5 @c6 @c7 ?_;refine hgo' _ ?_
        (refine AS.Le.of (by first|decide|omega) ?_ ?_<;>simp[cU,cT,aO,az,AV.bd,AV.bd.bdL,u8,aj,ak,an])
        all_goals first|omega|skip
       ·have h:k=ts.length:=oO;rw[h,bm];refine dw @l4 ?_;refine hgo _ ?_
        (refine AS.Le.of (by first|decide|omega) ?_ ?_<;>simp[cU,cT,aO,az,AV.bd,AV.bd.bdL,u8,aj,ak,an])
        all_goals first|omega|skip
     ·have h:i=es.length:=oO;rw[h,bm];exact z0
   ·obtain⟨w0,wr,hw⟩: ∃a b,vs=a::b:=List.exists_cons_of_ne_nil hv0;have hvl:vs.length=wr.length+1:=by rw[hw];rfl
    have hpos: ∀ _:True,(0:Int)<(vs.length:Int):=fun _=>oO
    have g0:(vs.map bO).getD 0 .fn0= .agg [.s w0]:=by rw[hw];rfl
    refine dh (aN @l1 (aN @p0 @p1)) ?_;refine aq ?_;refine dw (aN @g0 (aN (hpos oT) (aN @p0 @p1))) ?_;have hro:[AV.v (PV.s w0)]=aP PV.s (vs.take 1):=by rw[hw];rfl
    rw[hro];refine ah (α:=Nat) (fun j=>vs.length-j) (fun j=>⟨[(0, .v (.s st)),(3, .p 1000 0 0),(5, .rs 1024 jg 0 (2+2*jg) 1),(6, .rs 1048 j 0 (1+j) 1),(8,E' (j+1))],[(1000,⟨0,[.v (.sl (gs.map cz)), .v (.sl (vs.map bO)), .v (.sl (es.map bZ.pv))],false,none⟩),(1024,⟨jg,aP PV.s (px gs),true,some 22⟩),(1048,⟨j,aP PV.s (vs.take (j+1)),true,some 22⟩)],1053⟩) (fun j=>j+1<=vs.length) 0 (fun _=>cd rfl) oO ?_ ?_
    ·(refine AS.Le.of (by first|decide|omega) ?_ ?_<;>simp[cU,cT,aO,az,AV.bd,AV.bd.bdL,u8,aj,ak,an])
     all_goals first|exact fun c hc=>bj hc|exact⟨fun c hc=>bj hc,fun c hc=>bj hc⟩
    ·intro j hj R hR;have hlr:(vs.take (j+1)).length=1+j:=by rw[bQ];omega
     have q0:(aP PV.s (vs.take (j+1))).length=1+j:=by rw[bT cH.s,hlr,dr]
     have q1:List.take (1+j) (aP PV.s (vs.take (j+1)))=aP PV.s (vs.take (j+1)):=cQ oO
     by_cases hjt:j+1<vs.length
     ·have e2:=getD_map bO vs ([]:Bytes) hjt;have hgo:=hR (j+1) oO oO;rw[aL ([]:Bytes) hjt,bU]at hgo;generalize vs.getD (j+1) []=y at e2 hgo;have e2:(vs.map bO).getD (j+1) .fn0= .agg [.s y]:=e2;have e3: ∀ _:True,((j:Int)+1).toNat=j+1:=fun _=>oO
      clear hR hlr n1 n2;refine dw (aN @q0 (aN @q1 (aN @e2 (e3 oT)))) ?_;refine hgo _ ?_
      (refine AS.Le.of (by first|decide|omega) ?_ ?_<;>simp[cU,cT,aO,az,AV.bd,AV.bd.bdL,u8,aj,ak,an])
      all_goals first|omega|exact⟨rfl,fun c hc=>by rcases hc with hc|⟨a,ha,rfl⟩;exact bj hc;rfl⟩|exact⟨fun c hc=>bj hc,rfl,fun c hc=>by rcases hc with hc|⟨a,ha,rfl⟩;exact bj hc;rfl⟩|(intro c hc;rcases hc with hc|rfl|rfl;exact bj hc;rfl;rfl)
     ·have hj2:j+1=vs.length:=oO;rw[hj2,bm]at hlr q0 q1⊢;clear hR hpos g0 hro;repeat' first|simp only[go_sem,seval,q0,q1,p0,p1]|(refine mj (l:=px gs) (g:=PV.s) (ver:=jg) (gr:=true) (el:=some 22) n1 cH.s rfl (by simp[az]) hlg.symm ?_)|(refine mj (l:=vs) (g:=PV.s) (ver:=j) (gr:=true) (el:=some 22) n2 cH.s rfl (by simp[az]) hlr.symm ?_)|refine oE ?_|apply xX<;>intro hc
      clear n1 n2;refine ah (α:=Nat) (fun i=>es.length-i) (fun i=>⟨[(0, .v (.s ((es.take i).foldl fB s0))),(3, .p 1000 0 0),(9,E' i)],[(1000,⟨0,[.v (.sl (gs.map cz)), .v (.sl (vs.map bO)), .v (.sl (es.map bZ.pv))],false,none⟩)],1065⟩) (fun i=>i<=es.length) 0 (fun _=>cd rfl) (aD _) ?_ ?_
      ·(refine AS.Le.of (by first|decide|omega) ?_ ?_<;>simp[cU,cT,aO,az,AV.bd,AV.bd.bdL,u8,aj,ak,an])
       all_goals rfl
      ·intro i hi R hR
       by_cases hit:i<es.length
       ·have e2:=getD_map bZ.pv es dU hit;have hgo:=hR (i+1) oO oO;rw[dB fB s0 dU hit]at hgo;obtain⟨g1,g2,g3,nt,ht⟩:=hq _ (ai dU hit);have hX:=iq (l:=es.take i) l2;generalize (es.take i).foldl fB s0=X at hgo hX⊢;generalize es.getD i dU=q at*;obtain⟨ig,tgt,ts⟩:=q;simp only at g1 g2 g3 nt ht;obtain⟨n,rfl⟩: ∃n:Nat,ig=(n:Int):=⟨ig.toNat,oO⟩;have e2:(es.map bZ.pv).getD i .fn0= .agg [.i .i64 (n:Int), .s tgt, .sl (ts.map dx.pv)]:=e2;simp only[fB,Int.toNat_natCast]at hgo;have ln:=dA n;have l4:(ts.map dx.pv).length=ts.length:=au ..;have c1:=il n oO;have c2:=iG X js (cF n) oO oC oO;have c3:=iy (cZ X js (cF n)) mH [tgt] (by rw[dT];decide) oC (by simp) (by simp) (by simp;omega)
        have lS:=cL (cZ X js (cF n)) mH [tgt];generalize cY (cZ X js (cF n)) mH [tgt]=S0 at*;simp only[b8,cb]at c3;clear hR hq;refine mK (aN @e2 @l4) @c1 @c2 @c3 oT ?_;refine ah (α:=Nat) (fun k=>ts.length-k) (fun k=>⟨[(0, .v (.s ((ts.take k).foldl fC S0))),(3, .p 1000 0 0),(9,E' i),(10, .p 1075 0 0),(11,E' k)],[(1000,⟨0,[.v (.sl (gs.map cz)), .v (.sl (vs.map bO)), .v (.sl (es.map bZ.pv))],false,none⟩),(1075,⟨0,[.v (.i .i64 (n:Int)), .v (.s tgt), .v (.sl (ts.map dx.pv))],false,some 119⟩)],_⟩) (fun k=>k<=ts.length) 0 (fun _=>aA _) (aD _) ?_ ?_
        ·(refine AS.Le.of (by first|decide|omega) ?_ ?_<;>simp[cU,cT,aO,az,AV.bd,AV.bd.bdL,u8,aj,ak,an])
         all_goals rfl
        ·clear c1 c2 c3 e2;intro k hk R' hR'
         by_cases hkt:k<ts.length
         ·have e3:=getD_map dx.pv ts dN hkt;have hgo':=hR' (k+1) oO oO;rw[dB fC S0 dN hkt]at hgo';obtain⟨v1,v2,lb,la⟩:=ht _ (ai dN hkt);have hY:=ir (l:=ts.take k) lS;generalize (ts.take k).foldl fC S0=Y at hgo' hY⊢;generalize ts.getD k dN=t at*;obtain⟨base,vr,ng,ab⟩:=t;simp only at v1 v2 lb la;obtain⟨v,rfl⟩: ∃v:Nat,vr=(v:Int):=⟨vr.toNat,oO⟩;have e3:(ts.map dx.pv).getD k .fn0= .agg [.s base, .i .i64 (v:Int), .b ng, .s ab]:=e3;simp only[fC,Int.toNat_natCast]at hgo';have lv:=dA v;have c4:=il v oO;have c5:=iG Y mI (cF v) oO oC oO;have c6:=iy (cZ Y mI (cF v)) mE [base] (by rw[dT];decide) oC (by simp) (by simp) (by simp;omega)
          have c7:=qe (cY (cZ Y mI (cF v)) mE [base]) uX ng ab (by rw[cL];decide) oC oO
          simp only[b8,cb]at c6;clear hR' hgo;refine nX (aN @e3 @l4) @c4 @c5 @c6 @c7 ?_;refine hgo' _ ?_
          (refine AS.Le.of (by first|decide|omega) ?_ ?_<;>simp[cU,cT,aO,az,AV.bd,AV.bd.bdL,u8,aj,ak,an])
          all_goals first|omega|skip
         ·have h:k=ts.length:=oO;rw[h,bm];refine dw @l4 ?_;refine hgo _ ?_
          (refine AS.Le.of (by first|decide|omega) ?_ ?_<;>simp[cU,cT,aO,az,AV.bd,AV.bd.bdL,u8,aj,ak,an])
          all_goals first|omega|skip
       ·have h:i=es.length:=oO;rw[h,bm];exact z0
theorem Gu {c sl:Bytes} (lc:c.length<=8) (ls:sl.length<=8) {s:aT} (hb:mq c sl s=0->Ux s) (hz:qH s) {cl:ik} (hc:QW cl) (h5:cl.gates.length<=512) (hB:kX cl=0-> ∀s∈cl.leaves,Ux s) {tx:Bytes} (ht:kX cl=0->tx.length<=100000) (hT:kX cl=0->aH 40 [E6 cl.gates] (.tup [.s tx,E 0])) {ctx:Bytes} (hx:ctx.length<=100000) {fs:List Bytes} (fn:fs.length<=900) (fl: ∀x∈fs,x.length<=100000) {lss:List (List Bytes)} (ln:lss.length<1000000) (ll: ∀l∈lss,l.length<=900/\ ∀x∈l,x.length<=100000):
  aH 11 [.agg [.s c, .s sl], .s ctx,s.pv,cl.pv, .sl (fs.map .s), .sl (lss.map kU)] (Fq c sl ctx s tx cl fs lss):=by
 have hst:=CP lc ls hz hc h5;have hv:aH 36 [.sl (fs.map .s)] (.b (qD fs)):=gU fs oO;have k2:(lss.map kU).length=lss.length:=au ..;have k3:(fs.map PV.s).length=fs.length:=au ..;unfold Fq
 by_cases hE:ij c sl s cl=0
 case neg=>
  rw[af hE];generalize ij c sl s cl=e at*;have hb1:(e !=0)=true:=by simpa using hE
  unfold aT.pv ik.pv at*;refine eW call11 func11 ?_;exact iE @hb1 @hst
 rw[aa (by simpa using hE)]
 rw[hE]at hst;have hE1:mq c sl s=0/\kX cl=0:=by
  unfold ij at hE
  by_cases h1:mq c sl s=0
  ·refine⟨h1,?_⟩;rw[aa (by simpa using h1)]at hE
   by_cases h2:kX cl=0
   ·exact h2
   ·rw[af h2]at hE;exact aJ hE h2
  ·rw[af h1]at hE;exact aJ hE h1
 have vc:=Hv hE1.1;have c0:c≠[]:=by
  intro h;have:=(rD lc ls hz hE1.1).r.c2;rw[h]at this;exact aJ this oC
 replace hT:=hT hE1.2
 replace hb:=hb hE1.1
 replace hB:=hB hE1.2
 replace ht:=ht hE1.2
 have nl:=hc.nl;have n1:=TN sK oC;have n2:=iG (mG sK) uY ctx (by rw[C2];decide) oC hx
 have n3:=Pw (st:=cZ (mG sK) uY ctx) (by rw[dT];decide) hb
 have n4:=iG (gn (cZ (mG sK) uY ctx) s) GD tx (by rw[ti];decide) oC ht
 have l4:=dT (gn (cZ (mG sK) uY ctx) s) GD tx;unfold WN;generalize cZ (gn (cZ (mG sK) uY ctx) s) GD tx=s4 at*;generalize gn (cZ (mG sK) uY ctx) s=s3 at*;have n5:=uQ (cl.leaves.foldl gn s4) GF fs (by rw[pP l4];decide) oC fn fl
 have l5:=cL (cl.leaves.foldl gn s4) GF fs;have n6:=fun s6 (h6:s6.length=32)=>x7 s6 c oO vc c0 lc
 have hvl: ∀l∈lss,aH 36 [.sl (l.map .s)] (.b (qD l)):=fun l hl=>gU l (by have:=(ll l hl).1;omega)
 clear hE hE1 hc hz hb h5;obtain⟨gs,vs,es⟩:=s;obtain⟨lv,G⟩:=cl;simp only[ik.pv,aT.pv]at*;have k1:(lv.map aT.pv).length=lv.length:=au ..;have k4:(es.map bZ.pv).length=es.length:=au ..
 cases hfv:qD fs with
 |false=>
  rw[hfv]at hv;rw[af (by simp)]
  refine eW call11 func11 ?_;exact z2 @hst @hv
 |true=>
 rw[hfv]at hv;rw[bE];refine eW call11 func11 ?_;refine zl2 @hst @hv ?_;refine ah (α:=Nat) (fun i=>lss.length-i) (fun i=>⟨[(1, .v (.s ctx)),(4, .v (.sl (fs.map .s))),(5, .v (.sl (lss.map kU))),(6, .p 1000 0 0),(8, .p 1001 0 0),(9, .p 1002 0 0),(15,E' i)],[(1000,⟨0,[.v (.s c), .v (.s sl)],false,none⟩),(1001,⟨0,[.v (.sl (gs.map cz)), .v (.sl (vs.map bO)), .v (.sl (es.map bZ.pv))],false,none⟩),(1002,⟨0,[.v (.sl (lv.map aT.pv)), .v (.sl (G.map Gt.pv))],false,none⟩)],_⟩) (fun i=>i<=lss.length/\(lss.drop i).all qD=lss.all qD) 0 (fun _=>aA _) ⟨aD _,rfl⟩ ?_ ?_
 ·exact lE
 ·rintro i ⟨hi,ha⟩ R hR;rw[<-ha]
  by_cases hit:i<lss.length
  ·have e2:=getD_map kU lss ([]:List Bytes) hit;have c5:=hvl _ (ai ([]:List Bytes) hit);have hgo:=fun h=>hR (i+1) ⟨oO,h⟩ oO
   rw[<-ha]at hgo;rw[aE ([]:List Bytes) hit,List.all_cons]at hgo⊢;generalize lss.getD i []=y at*;simp only[kU]at e2;clear hR ha hvl n1 n2 n3 n4 n5 n6 hT hst hv
   cases hy:qD y with
   |false=>
    rw[hy]at c5;rw[br,af (by simp)]
    exact iE (aN @k2 @e2) @c5
   |true=>
    rw[hy]at c5 hgo;rw[bE]at hgo⊢;have hgo:=hgo rfl;exact gi (aN @k2 @e2) @hgo @c5
  ·obtain rfl:i=lss.length:=oO;rw[bw,List.all_nil,aa (by simp)]
   clear hR ha hvl hst hv;have x1:((fs.length:Int) !=(es.length:Int))= !decide (fs.length=es.length):=by rw[bne,cu];simp;omega
   have x2:((lss.length:Int) !=(lv.length:Int))= !decide (lss.length=lv.length):=by rw[bne,cu];simp;omega
   by_cases h1:fs.length=es.length
   case neg=>
    rw[aS h1]at x1;rw[af (.inl h1)];exact fz (aN @k1 (aN @k2 (aN @k3 (aN @k4 (aN @x1 @x2)))))
   rw[aQ h1]at x1
   by_cases h2:lss.length=lv.length
   case neg=>
    rw[aS h2]at x2;rw[af (.inr (.inl h2))];exact fz (aN @k1 (aN @k2 (aN @k3 (aN @k4 (aN @x1 @x2)))))
   rw[aQ h2]at x2;simp only[h1,h2,ne_eq,qw,false_or];refine dh (aN @k1 (aN @k2 (aN @k3 (aN @k4 (aN @x1 @x2))))) ?_;refine ah (α:=Nat) (fun j=>lss.length-j) (fun j=>⟨[(1, .v (.s ctx)),(4, .v (.sl (fs.map .s))),(5, .v (.sl (lss.map kU))),(6, .p 1000 0 0),(8, .p 1001 0 0),(9, .p 1002 0 0),(16,E' j)],[(1000,⟨0,[.v (.s c), .v (.s sl)],false,none⟩),(1001,⟨0,[.v (.sl (gs.map cz)), .v (.sl (vs.map bO)), .v (.sl (es.map bZ.pv))],false,none⟩),(1002,⟨0,[.v (.sl (lv.map aT.pv)), .v (.sl (G.map Gt.pv))],false,none⟩)],_⟩) (fun j=>j<=lss.length/\((lss.zip lv).drop j).all F3=(lss.zip lv).all F3) 0 (fun _=>aA _) ⟨aD _,rfl⟩ ?_ ?_
   ·exact lE
   ·rintro j ⟨hj,ha⟩ R hR;rw[<-ha];have lz:(lss.zip lv).length=lss.length:=by rw[List.length_zip];omega
    by_cases hjt:j<lss.length
    ·have e2:=getD_map kU lss ([]:List Bytes) hjt;have e3:=getD_map aT.pv lv cC (i:=j) oO;have hgo:=fun h=>hR (j+1) ⟨oO,h⟩ oO
     rw[<-ha]at hgo;rw[aE (([],cC):List Bytes×aT) (show j<(lss.zip lv).length by omega),List.all_cons]at hgo⊢
     have hzp:(lss.zip lv).getD j (([],cC):List Bytes×aT)=(lss.getD j [],lv.getD j cC):=by
      simp only[bu,EE,bC hjt,bC (show j<lv.length by omega),bC (show j<(lss.zip lv).length by omega),List.getElem_zip,Option.getD_some]
     rw[hzp]at hgo⊢;clear hzp hR ha;generalize lss.getD j []=y at*;generalize lv.getD j cC=s' at*;obtain⟨gs',vs',es'⟩:=s';simp only[kU]at e2;simp only[aT.pv]at e3;have hle:F3 (y,(⟨gs',vs',es'⟩:aT))=decide (y.length=es'.length):=rfl;rw[hle]at hgo⊢;have k5:(y.map PV.s).length=y.length:=au ..;have k6:(es'.map bZ.pv).length=es'.length:=au ..;have x3:((y.length:Int) !=(es'.length:Int))= !decide (y.length=es'.length):=by rw[bne,cu];simp;omega
     clear hle n1 n2 n3 n4 n5 n6 hT;generalize decide (y.length=es'.length)=bb at*;cases bb
     ·simp only[br,aC];exact fz (aN @k1 (aN @k2 (aN @k5 (aN @k6 (aN @e2 (aN @e3 (aN @x3 @h2)))))))
     ·simp only[bE]at hgo⊢;have hgo:=hgo oT;exact gH (aN @k1 (aN @k2 (aN @k5 (aN @k6 (aN @e2 (aN @e3 (aN @x3 @h2))))))) @hgo
    ·obtain rfl:j=lss.length:=oO;rw[gG oO,List.all_nil,aa (by simp)]
     clear hR ha x1 x2;refine Hb @k1 @n1 @n2 @n3 @n4 @hT oT oT ?_;refine ah (α:=Nat) (fun i=>lv.length-i) (fun i=>⟨[(4, .v (.sl (fs.map .s))),(5, .v (.sl (lss.map kU))),(6, .p 1000 0 0),(8, .p 1001 0 0),(9, .p 1002 0 0),(17, .v (.s ((lv.take i).foldl gn s4))),(20,E' i)],[(1000,⟨0,[.v (.s c), .v (.s sl)],false,none⟩),(1001,⟨0,[.v (.sl (gs.map cz)), .v (.sl (vs.map bO)), .v (.sl (es.map bZ.pv))],false,none⟩),(1002,⟨0,[.v (.sl (lv.map aT.pv)), .v (.sl (G.map Gt.pv))],false,none⟩)],_⟩) (fun i=>i<=lv.length) 0 (fun _=>aA _) (aD _) ?_ ?_
     ·(refine AS.Le.of (by first|decide|omega) ?_ ?_<;>simp[cU,cT,aO,az,AV.bd,AV.bd.bdL,u8,aj,ak,an])
      all_goals rfl
     ·intro i hi R hR
      by_cases hit:i<lv.length
      ·have e2:=getD_map aT.pv lv cC hit;have hgo:=hR (i+1) oO oO;rw[dB gn s4 cC hit]at hgo;have hB1:=hB _ (ai cC hit);have hX:=pP (l:=lv.take i) l4;generalize (lv.take i).foldl gn s4=X at hgo hX⊢;have c5:=Pw (st:=X) oO hB1;generalize lv.getD i cC=s' at*;obtain⟨gs',vs',es'⟩:=s';simp only[aT.pv]at e2 c5;clear hR n1 n2 n3 n4 n5 n6 hT;refine gR (aN @k1 @e2) @c5 ?_;refine hgo _ ?_
       (refine AS.Le.of (by first|decide|omega) ?_ ?_<;>simp[cU,cT,aO,az,AV.bd,AV.bd.bdL,u8,aj,ak,an])
       all_goals first|omega|skip
      ·obtain rfl:i=lv.length:=oO;rw[bm];clear hR hB;refine gR (aN @k1 @k2) @n5 ?_;generalize cY (lv.foldl gn s4) GF fs=s5 at*;clear n1 n2 n3 n4 n5 hT;refine ah (α:=Nat) (fun j=>lss.length-j) (fun j=>⟨[(4, .v (.sl (fs.map .s))),(5, .v (.sl (lss.map kU))),(6, .p 1000 0 0),(8, .p 1001 0 0),(9, .p 1002 0 0),(17, .v (.s ((lss.take j).foldl qz s5))),(21,E' j)],[(1000,⟨0,[.v (.s c), .v (.s sl)],false,none⟩),(1001,⟨0,[.v (.sl (gs.map cz)), .v (.sl (vs.map bO)), .v (.sl (es.map bZ.pv))],false,none⟩),(1002,⟨0,[.v (.sl (lv.map aT.pv)), .v (.sl (G.map Gt.pv))],false,none⟩)],_⟩) (fun j=>j<=lss.length) 0 (fun _=>aA _) (aD _) ?_ ?_
       ·(refine AS.Le.of (by first|decide|omega) ?_ ?_<;>simp[cU,cT,aO,az,AV.bd,AV.bd.bdL,u8,aj,ak,an])
        all_goals rfl
       ·intro j hj R hR
        by_cases hjt:j<lss.length
        ·have e2:=getD_map kU lss ([]:List Bytes) hjt;have hgo:=hR (j+1) oO oO;rw[dB qz s5 ([]:List Bytes) hjt]at hgo;obtain⟨b1,b2⟩:=ll _ (ai ([]:List Bytes) hjt);have hX:=rK (l:=lss.take j) l5;generalize (lss.take j).foldl qz s5=X at hgo hX⊢;generalize lss.getD j []=y at*;have c5:=uQ X P5 y oO oC b1 b2;simp only[kU]at e2;simp only[qz]at hgo;clear hR n6;refine gR (aN @k2 @e2) @c5 ?_;refine hgo _ ?_
         (refine AS.Le.of (by first|decide|omega) ?_ ?_<;>simp[cU,cT,aO,az,AV.bd,AV.bd.bdL,u8,aj,ak,an])
         all_goals first|omega|skip
        ·obtain rfl:j=lss.length:=oO;rw[bm];have n7:=n6 _ (rK (l:=lss) l5);generalize lss.foldl qz s5=s6 at*;clear hR n6;exact iE @k2 @n7
end Go.Proofs.Tryz
namespace Go.Proofs.YthlapgdhjcddkaaGreatDoor
open Go Go.Dom Go.ChangeShapes Go.WideShapes Go.ChangeAt Go.RowKit Go.Proofs.Tryz
def LNp (l:List Bytes):PV:= .sl (l.map .s)
theorem abf:Tryz.prog.underlying 41=some (.slice 40):=by kernel_rfl
theorem Z0:fG Tryz.prog 40=false:=by kernel_rfl
theorem ab4:Tryz.prog.bytesOf 40=24:=by kernel_rfl
theorem Yy {k:Nat} {ps:List PV} (h:kT Tryz.prog (k+3) 41 ps): ∃l:List (List Bytes),ps=[.sl (l.map LNp)]/\l.length<4611686018427387904/\ ∀x∈l,x.length<4611686018427387904:=by
 have rb:=reachBytes_lt;rw[kT,abf]at h;simp only[Z0,ab4,cE,aB]at h;obtain⟨l,rfl,hb,hl⟩:=h;obtain⟨is,rfl,hq⟩:=F6 (f:=LNp) (Q:=fun y=>y.length*16<=reachBytes) (l:=l) fun x hx=>by
  obtain⟨h1,h2⟩:=hl x hx;obtain⟨y,h1,hy⟩:=Qy h1;exact⟨y,rV h1 h2,hy⟩
 rw[au]at hb;exact⟨is,rfl,by omega,fun x hx=>by have:=hq x hx;omega⟩
theorem acI:Q0 Tryz.prog 9 40=true:=by kernel_rfl
theorem aag:Q0 Tryz.prog 9 41=true:=by kernel_rfl
end Go.Proofs.YthlapgdhjcddkaaGreatDoor
namespace Go.Proofs.Tryz
open Go Go.Dom Go.Num
theorem Se (c sl ctx:Bytes) (s:aT) (tx:Bytes) (cl:ik) (fs:List Bytes) (lss:List (List Bytes)): ∃(z:Bytes) (e:Int),Fq c sl ctx s tx cl fs lss= .tup [.s z,E e]:=by
 unfold Fq;split
 ·exact⟨_,_,rfl⟩
 split
 ·exact⟨_,_,rfl⟩
 split
 ·exact⟨_,_,rfl⟩
 ·exact⟨_,_,rfl⟩
theorem Fz (x:BW) (fs:List Bytes) (lss:List (List Bytes)) (hx:Mc x) (h1:fs.length<4611686018427387904) (h2:lss.length<4611686018427387904) (h3: ∀l∈lss,l.length<4611686018427387904):aH 3 [x.pv, .sl (fs.map .s), .sl (lss.map kU)] (.b true):=by
 have hf:=z8 hx;have hn:=wL fs h1;have aw:=Fh;have l2:(lss.map kU).length=lss.length:=au ..
 by_cases hg:sQ x=true/\sS fs=true
 case neg=>
  clear hx h1 h2 h3;generalize sQ x=b1 at*;generalize sS fs=b2 at*;unfold BW.pv at*;cases b1
  ·refine eW call3 func3 ?_;exact z2 @hf @aw
  ·cases b2
   ·refine eW call3 func3 ?_;exact z4 @hf @hn @aw oT
   ·exact aJ ⟨rfl,rfl⟩ hg
 obtain⟨n1,n2⟩:=uK hg.2;obtain⟨hc,-⟩:=Dv hg.1;rw[hg.1]at hf;rw[hg.2]at hn;clear hg
 by_cases hl:lss.length<=14
 case neg=>
  have x1:decide ((lss.length:Int)>14)=true:=aQ oO;clear hx h1 h2 h3 hc n1 n2;unfold BW.pv at*;refine eW call3 func3 ?_;exact ry (aN @l2 @x1) @hf @hn @aw oT
 have x1:decide ((lss.length:Int)>14)=false:=aS oO;have v1:=fun ll=>qQ hc (fs:=fs) oO (fun y hy=>by have:=n2 y hy;omega) (lss:=lss) oO ll
 have v2:=fun ll=>Gu hc.lc hc.ls (fun h=>(rD hc.lc hc.ls hc.zs h).g.bd) hc.zs hc.zc hc.g5 (fun h s hs=>((yk hc.zc h).ck s hs).bd) (tx:=tw x.cl.gates) (fun h=>hc.tl (yk hc.zc h)) (fun h=>PJ hc.g5 hc.k (yk hc.zc h).lv (by have:=hc.l12;omega)) hc.lx (fs:=fs) oO (fun y hy=>by have:=n2 y hy;omega) (lss:=lss) oO ll
 obtain⟨z,e,hze⟩:=Se x.c x.sl x.ctx x.s (tw x.cl.gates) x.cl fs lss;rw[hze]at v1 v2;obtain⟨c,sl,ctx,⟨gq,vs,es⟩,⟨lv,G⟩,w,ws⟩:=x;have e0:(e==e)=true:=eY e;have z0:(z==z)=true:=eY z;clear hc hx n1 n2 hze h1 h2;simp only[BW.pv,aT.pv,ik.pv]at*;refine eW call3 func3 ?_;refine Bw (aN @l2 @x1) @hf @hn ?_;refine ah (α:=Nat) (fun i=>lss.length-i) (fun i=>⟨[(1, .v (.sl (fs.map .s))),(2, .v (.sl (lss.map kU))),(3, .p 1000 0 0),(7,E' i)],[(1000,⟨0,[.v (.s c), .v (.s sl), .v (.s ctx), .v (.sl (gq.map cz)), .v (.sl (vs.map bO)), .v (.sl (es.map bZ.pv)), .v (.sl (lv.map aT.pv)), .v (.sl (G.map Gt.pv)), .v (.sl (w.map ca)), .v (.sl (ws.map fj))],false,none⟩)],_⟩) (fun i=>i<=lss.length/\ ∀l∈lss.take i,l.length<=900/\ ∀x∈l,x.length<=100000) 0 (fun _=>aA _) ⟨aD _,fun l h=>by simp at h⟩ ?_ ?_
 ·exact lE
 rintro i ⟨hi,hall⟩ R hR
 by_cases hit:i<lss.length
 ·have e2:=getD_map kU lss ([]:List Bytes) hit;have hm:=h3 _ (ai ([]:List Bytes) hit);have hy:=wL _ hm;have hgo:=fun h=>hR (i+1) ⟨oO,h⟩ oO
  rw[aL ([]:List Bytes) hit]at hgo;clear hR v1 v2 h3;generalize lss.getD i []=y at*;simp only[kU]at e2;have hby:=fun h:sS y=true=>uK h
  generalize sS y=b at*;cases b
  ·exact vV (aN @l2 @e2) @hy @aw
  ·have hgo:=hgo (fun l hl=>by
    rcases iA.1 hl with h|h
    ·exact hall l h
    ·obtain rfl:=fa.1 h;obtain⟨a,b⟩:=hby rfl;exact⟨oO,fun x hx=>by have:=b x hx;omega⟩)
   exact gi (aN @l2 @e2) @hgo @hy
 ·obtain rfl:i=lss.length:=oO;rw[bm]at hall;have v1:=v1 hall;have v2:=v2 hall;clear hR hall h3;exact ry (aN @l2 (aN @e0 @z0)) @v1 @v2 @aw oT
end Go.Proofs.Tryz
namespace Go.Proofs.YthlapgdhjcddkaaGreatDoor
open Go Go.Dom Go.ChangeShapes Go.WideShapes Go.ChangeAt Go.RowKit Go.Proofs.Tryz
theorem um (os:Os) (started:os.Started) (H:Type) (enc:TypeId×Value->H):
  ReturnsInHanded {} Tryz.checked os 3 .any (fun w args=>(Rows.fiatshamirChallengesSpec.pre enc Tryz.prog Tryz.f3 [] false w args/\laidMetH Tryz.prog mM w)/\sizedMet enc Tryz.prog Tryz.f3 (OpenSpec.ofChange Rows.fiatshamirChallengesSpec) false w args)
   (Rows.fiatshamirChallengesSpec.post enc Tryz.prog Tryz.f3 false true false false):=by
 refine returnsInHanded_of_change_and (C:=Tryz.checked) (X:=fun w _=>laidMetH Tryz.prog mM w) (fun _ _ _ hh h=>h.of_heap hh) XM started (by kernel_rfl) Tryz.func3
  (ChangeSpec.witness_shaped (enc:=enc) (C:=Tryz.checked) (os:=os) (X:=fun w _=>laidMetH Tryz.prog mM w) false (World.laidAll Tryz.prog os mM) #[.agg #[.string ⟨#[]⟩, .string ⟨#[]⟩, .string ⟨#[]⟩, .slice none 0 0, .slice none 0 0, .slice none 0 0, .slice none 0 0, .slice none 0 0, .slice none 0 0, .slice none 0 0], .slice none 0 0, .slice none 0 0] 8 (World.laidAll_os _ _ _)
   (World.shaped_of_ZipB (by kernel_rfl) (by kernel_rfl)) (by kernel_rfl) (by kernel_rfl) (by kernel_rfl)
   (by rw[MakeChecks.laidMetH_plain _ _ _ (by kernel_rfl)];exact laidMet_laidAll _ (by kernel_rfl) (by kernel_rfl))) ?_
 intro W base args ds gs before hval0 hW hcnd hwt hL _;rw[MakeChecks.laidMetH_plain _ _ _ (by kernel_rfl)]at hL
 have hval: ∀(j:Nat) t v,Tryz.f3.params[j]?=some t->args[j]?=some v->Value.okWide Tryz.prog W .any base t v:=hval0;have hW':=hW;obtain⟨p,q,hA0,hV,rfl,hfz,hnd⟩:=hW;have hA:DataW.TrodAll enc Tryz.prog W 0 (fun _=>true) true Tryz.f3.params.toList args.toList ds p:=hA0
 have hlt: ∀x∈p++q,x.block<W.heap.size:=fun x hx=>hW'.lt x hx
 rw[Tryz.params3]at hA hval;obtain⟨v0,v1,v2,d0,d1,d2,p0,p1,p2,rfl,rfl,rfl,h0,h1,h2⟩:=trodAll_three hA;obtain⟨rfl,rfl⟩:=trodVars_none hV;have hall:=bz.1 hwt;have rb:=reachBytes_lt;have hv0:=hval 0 39 v0 rfl rfl;unfold Value.okWide at hv0;rw[Tryz.underlying39]at hv0;simp only at hv0;obtain⟨c0,rfl,s0,-⟩:=hv0;have w0: ∀m∈d0.weights Tryz.prog 39,m<=reachBytes:=fun m hm=>of_decide_eq_true (hall m (DataW.weights_mem_each (j:=0) rfl rfl m hm))
 obtain⟨n0,t0⟩:=id h0;obtain⟨L7,r0,o0,y0⟩:=oN 12 n0 _ c0.toList d0 p0 O2 t0 w0;obtain⟨x0,ea0,hx0⟩:=IC y0;have q0:PR (x8 W) (x0.pv) (.agg c0):=by
  rw[<-ea0];have:=PR.agg (rd:=x8 W) L7 c0.toList o0 r0.1 r0.2;simpa using this
 have hv1:=hval 1 40 v1 rfl rfl;obtain⟨a1,b1,g1,rfl⟩:=okWide_slice uLN hv1;have w1: ∀m∈d1.weights Tryz.prog 40,m<=reachBytes:=fun m hm=>of_decide_eq_true (hall m (DataW.weights_mem_each (j:=1) rfl rfl m hm))
 obtain⟨n1,t1⟩:=id h1;obtain⟨AZ,r1,o1,y1⟩:=oN 9 n1 _ [.slice a1 b1 g1] d1 p1 acI t1 w1;obtain⟨fs,rfl,hb1⟩:=Qy y1;have q1:PR (x8 W) (.sl (fs.map .s)) (.slice a1 b1 g1):=r1.2 0 _ _ rfl rfl;have hv2:=hval 2 41 v2 rfl rfl;obtain⟨a2,b2,g2,rfl⟩:=okWide_slice abf hv2;have w2: ∀m∈d2.weights Tryz.prog 41,m<=reachBytes:=fun m hm=>of_decide_eq_true (hall m (DataW.weights_mem_each (j:=2) rfl rfl m hm))
 obtain⟨n2,t2⟩:=id h2;obtain⟨pv2,r2,o2,y2⟩:=oN 9 n2 _ [.slice a2 b2 g2] d2 p2 aag t2 w2;obtain⟨lss,rfl,hb2,hc2⟩:=Yy y2;have q2:PR (x8 W) (.sl (lss.map LNp)) (.slice a2 b2 g2):=r2.2 0 _ _ rfl rfl;obtain⟨g,hg,hc⟩:=Fz x0 fs lss hx0 (by omega) hb2 hc2
 have hg3:g=3:=by
  have a1:=hg #[] W;have a2:=Tryz.call3 #[] W;rw[a1]at a2;injection a2 with a2 _
  injection a2
 subst hg3;refine(hc W (x8 W) [.agg c0, .slice a1 b1 g1, .slice a2 b2 g2] (xh hL) (fun _ _ _ h=>h) (.cons q0 (.cons q1 (.cons q2 .nil)))).mono ?_
 rintro e W' ⟨v,rfl,hb,hpr⟩;cases hpr;refine⟨_,rfl,wR (pa:=p0++(p1++p2)) (pv:=[]) hW' (fun _ _ _=>trodAll_mk1 (shut_bool C3 true)) (fun sp hsp=>trodAll_mk3 (WideElems.Trod_stays xz (by kernel_rfl) (of_decide_eq_true (by kernel_rfl)) h0 (fun x hx=>hb.same (hlt x (by simp[hx]))) (fun x hx=>hsp x (by simp[hx]))) (WideElems.Trod_stays xz (by kernel_rfl) (of_decide_eq_true (by kernel_rfl)) h1 (fun x hx=>hb.same (hlt x (by simp[hx]))) (fun x hx=>hsp x (by simp[hx]))) (WideElems.Trod_stays xz (by kernel_rfl) (of_decide_eq_true (by kernel_rfl)) h2 (fun x hx=>hb.same (hlt x (by simp[hx]))) (fun x hx=>hsp x (by simp[hx])))) (fun _ _=>rfl) (by simp) hb (ok_one (by kernel_rfl) rfl (okWide_bool_mk C3 true))⟩
