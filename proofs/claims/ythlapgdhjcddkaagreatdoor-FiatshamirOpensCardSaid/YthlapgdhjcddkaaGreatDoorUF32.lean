/- Part of the proof. -/
import Derived.Test.YthlapgdhjcddkaaGreatDoorUF31
set_option linter.all false
set_option maxHeartbeats 16000000
set_option maxRecDepth 100000
namespace Go.Proofs.Tryz
open Go Go.Dom Go.Num
theorem NR (k:Nat) {c:Int} (hc:c=IntKind.u8.wrap (k:Int)) (P:List Bytes) (hn:P.length<=1000) (hb: ∀s∈P,s.length<=100000):aH 160 [.i .u8 c, .sl (P.map .s), .sl [], .fn (.func 161)] (.s (mJ (iw k P))):=by
 subst hc;have w1:=fun nm=>wbF FR F5 1001 nm k
 have w2:=fun nm=>qP 1001 1004 nm 0 [UInt8.ofNat k] P.length oC (eR (aA 1) oC) oO
 have lP:(P.map PV.s).length=P.length:=au ..;refine eW call160 func160 ?_;repeat' first|simp only[go_sem,seval,lP]|(refine bK (w1 _) (by simp[az,bF]) ?_)|(refine bK (w2 _) (by simp[az]) ?_)|refine oE ?_|apply xX<;>intro hc
 refine aq ?_;refine dw @lP ?_;obtain⟨H,hH⟩: ∃H,H=UInt8.ofNat k::be 8 P.length:=⟨_,rfl⟩;have hHl:H.length=9:=by rw[hH,List.length_cons,cX]
 have hfr:iw k P=H++c9 P:=by rw[hH,iw];rfl
 rw[hfr]
 try rw[<-hH]
 have hPb: ∀i,i<=P.length->(H++c9 (P.take i)).length<=9+i*100008:=fun i hi=>by
  rw[bR,hHl];have h1:=nJ (P.take i) (n:=100000) fun s hs=>hb s (kG hs)
  rw[bQ,oS hi]at h1;omega
 clear w1 w2 hfr hH;refine ah (α:=Nat) (fun i=>P.length-i) (fun i=>⟨[(9, .p 1001 0 0),(41, .v (.sl (P.map .s))),(42,E' P.length),(43,E' i)],[(1001,bB FR 1001 1004 (8+9*i) (H++c9 (P.take i))),(1004,bD (8+9*i) (H++c9 (P.take i)))],_⟩) (fun i=>i<=P.length) 0 (fun _=>aA _) (aD _) ?_ ?_
 ·(refine AS.Le.of (by first|decide|omega) ?_ ?_<;>simp[cU,cT,aO,az,AV.bd,AV.bd.bdL,u8,aj,ak,an])
  have e0:H++c9 []=H:=j6 H;rw[e0];exact⟨rfl,jn _ _ _ _ _ _ oC oC,rfl,jo _ _ _⟩
 ·intro i hi R hR
  by_cases hit:i<P.length
  ·have e2:=fJ hit;have hgo:=hR (i+1) oO oO;have hbs:=hb (P.getD i []) (ai [] hit);have hPi:=hPb i hi;rw[aL ([]:Bytes) hit,mC,<-eg,<-eg]at hgo;generalize P.getD i []=y at e2 hgo hbs;generalize hB:H++c9 (P.take i)=B at hgo hPi⊢;have w1:=fun nm=>qP 1001 1004 nm (8+9*i) B y.length oC oO oO
   have w2:=fun nm=>YV FR 1001 1004 nm (8+9*i+8) (B++be 8 y.length) y oC (by rw[bR,cX];omega)
   simp only[show 8+9*(i+1)=8+9*i+8+1 by omega]at hgo
   clear hR hb hPb;repeat' first|simp only[go_sem,seval,lP,e2]|(refine bK (w1 _) (by simp[az]) ?_)|(refine bK (w2 _) (by simp[az]) ?_)|refine oE ?_|apply xX<;>intro hc
   refine hgo _ ?_;refine lG ?_;all_goals exact⟨jn _ _ _ _ _ _ oC oC,jo _ _ _⟩
  ·have h:i=P.length:=oO;rw[h,bm];have hl2:=hPb P.length (aA _);rw[bm]at hl2;have hne:H++c9 P≠[]:=by intro h0;have:=congrArg List.length h0;rw[bR,hHl]at this;simp at this
   generalize H++c9 P=B at hl2 hne⊢;have w3:=fun nm=>It FR 1001 1004 nm (8+9*P.length) B oC (fun h0=>hne (dt.1 h0)) oO
   have hsu:=sZ (s:=B) oO;repeat' first|simp only[go_sem,seval,lP]|(refine bK (w3 _) (by simp[az]) ?_)|refine cP hsu ?_|refine oE ?_|apply xX<;>intro hc
theorem Ed (st l:Bytes) (xs:List Bytes) (h1:st.length<=100000) (h2:l.length<=100000) (hn:xs.length<=900) (h3: ∀x∈xs,x.length<=100000):aH 79 [.s st, .s l, .sl (xs.map .s)] (.s (cY st l xs)):=by
 by_cases h0:xs=[]
 ·subst h0;have h:=NR 76 (c:=76) rfl [st,l] (by simp) (by intro s hs;simp at hs;rcases hs with rfl|rfl<;>assumption)
  simp only[b8,cb]at h⊢;refine eW call79 func79 ?_;exact z1 @h
 ·exact kD st l xs h1 h2 h0 hn h3
structure Ux (s:aT):Prop where
 ng:s.groups.length<=100
 g: ∀g∈s.groups,g.1.length<=1000/\g.2.length<=1000
 nv:s.vars.length<=100
 v: ∀b∈s.vars,b.length<=1000
 ne:s.eqs.length<=100
 q: ∀q∈s.eqs,0<=q.ig/\q.ig<100/\q.tgt.length<=1000/\q.terms.length<=100/\ ∀t∈q.terms,0<=t.var/\t.var<100/\t.base.length<=1000/\t.abs.length<=1000
def px (gs:List (Bytes×Bytes)):List Bytes:=gs.flatMap fun g=>[g.1,g.2]
theorem yq (gs:List (Bytes×Bytes)):(px gs).length=2*gs.length:=by
 unfold px
 induction gs with
 |nil=>rfl
 |cons g r ih=>rw[ft,bR,ih,List.length_cons];simp;omega
theorem FM (gs:List (Bytes×Bytes)) (g:Bytes×Bytes):aP PV.s (px (gs++[g]))=aP PV.s (px gs)++[.v (.s g.1), .v (.s g.2)]:=by
 unfold px aP;simp[PV.cells]
theorem Uz {st:Bytes} (hst:st.length<=1000) {s:aT} (hs:Ux s):aH 77 [.s st,s.pv] (.s (gn st s)):=by
 obtain⟨ng,hg,nv,hv,ne,hq⟩:=hs;obtain⟨gs,vs,es⟩:=s;simp only at ng hg nv hv ne hq;have l1:(gs.map cz).length=gs.length:=au ..;simp only[gn,aT.pv];rw[show(gs.flatMap fun g=>[g.1,g.2])=px gs from rfl]
 have gl:=yq gs;have gb: ∀x∈px gs,x.length<=1000:=fun x hx=>by
  unfold px at hx;obtain⟨g,hgm,hx⟩:=jy.1 hx;have:=hg g hgm;simp at hx;rcases hx with rfl|rfl
  ·exact this.1
  ·exact this.2
 have n1:=Ed st pI (px gs) oO oC oO (fun x hx=>by have:=gb x hx;omega)
 have n2:=Ed (cY st pI (px gs)) rj vs (by rw[cL];decide) oC oO (fun x hx=>by have:=hv x hx;omega)
 have l2:=cL (cY st pI (px gs)) rj vs
 by_cases hg0:gs=[]
 ·subst hg0;clear gl gb l1 hg ng
  by_cases hv0:vs=[]
  ·subst hv0;simp only[cb,show px []=[]from rfl]at*
   generalize hS:cY (cY st pI []) rj []=s0 at*;refine eW call77 func77 ?_;repeat' first|simp only[go_sem,seval]|(refine aq ?_)|refine oE ?_|apply xX<;>intro hc
   repeat' first|simp only[go_sem,seval]|refine cV n1 ?_|refine cV n2 ?_|refine oE ?_|apply xX<;>intro hc
   clear n1 n2;refine ah (α:=Nat) (fun i=>es.length-i) (fun i=>⟨[(0, .v (.s ((es.take i).foldl fB s0))),(50, .v (.sl (es.map bZ.pv))),(51,E' es.length),(52,E' i)],[],_⟩) (fun i=>i<=es.length) 0 (fun _=>aA _) (aD _) ?_ ?_
   ·(refine AS.Le.of (by first|decide|omega) ?_ ?_<;>simp[cU,cT,aO,az,AV.bd,AV.bd.bdL,u8,aj,ak,an])
    all_goals rfl
   ·intro i hi R hR
    by_cases hit:i<es.length
    ·have e2:=getD_map bZ.pv es dU hit;have hgo:=hR (i+1) oO oO;rw[dB fB s0 dU hit]at hgo;obtain⟨g1,g2,g3,nt,ht⟩:=hq _ (ai dU hit);have hX:=iq (l:=es.take i) l2;generalize (es.take i).foldl fB s0=X at hgo hX⊢;generalize es.getD i dU=q at*;obtain⟨ig,tgt,ts⟩:=q;simp only at g1 g2 g3 nt ht;obtain⟨n,rfl⟩: ∃n:Nat,ig=(n:Int):=⟨ig.toNat,oO⟩;have e2:(es.map bZ.pv).getD i .fn0= .agg [.i .i64 (n:Int), .s tgt, .sl (ts.map dx.pv)]:=e2;simp only[fB,Int.toNat_natCast]at hgo;have ln:=dA n;have l4:(ts.map dx.pv).length=ts.length:=au ..;have c1:=jf n oO;have c2:=lW X js (cF n) oO oC oO;have c3:=kD (cZ X js (cF n)) mH [tgt] (by rw[dT];decide) oC (by simp) (by simp) (by simp;omega)
     have lS:=cL (cZ X js (cF n)) mH [tgt];generalize cY (cZ X js (cF n)) mH [tgt]=S0 at*;simp only[b8,cb]at c3;clear hR hq;refine mK (aN @e2 @l4) @c1 @c2 @c3 oT ?_;refine ah (α:=Nat) (fun k=>ts.length-k) (fun k=>⟨[(0, .v (.s ((ts.take k).foldl fC S0))),(50, .v (.sl (es.map bZ.pv))),(51,E' es.length),(52,E' i),(67, .v (.sl (ts.map dx.pv))),(68,E' ts.length),(69,E' k)],[],_⟩) (fun k=>k<=ts.length) 0 (fun _=>aA _) (aD _) ?_ ?_
     ·(refine AS.Le.of (by first|decide|omega) ?_ ?_<;>simp[cU,cT,aO,az,AV.bd,AV.bd.bdL,u8,aj,ak,an])
      all_goals rfl
     ·clear c1 c2 c3 e2;intro k hk R' hR'
      by_cases hkt:k<ts.length
      ·have e3:=getD_map dx.pv ts dN hkt;have hgo':=hR' (k+1) oO oO;rw[dB fC S0 dN hkt]at hgo';obtain⟨v1,v2,lb,la⟩:=ht _ (ai dN hkt);have hY:=ir (l:=ts.take k) lS;generalize (ts.take k).foldl fC S0=Y at hgo' hY⊢;generalize ts.getD k dN=t at*;obtain⟨base,vr,ng,ab⟩:=t;simp only at v1 v2 lb la;obtain⟨v,rfl⟩: ∃v:Nat,vr=(v:Int):=⟨vr.toNat,oO⟩;have e3:(ts.map dx.pv).getD k .fn0= .agg [.s base, .i .i64 (v:Int), .b ng, .s ab]:=e3;simp only[fC,Int.toNat_natCast]at hgo';have lv:=dA v;have c4:=jf v oO;have c5:=lW Y mI (cF v) oO oC oO;have c6:=kD (cZ Y mI (cF v)) mE [base] (by rw[dT];decide) oC (by simp) (by simp) (by simp;omega)
       have c7:=vd (cY (cZ Y mI (cF v)) mE [base]) uX ng ab (by rw[cL];decide) oC oO
       simp only[b8,cb]at c6;clear hR' hgo;refine nX (aN @e3 @l4) @c4 @c5 @c6 @c7 ?_;refine hgo' _ ?_
       (refine AS.Le.of (by first|decide|omega) ?_ ?_<;>simp[cU,cT,aO,az,AV.bd,AV.bd.bdL,u8,aj,ak,an])
       all_goals first|omega|skip
      ·have h:k=ts.length:=oO;rw[h,bm];refine dw @l4 ?_;refine hgo _ ?_
       (refine AS.Le.of (by first|decide|omega) ?_ ?_<;>simp[cU,cT,aO,az,AV.bd,AV.bd.bdL,u8,aj,ak,an])
       all_goals first|omega|skip
    ·have h:i=es.length:=oO;rw[h,bm];exact z0
  ·obtain⟨w0,wr,hw⟩: ∃a b,vs=a::b:=List.exists_cons_of_ne_nil hv0;have hvl:vs.length=wr.length+1:=by rw[hw];rfl
   have hpos: ∀ _:True,(0:Int)<(vs.length:Int):=fun _=>oO
   have g0:(vs.map bO).getD 0 .fn0= .agg [.s w0]:=by rw[hw];rfl
   simp only[cb,show px []=[]from rfl]at*
   generalize cY st pI []=s1 at*;generalize hS:cY s1 rj vs=s0 at*;refine eW call77 func77 ?_;repeat' first|simp only[go_sem,seval]|(refine aq ?_)|refine oE ?_|apply xX<;>intro hc
   refine dw (aN @g0 (hpos oT)) ?_;have hro:[AV.v (PV.s w0)]=aP PV.s (vs.take 1):=by rw[hw];rfl
   rw[hro];refine ah (α:=Nat) (fun j=>vs.length-j) (fun j=>⟨[(0, .v (.s st)),(3, .p 1000 0 0),(5, .sn),(6, .rs 1022 j 0 (1+j) 1),(31, .v (.sl (vs.map bO))),(32,E' vs.length),(33,E' (j+1))],[(1000,⟨0,[.v (.sl []), .v (.sl (vs.map bO)), .v (.sl (es.map bZ.pv))],false,none⟩),(1022,⟨j,aP PV.s (vs.take (j+1)),true,some 22⟩)],1026⟩) (fun j=>j+1<=vs.length) 0 (fun _=>cd rfl) oO ?_ ?_
   ·(refine AS.Le.of (by first|decide|omega) ?_ ?_<;>simp[cU,cT,aO,az,AV.bd,AV.bd.bdL,u8,aj,ak,an])
    all_goals first|exact fun c hc=>bj hc|exact⟨fun c hc=>bj hc,fun c hc=>bj hc⟩
   ·intro j hj R hR;have hlr:(vs.take (j+1)).length=1+j:=by rw[bQ];omega
    have q0:(aP PV.s (vs.take (j+1))).length=1+j:=by rw[bT cH.s,hlr,dr]
    have q1:List.take (1+j) (aP PV.s (vs.take (j+1)))=aP PV.s (vs.take (j+1)):=cQ oO
    by_cases hjt:j+1<vs.length
    ·have e2:=getD_map bO vs ([]:Bytes) hjt;have hgo:=hR (j+1) oO oO;rw[aL ([]:Bytes) hjt,bU]at hgo;generalize vs.getD (j+1) []=y at e2 hgo;have e2:(vs.map bO).getD (j+1) .fn0= .agg [.s y]:=e2;have e3: ∀ _:True,((j:Int)+1).toNat=j+1:=fun _=>oO
     clear hR hlr n1 n2;refine dw (aN @q0 (aN @q1 (aN @e2 (e3 oT)))) ?_;refine hgo _ ?_
     (refine AS.Le.of (by first|decide|omega) ?_ ?_<;>simp[cU,cT,aO,az,AV.bd,AV.bd.bdL,u8,aj,ak,an])
     all_goals first|omega|exact⟨rfl,fun c hc=>by rcases hc with hc|⟨a,ha,rfl⟩;exact bj hc;rfl⟩|exact⟨fun c hc=>bj hc,rfl,fun c hc=>by rcases hc with hc|⟨a,ha,rfl⟩;exact bj hc;rfl⟩|(intro c hc;rcases hc with hc|rfl|rfl;exact bj hc;rfl;rfl)
    ·have hj2:j+1=vs.length:=oO;rw[hj2,bm]at hlr q0 q1⊢;clear hR hpos g0 hro;repeat' first|simp only[go_sem,seval,q0,q1]|refine cV n1 ?_|(refine mj (l:=vs) (g:=PV.s) (ver:=j) (gr:=true) (el:=some 22) n2 cH.s rfl (by simp[az]) hlr.symm ?_)|refine oE ?_|apply xX<;>intro hc
     clear n1 n2;refine ah (α:=Nat) (fun i=>es.length-i) (fun i=>⟨[(0, .v (.s ((es.take i).foldl fB s0))),(50, .v (.sl (es.map bZ.pv))),(51,E' es.length),(52,E' i)],[],_⟩) (fun i=>i<=es.length) 0 (fun _=>aA _) (aD _) ?_ ?_
     ·(refine AS.Le.of (by first|decide|omega) ?_ ?_<;>simp[cU,cT,aO,az,AV.bd,AV.bd.bdL,u8,aj,ak,an])
      all_goals rfl
     ·intro i hi R hR
      by_cases hit:i<es.length
      ·have e2:=getD_map bZ.pv es dU hit;have hgo:=hR (i+1) oO oO;rw[dB fB s0 dU hit]at hgo;obtain⟨g1,g2,g3,nt,ht⟩:=hq _ (ai dU hit);have hX:=iq (l:=es.take i) l2;generalize (es.take i).foldl fB s0=X at hgo hX⊢;generalize es.getD i dU=q at*;obtain⟨ig,tgt,ts⟩:=q;simp only at g1 g2 g3 nt ht;obtain⟨n,rfl⟩: ∃n:Nat,ig=(n:Int):=⟨ig.toNat,oO⟩;have e2:(es.map bZ.pv).getD i .fn0= .agg [.i .i64 (n:Int), .s tgt, .sl (ts.map dx.pv)]:=e2;simp only[fB,Int.toNat_natCast]at hgo;have ln:=dA n;have l4:(ts.map dx.pv).length=ts.length:=au ..;have c1:=jf n oO;have c2:=lW X js (cF n) oO oC oO;have c3:=kD (cZ X js (cF n)) mH [tgt] (by rw[dT];decide) oC (by simp) (by simp) (by simp;omega)
       have lS:=cL (cZ X js (cF n)) mH [tgt];generalize cY (cZ X js (cF n)) mH [tgt]=S0 at*;simp only[b8,cb]at c3;clear hR hq;refine mK (aN @e2 @l4) @c1 @c2 @c3 oT ?_;refine ah (α:=Nat) (fun k=>ts.length-k) (fun k=>⟨[(0, .v (.s ((ts.take k).foldl fC S0))),(50, .v (.sl (es.map bZ.pv))),(51,E' es.length),(52,E' i),(67, .v (.sl (ts.map dx.pv))),(68,E' ts.length),(69,E' k)],[],_⟩) (fun k=>k<=ts.length) 0 (fun _=>aA _) (aD _) ?_ ?_
       ·(refine AS.Le.of (by first|decide|omega) ?_ ?_<;>simp[cU,cT,aO,az,AV.bd,AV.bd.bdL,u8,aj,ak,an])
        all_goals rfl
       ·clear c1 c2 c3 e2;intro k hk R' hR'
        by_cases hkt:k<ts.length
        ·have e3:=getD_map dx.pv ts dN hkt;have hgo':=hR' (k+1) oO oO;rw[dB fC S0 dN hkt]at hgo';obtain⟨v1,v2,lb,la⟩:=ht _ (ai dN hkt);have hY:=ir (l:=ts.take k) lS;generalize (ts.take k).foldl fC S0=Y at hgo' hY⊢;generalize ts.getD k dN=t at*;obtain⟨base,vr,ng,ab⟩:=t;simp only at v1 v2 lb la;obtain⟨v,rfl⟩: ∃v:Nat,vr=(v:Int):=⟨vr.toNat,oO⟩;have e3:(ts.map dx.pv).getD k .fn0= .agg [.s base, .i .i64 (v:Int), .b ng, .s ab]:=e3;simp only[fC,Int.toNat_natCast]at hgo';have lv:=dA v;have c4:=jf v oO;have c5:=lW Y mI (cF v) oO oC oO;have c6:=kD (cZ Y mI (cF v)) mE [base] (by rw[dT];decide) oC (by simp) (by simp) (by simp;omega)
         have c7:=vd (cY (cZ Y mI (cF v)) mE [base]) uX ng ab (by rw[cL];decide) oC oO
         simp only[b8,cb]at c6;clear hR' hgo;refine nX (aN @e3 @l4) @c4 @c5 @c6 @c7 ?_;refine hgo' _ ?_
         (refine AS.Le.of (by first|decide|omega) ?_ ?_<;>simp[cU,cT,aO,az,AV.bd,AV.bd.bdL,u8,aj,ak,an])
         all_goals first|omega|skip
        ·have h:k=ts.length:=oO;rw[h,bm];refine dw @l4 ?_;refine hgo _ ?_
         (refine AS.Le.of (by first|decide|omega) ?_ ?_<;>simp[cU,cT,aO,az,AV.bd,AV.bd.bdL,u8,aj,ak,an])
         all_goals first|omega|skip
      ·have h:i=es.length:=oO;rw[h,bm];exact z0
 obtain⟨g1,gr,hgg⟩: ∃a b,gs=a::b:=List.exists_cons_of_ne_nil hg0;have hgl:gs.length=gr.length+1:=by rw[hgg];rfl
 have hgp: ∀ _:True,(0:Int)<(gs.length:Int):=fun _=>oO
 have gg0:(gs.map cz).getD 0 .fn0= .agg [.s g1.1, .s g1.2]:=by rw[hgg];rfl
 have hrog:[AV.v (.s g1.1),AV.v (.s g1.2)]=aP PV.s (px (gs.take 1)):=by rw[hgg];rfl
 generalize hS1:cY st pI (px gs)=s1 at*;generalize hS:cY s1 rj vs=s0 at*;refine eW call77 func77 ?_;refine dh @l1 ?_;refine aq ?_;refine dw (aN @l1 (aN @gg0 (hgp oT))) ?_;rw[hrog];refine ah (α:=Nat) (fun j=>gs.length-j) (fun j=>⟨[(0, .v (.s st)),(3, .p 1000 0 0),(5, .rs 1019 j 0 (2+2*j) 1),(6, .sn),(16, .v (.sl (gs.map cz))),(17,E' gs.length),(18,E' (j+1))],[(1000,⟨0,[.v (.sl (gs.map cz)), .v (.sl (vs.map bO)), .v (.sl (es.map bZ.pv))],false,none⟩),(1019,⟨j,aP PV.s (px (gs.take (j+1))),true,some 22⟩)],1023⟩) (fun j=>j+1<=gs.length) 0 (fun _=>cd rfl) oO ?_ ?_
 ·(refine AS.Le.of (by first|decide|omega) ?_ ?_<;>simp[cU,cT,aO,az,AV.bd,AV.bd.bdL,u8,aj,ak,an])
  all_goals first|exact fun c hc=>bj hc|exact⟨fun c hc=>bj hc,fun c hc=>bj hc⟩
 ·intro jg hjg R hR;have hlg:(px (gs.take (jg+1))).length=2+2*jg:=by rw[yq,bQ];omega
  have p0:(aP PV.s (px (gs.take (jg+1)))).length=2+2*jg:=by rw[bT cH.s,hlg,dr]
  have p1:List.take (2+2*jg) (aP PV.s (px (gs.take (jg+1))))=aP PV.s (px (gs.take (jg+1))):=cQ oO
  by_cases hjt:jg+1<gs.length
  ·have e2:=getD_map cz gs (([],[]):Bytes×Bytes) hjt;have hgo:=hR (jg+1) oO oO;rw[aL (([],[]):Bytes×Bytes) hjt,FM]at hgo;generalize gs.getD (jg+1) ([],[])=y at e2 hgo;have e2:(gs.map cz).getD (jg+1) .fn0= .agg [.s y.1, .s y.2]:=e2;have e3: ∀ _:True,((jg:Int)+1).toNat=jg+1:=fun _=>oO
   clear hR hlg n1 n2;refine dw (aN @p0 (aN @p1 (aN @e2 (aN (e3 oT) @l1)))) ?_;refine hgo _ ?_
   (refine AS.Le.of (by first|decide|omega) ?_ ?_<;>simp[cU,cT,aO,az,AV.bd,AV.bd.bdL,u8,aj,ak,an])
   all_goals first|omega|exact⟨rfl,fun c hc=>by rcases hc with hc|⟨a,ha,rfl⟩;exact bj hc;rfl⟩|exact⟨fun c hc=>bj hc,rfl,fun c hc=>by rcases hc with hc|⟨a,ha,rfl⟩;exact bj hc;rfl⟩|(intro c hc;rcases hc with hc|rfl|rfl;exact bj hc;rfl;rfl)
  ·have hj2:jg+1=gs.length:=oO;rw[hj2,bm]at hlg p0 p1⊢;clear hR hgp gg0 hrog
   by_cases hv0:vs=[]
   ·subst hv0;simp only[cb]at*;refine dh (aN @l1 (aN @p0 @p1)) ?_;refine aq ?_;repeat' first|simp only[go_sem,seval,p0,p1]|refine cV n2 ?_|(refine mj (l:=px gs) (g:=PV.s) (ver:=jg) (gr:=true) (el:=some 22) n1 cH.s rfl (by simp[az]) hlg.symm ?_)|refine oE ?_|apply xX<;>intro hc
    clear n1 n2;refine ah (α:=Nat) (fun i=>es.length-i) (fun i=>⟨[(0, .v (.s ((es.take i).foldl fB s0))),(50, .v (.sl (es.map bZ.pv))),(51,E' es.length),(52,E' i)],[],_⟩) (fun i=>i<=es.length) 0 (fun _=>aA _) (aD _) ?_ ?_
    ·(refine AS.Le.of (by first|decide|omega) ?_ ?_<;>simp[cU,cT,aO,az,AV.bd,AV.bd.bdL,u8,aj,ak,an])
     all_goals rfl
    ·intro i hi R hR
     by_cases hit:i<es.length
     ·have e2:=getD_map bZ.pv es dU hit;have hgo:=hR (i+1) oO oO;rw[dB fB s0 dU hit]at hgo;obtain⟨g1,g2,g3,nt,ht⟩:=hq _ (ai dU hit);have hX:=iq (l:=es.take i) l2;generalize (es.take i).foldl fB s0=X at hgo hX⊢;generalize es.getD i dU=q at*;obtain⟨ig,tgt,ts⟩:=q;simp only at g1 g2 g3 nt ht;obtain⟨n,rfl⟩: ∃n:Nat,ig=(n:Int):=⟨ig.toNat,oO⟩;have e2:(es.map bZ.pv).getD i .fn0= .agg [.i .i64 (n:Int), .s tgt, .sl (ts.map dx.pv)]:=e2;simp only[fB,Int.toNat_natCast]at hgo;have ln:=dA n;have l4:(ts.map dx.pv).length=ts.length:=au ..;have c1:=jf n oO;have c2:=lW X js (cF n) oO oC oO;have c3:=kD (cZ X js (cF n)) mH [tgt] (by rw[dT];decide) oC (by simp) (by simp) (by simp;omega)
      have lS:=cL (cZ X js (cF n)) mH [tgt];generalize cY (cZ X js (cF n)) mH [tgt]=S0 at*;simp only[b8,cb]at c3;clear hR hq;refine mK (aN @e2 @l4) @c1 @c2 @c3 oT ?_;refine ah (α:=Nat) (fun k=>ts.length-k) (fun k=>⟨[(0, .v (.s ((ts.take k).foldl fC S0))),(50, .v (.sl (es.map bZ.pv))),(51,E' es.length),(52,E' i),(67, .v (.sl (ts.map dx.pv))),(68,E' ts.length),(69,E' k)],[],_⟩) (fun k=>k<=ts.length) 0 (fun _=>aA _) (aD _) ?_ ?_
      ·(refine AS.Le.of (by first|decide|omega) ?_ ?_<;>simp[cU,cT,aO,az,AV.bd,AV.bd.bdL,u8,aj,ak,an])
       all_goals rfl
      ·clear c1 c2 c3 e2;intro k hk R' hR'
       by_cases hkt:k<ts.length
       ·have e3:=getD_map dx.pv ts dN hkt;have hgo':=hR' (k+1) oO oO;rw[dB fC S0 dN hkt]at hgo';obtain⟨v1,v2,lb,la⟩:=ht _ (ai dN hkt);have hY:=ir (l:=ts.take k) lS;generalize (ts.take k).foldl fC S0=Y at hgo' hY⊢;generalize ts.getD k dN=t at*;obtain⟨base,vr,ng,ab⟩:=t;simp only at v1 v2 lb la;obtain⟨v,rfl⟩: ∃v:Nat,vr=(v:Int):=⟨vr.toNat,oO⟩;have e3:(ts.map dx.pv).getD k .fn0= .agg [.s base, .i .i64 (v:Int), .b ng, .s ab]:=e3;simp only[fC,Int.toNat_natCast]at hgo';have lv:=dA v;have c4:=jf v oO;have c5:=lW Y mI (cF v) oO oC oO;have c6:=kD (cZ Y mI (cF v)) mE [base] (by rw[dT];decide) oC (by simp) (by simp) (by simp;omega)
        have c7:=vd (cY (cZ Y mI (cF v)) mE [base]) uX ng ab (by rw[cL];decide) oC oO
        simp only[b8,cb]at c6;clear hR' hgo;refine nX (aN @e3 @l4) @c4 @c5 @c6 @c7 ?_;refine hgo' _ ?_
        (refine AS.Le.of (by first|decide|omega) ?_ ?_<;>simp[cU,cT,aO,az,AV.bd,AV.bd.bdL,u8,aj,ak,an])
        all_goals first|omega|skip
       ·have h:k=ts.length:=oO;rw[h,bm];refine dw @l4 ?_;refine hgo _ ?_
        (refine AS.Le.of (by first|decide|omega) ?_ ?_<;>simp[cU,cT,aO,az,AV.bd,AV.bd.bdL,u8,aj,ak,an])
        all_goals first|omega|skip
     ·have h:i=es.length:=oO;rw[h,bm];exact z0
   ·obtain⟨w0,wr,hw⟩: ∃a b,vs=a::b:=List.exists_cons_of_ne_nil hv0;have hvl:vs.length=wr.length+1:=by rw[hw];rfl
    have hpos: ∀ _:True,(0:Int)<(vs.length:Int):=fun _=>oO
    have g0:(vs.map bO).getD 0 .fn0= .agg [.s w0]:=by rw[hw];rfl
    refine dh (aN @l1 (aN @p0 @p1)) ?_;refine aq ?_;refine dw (aN @g0 (aN (hpos oT) (aN @p0 @p1))) ?_;have hro:[AV.v (PV.s w0)]=aP PV.s (vs.take 1):=by rw[hw];rfl
    rw[hro];refine ah (α:=Nat) (fun j=>vs.length-j) (fun j=>⟨[(0, .v (.s st)),(3, .p 1000 0 0),(5, .rs 1019 jg 0 (2+2*jg) 1),(6, .rs 1037 j 0 (1+j) 1),(31, .v (.sl (vs.map bO))),(32,E' vs.length),(33,E' (j+1))],[(1000,⟨0,[.v (.sl (gs.map cz)), .v (.sl (vs.map bO)), .v (.sl (es.map bZ.pv))],false,none⟩),(1019,⟨jg,aP PV.s (px gs),true,some 22⟩),(1037,⟨j,aP PV.s (vs.take (j+1)),true,some 22⟩)],1041⟩) (fun j=>j+1<=vs.length) 0 (fun _=>cd rfl) oO ?_ ?_
    ·(refine AS.Le.of (by first|decide|omega) ?_ ?_<;>simp[cU,cT,aO,az,AV.bd,AV.bd.bdL,u8,aj,ak,an])
     all_goals first|exact fun c hc=>bj hc|exact⟨fun c hc=>bj hc,fun c hc=>bj hc⟩
    ·intro j hj R hR;have hlr:(vs.take (j+1)).length=1+j:=by rw[bQ];omega
     have q0:(aP PV.s (vs.take (j+1))).length=1+j:=by rw[bT cH.s,hlr,dr]
     have q1:List.take (1+j) (aP PV.s (vs.take (j+1)))=aP PV.s (vs.take (j+1)):=cQ oO
     by_cases hjt:j+1<vs.length
     ·have e2:=getD_map bO vs ([]:Bytes) hjt;have hgo:=hR (j+1) oO oO;rw[aL ([]:Bytes) hjt,bU]at hgo;generalize vs.getD (j+1) []=y at e2 hgo;have e2:(vs.map bO).getD (j+1) .fn0= .agg [.s y]:=e2;have e3: ∀ _:True,((j:Int)+1).toNat=j+1:=fun _=>oO
      clear hR hlr n1 n2;refine dw (aN @q0 (aN @q1 (aN @e2 (e3 oT)))) ?_;refine hgo _ ?_
      (refine AS.Le.of (by first|decide|omega) ?_ ?_<;>simp[cU,cT,aO,az,AV.bd,AV.bd.bdL,u8,aj,ak,an])
      all_goals first|omega|exact⟨rfl,fun c hc=>by rcases hc with hc|⟨a,ha,rfl⟩;exact bj hc;rfl⟩|exact⟨fun c hc=>bj hc,rfl,fun c hc=>by rcases hc with hc|⟨a,ha,rfl⟩;exact bj hc;rfl⟩|(intro c hc;rcases hc with hc|rfl|rfl;exact bj hc;rfl;rfl)
     ·have hj2:j+1=vs.length:=oO;rw[hj2,bm]at hlr q0 q1⊢;clear hR hpos g0 hro;repeat' first|simp only[go_sem,seval,q0,q1,p0,p1]|(refine mj (l:=px gs) (g:=PV.s) (ver:=jg) (gr:=true) (el:=some 22) n1 cH.s rfl (by simp[az]) hlg.symm ?_)|(refine mj (l:=vs) (g:=PV.s) (ver:=j) (gr:=true) (el:=some 22) n2 cH.s rfl (by simp[az]) hlr.symm ?_)|refine oE ?_|apply xX<;>intro hc
      clear n1 n2;refine ah (α:=Nat) (fun i=>es.length-i) (fun i=>⟨[(0, .v (.s ((es.take i).foldl fB s0))),(50, .v (.sl (es.map bZ.pv))),(51,E' es.length),(52,E' i)],[],_⟩) (fun i=>i<=es.length) 0 (fun _=>aA _) (aD _) ?_ ?_
      ·(refine AS.Le.of (by first|decide|omega) ?_ ?_<;>simp[cU,cT,aO,az,AV.bd,AV.bd.bdL,u8,aj,ak,an])
       all_goals rfl
      ·intro i hi R hR
       by_cases hit:i<es.length
       ·have e2:=getD_map bZ.pv es dU hit;have hgo:=hR (i+1) oO oO;rw[dB fB s0 dU hit]at hgo;obtain⟨g1,g2,g3,nt,ht⟩:=hq _ (ai dU hit);have hX:=iq (l:=es.take i) l2;generalize (es.take i).foldl fB s0=X at hgo hX⊢;generalize es.getD i dU=q at*;obtain⟨ig,tgt,ts⟩:=q;simp only at g1 g2 g3 nt ht;obtain⟨n,rfl⟩: ∃n:Nat,ig=(n:Int):=⟨ig.toNat,oO⟩;have e2:(es.map bZ.pv).getD i .fn0= .agg [.i .i64 (n:Int), .s tgt, .sl (ts.map dx.pv)]:=e2;simp only[fB,Int.toNat_natCast]at hgo;have ln:=dA n;have l4:(ts.map dx.pv).length=ts.length:=au ..;have c1:=jf n oO;have c2:=lW X js (cF n) oO oC oO;have c3:=kD (cZ X js (cF n)) mH [tgt] (by rw[dT];decide) oC (by simp) (by simp) (by simp;omega)
        have lS:=cL (cZ X js (cF n)) mH [tgt];generalize cY (cZ X js (cF n)) mH [tgt]=S0 at*;simp only[b8,cb]at c3;clear hR hq;refine mK (aN @e2 @l4) @c1 @c2 @c3 oT ?_;refine ah (α:=Nat) (fun k=>ts.length-k) (fun k=>⟨[(0, .v (.s ((ts.take k).foldl fC S0))),(50, .v (.sl (es.map bZ.pv))),(51,E' es.length),(52,E' i),(67, .v (.sl (ts.map dx.pv))),(68,E' ts.length),(69,E' k)],[],_⟩) (fun k=>k<=ts.length) 0 (fun _=>aA _) (aD _) ?_ ?_
        ·(refine AS.Le.of (by first|decide|omega) ?_ ?_<;>simp[cU,cT,aO,az,AV.bd,AV.bd.bdL,u8,aj,ak,an])
         all_goals rfl
        ·clear c1 c2 c3 e2;intro k hk R' hR'
         by_cases hkt:k<ts.length
         ·have e3:=getD_map dx.pv ts dN hkt;have hgo':=hR' (k+1) oO oO;rw[dB fC S0 dN hkt]at hgo';obtain⟨v1,v2,lb,la⟩:=ht _ (ai dN hkt);have hY:=ir (l:=ts.take k) lS;generalize (ts.take k).foldl fC S0=Y at hgo' hY⊢;generalize ts.getD k dN=t at*;obtain⟨base,vr,ng,ab⟩:=t;simp only at v1 v2 lb la;obtain⟨v,rfl⟩: ∃v:Nat,vr=(v:Int):=⟨vr.toNat,oO⟩;have e3:(ts.map dx.pv).getD k .fn0= .agg [.s base, .i .i64 (v:Int), .b ng, .s ab]:=e3;simp only[fC,Int.toNat_natCast]at hgo';have lv:=dA v;have c4:=jf v oO;have c5:=lW Y mI (cF v) oO oC oO;have c6:=kD (cZ Y mI (cF v)) mE [base] (by rw[dT];decide) oC (by simp) (by simp) (by simp;omega)
          have c7:=vd (cY (cZ Y mI (cF v)) mE [base]) uX ng ab (by rw[cL];decide) oC oO
          simp only[b8,cb]at c6;clear hR' hgo;refine nX (aN @e3 @l4) @c4 @c5 @c6 @c7 ?_;refine hgo' _ ?_
          (refine AS.Le.of (by first|decide|omega) ?_ ?_<;>simp[cU,cT,aO,az,AV.bd,AV.bd.bdL,u8,aj,ak,an])
          all_goals first|omega|skip
         ·have h:k=ts.length:=oO;rw[h,bm];refine dw @l4 ?_;refine hgo _ ?_
          (refine AS.Le.of (by first|decide|omega) ?_ ?_<;>simp[cU,cT,aO,az,AV.bd,AV.bd.bdL,u8,aj,ak,an])
          all_goals first|omega|skip
       ·have h:i=es.length:=oO;rw[h,bm];exact z0
