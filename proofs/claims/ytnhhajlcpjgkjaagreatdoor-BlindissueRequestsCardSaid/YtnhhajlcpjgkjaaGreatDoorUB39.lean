/- Part of the proof. -/
import Derived.Test.YtnhhajlcpjgkjaaGreatDoorUB38
set_option linter.all false
set_option maxHeartbeats 16000000
set_option maxRecDepth 100000
namespace Go.Proofs.Tryz
open Go Go.Dom Go.Num
variable {c ctx sl st:Bytes}
structure Qn (s:cG):Prop where
 g: ∃m o,s.groups=[(m,o)]/\m.length<=1000/\o.length<=1000
 v0:s.vars≠[]
 nv:s.vars.length<=64
 v: ∀b∈s.vars,b.length<=1000
 ne:s.eqs.length<=64
 q: ∀q∈s.eqs,0<=q.lL/\q.lL<100/\q.tgt.length<=1000/\q.terms.length<=64/\ ∀t∈q.terms,0<=t.var/\t.var<100/\t.base.length<=1000/\t.abs.length<=1000
theorem sF {l:List dM} (hs:st.length=32):(l.foldl r9 st).length=32:=by
 induction l generalizing st with
 |nil=>exact hs
 |cons t l ih=>exact ih (H9 _ _ _)
theorem sE {l:List c9} (hs:st.length=32):(l.foldl r8 st).length=32:=by
 induction l generalizing st with
 |nil=>exact hs
 |cons q l ih=>exact ih (sF (fo _ _ _))
theorem XG (hst:st.length<=1000) {s:cG} (hs:Qn s):aE 206 [.s st,s.pv] (.s (mJ st s)):=by
 obtain⟨⟨m,o,hg,lm,lo⟩,v0,nv,hv,ne,hq⟩:=hs;obtain⟨gs,vs,es⟩:=s;simp only at hg v0 nv hv ne hq;subst hg;obtain⟨w0,wr,hw⟩: ∃a b,vs=a::b:=by cases vs with
  |nil=>exact aP rfl v0
  |cons a b=>exact⟨a,b,rfl⟩
 have hvl:vs.length=wr.length+1:=by rw[hw];rfl
 have hpos: ∀ _:True,(0:Int)<(vs.length:Int):=fun _=>oO
 have g0:(vs.map cz).getD 0 .fn0= .agg [.s w0]:=by rw[hw];rfl
 simp only[mJ,fy,DZ,iM,cG.pv,bV,ca,dO];have n1:=qS st uv [m,o] oO oC (by simp) (by simp) (by intro s hs;simp at hs;rcases hs with rfl|rfl<;>omega)
 simp only[bV,ca]at n1;have n2:=qS (gL st uv [m,o]) Ax vs (by rw[fo];decide) oC v0 oO (fun x hx=>by have:=hv x hx;omega)
 have l2:=fo (gL st uv [m,o]) Ax vs;refine eW call206 func206 ?_;repeat' first|simp only[go_sem,seval]|(refine aj ?_)|refine oE ?_|apply xX<;>intro hc
 refine eJ (aN @g0 (hpos oT)) ?_;have hro:[AV.v (PV.s w0)]=aT PV.s (vs.take 1):=by rw[hw];rfl
 rw[hro];refine ak (α:=Nat) (fun j=>vs.length-j) (fun j=>⟨[(0, .v (.s st)),(3, .p 1000 0 0),(5, .rs 1019 0 0 2 1),(6, .rs 1037 j 0 (1+j) 1),(31, .v (.sl (vs.map cz))),(32,E' vs.length),(33,E' (j+1))],[(1000,⟨0,[.v (.sl [.agg [.s m, .s o]]), .v (.sl (vs.map cz)), .v (.sl (es.map c9.pv))],false,none⟩),(1019,⟨0,[.v (.s m), .v (.s o)],true,some 22⟩),(1037,⟨j,aT PV.s (vs.take (j+1)),true,some 22⟩)],1041⟩) (fun j=>j+1<=vs.length) 0 (fun _=>dr rfl) oO ?_ ?_
 ·refine lG ?_;all_goals exact fun c hc=>cv hc
 ·intro j hj R hR;have hlr:(vs.take (j+1)).length=1+j:=by rw[cd];omega
  have q0:(aT PV.s (vs.take (j+1))).length=1+j:=by rw[cf cU.s,hlr,dG]
  have q1:List.take (1+j) (aT PV.s (vs.take (j+1)))=aT PV.s (vs.take (j+1)):=cZ oO
  by_cases hjt:j+1<vs.length
  ·have e2:=getD_map cz vs ([]:Bytes) hjt;have hgo:=hR (j+1) oO oO;rw[aL ([]:Bytes) hjt,bT]at hgo;generalize vs.getD (j+1) []=y at e2 hgo;have e2:(vs.map cz).getD (j+1) .fn0= .agg [.s y]:=e2;have e3: ∀ _:True,((j:Int)+1).toNat=j+1:=fun _=>oO
   clear hR hlr n1 n2;refine eJ (aN @q0 (aN @q1 (aN @e2 (e3 oT)))) ?_;refine hgo _ ?_
   (refine AS.Le.of (by first|decide|omega) ?_ ?_<;>simp[dw,du,aS,aC,AV.bd,AV.bd.bdL,u8,an,ar,aA])
   all_goals first|omega|exact⟨rfl,fun c hc=>by rcases hc with hc|⟨a,ha,rfl⟩;exact cv hc;rfl⟩|skip
  ·have hj2:j+1=vs.length:=oO;rw[hj2,cl]at hlr q0 q1⊢;clear hR hpos g0 hro;repeat' first|simp only[go_sem,seval,q0,q1]|refine cV n1 ?_|(refine tx (l:=vs) (g:=PV.s) (ver:=j) (gr:=true) (el:=some 22) n2 cU.s rfl (by simp[aC]) hlr.symm ?_)|refine oE ?_|apply xX<;>intro hc
   generalize gL (gL st uv [m,o]) Ax vs=s0 at l2⊢;clear n1 n2;refine ak (α:=Nat) (fun i=>es.length-i) (fun i=>⟨[(0, .v (.s ((es.take i).foldl r8 s0))),(50, .v (.sl (es.map c9.pv))),(51,E' es.length),(52,E' i)],[],_⟩) (fun i=>i<=es.length) 0 (fun _=>aD _) (aO _) ?_ ?_
   ·(refine AS.Le.of (by first|decide|omega) ?_ ?_<;>simp[dw,du,aS,aC,AV.bd,AV.bd.bdL,u8,an,ar,aA])
    all_goals rfl
   ·intro i hi R hR
    by_cases hit:i<es.length
    ·have e2:=getD_map c9.pv es fJ hit;have hgo:=hR (i+1) oO oO;rw[pj r8 s0 fJ hit]at hgo;obtain⟨g1,g2,g3,nt,ht⟩:=hq _ (au fJ hit);have hX:=sE (l:=es.take i) l2;generalize (es.take i).foldl r8 s0=X at hgo hX⊢;generalize es.getD i fJ=q at*;obtain⟨lL,tgt,ts⟩:=q;simp only at g1 g2 g3 nt ht;obtain⟨n,rfl⟩: ∃n:Nat,lL=(n:Int):=⟨lL.toNat,oO⟩;have e2:(es.map c9.pv).getD i .fn0= .agg [.i .i64 (n:Int), .s tgt, .sl (ts.map dM.pv)]:=e2;simp only[r8,Int.toNat_natCast]at hgo;have ln:=oH n;have l4:(ts.map dM.pv).length=ts.length:=aG ..;have c1:=CA n oO;have c2:=xZ X Dy (iA n) oO oC oO;have c3:=qS (fH X Dy (iA n)) H4 [tgt] (by rw[jB];decide) oC (by simp) (by simp) (by simp;omega)
     have lS:=fo (fH X Dy (iA n)) H4 [tgt];generalize gL (fH X Dy (iA n)) H4 [tgt]=S0 at*;simp only[bV,ca]at c3;clear hR hq;refine tj (aN @e2 @l4) @c1 @c2 @c3 oT ?_;refine ak (α:=Nat) (fun k=>ts.length-k) (fun k=>⟨[(0, .v (.s ((ts.take k).foldl r9 S0))),(50, .v (.sl (es.map c9.pv))),(51,E' es.length),(52,E' i),(67, .v (.sl (ts.map dM.pv))),(68,E' ts.length),(69,E' k)],[],_⟩) (fun k=>k<=ts.length) 0 (fun _=>aD _) (aO _) ?_ ?_
     ·(refine AS.Le.of (by first|decide|omega) ?_ ?_<;>simp[dw,du,aS,aC,AV.bd,AV.bd.bdL,u8,an,ar,aA])
      all_goals rfl
     ·clear c1 c2 c3 e2;intro k hk R' hR'
      by_cases hkt:k<ts.length
      ·have e3:=getD_map dM.pv ts dE hkt;have hgo':=hR' (k+1) oO oO;rw[pj r9 S0 dE hkt]at hgo';obtain⟨v1,v2,lb,la⟩:=ht _ (au dE hkt);have hY:=sF (l:=ts.take k) lS;generalize (ts.take k).foldl r9 S0=Y at hgo' hY⊢;generalize ts.getD k dE=t at*;obtain⟨base,vr,ng,ab⟩:=t;simp only at v1 v2 lb la;obtain⟨v,rfl⟩: ∃v:Nat,vr=(v:Int):=⟨vr.toNat,oO⟩;have e3:(ts.map dM.pv).getD k .fn0= .agg [.s base, .i .i64 (v:Int), .b ng, .s ab]:=e3;simp only[r9,Int.toNat_natCast]at hgo';have lv:=oH v;have c4:=CA v oO;have c5:=xZ Y H5 (iA v) oO oC oO;have c6:=qS (fH Y H5 (iA v)) Gj [base] (by rw[jB];decide) oC (by simp) (by simp) (by simp;omega)
       have c7:=PD (gL (fH Y H5 (iA v)) Gj [base]) Pp ng ab (by rw[fo];decide) oC oO
       simp only[bV,ca]at c6;clear hR' hgo;refine Ey (aN @e3 @l4) @c4 @c5 @c6 @c7 ?_;refine hgo' _ ?_
       (refine AS.Le.of (by first|decide|omega) ?_ ?_<;>simp[dw,du,aS,aC,AV.bd,AV.bd.bdL,u8,an,ar,aA])
       all_goals first|omega|skip
      ·have h:k=ts.length:=oO;rw[h,cl];refine eJ @l4 ?_;refine hgo _ ?_
       (refine AS.Le.of (by first|decide|omega) ?_ ?_<;>simp[dw,du,aS,aC,AV.bd,AV.bd.bdL,u8,an,ar,aA])
       all_goals first|omega|skip
    ·have h:i=es.length:=oO;rw[h,cl];exact z0
theorem xb {s:cG} (hp:u7 c sl s):aE 99 [.agg [.s c, .s sl],s.pv,C0] (.tup [X0 c sl s,E 0]):=by
 have hb:=Gk hp;obtain⟨gs,vs,es⟩:=s;simp only[cG.pv,X0]at hb⊢;refine eW call99 func99 ?_;exact z2 @hb @Iz
theorem yT {s:cG}:(mJ st s).length=32:=by
 unfold mJ;exact sE (fo _ _ _)
theorem y5 (hr:tF c sl) {s:cG} (hb:Qn s) (hx:ctx.length<=100000) {fs:List Bytes} (f0:fs≠[]) (fn:fs.length<=900) (fl: ∀x∈fs,x.length<=100000):
  aE 103 [X0 c sl s, .s ctx, .sl (fs.map .s), .sl []] (.tup [N (gK (xp ctx s fs) c),E 0]):=by
 have c0:c≠[]:=by
  intro h;have:=hr.c2;rw[h]at this;exact aP this oC
 have n1:=S9 sW oC;have n2:=xZ (lZ sW) wC ctx (by rw[Cs];decide) oC hx
 have n3:=XG (st:=fH (lZ sW) wC ctx) (by rw[jB];decide) hb
 have n4:=xZ (mJ (fH (lZ sW) wC ctx) s) H3 [] (by rw[yT];decide) oC oC
 have n5:=qS (fH (mJ (fH (lZ sW) wC ctx) s) H3 []) Pq fs (by rw[jB];decide) oC f0 fn fl
 have n6:=Bp (xp ctx s fs) c (by rw[xp,fo];decide) hr.vc c0 hr.lc
 have n5:aE 208 [.s (fH (mJ (fH (lZ sW) wC ctx) s) H3 []), .s Pq, .sl (fs.map .s)] (.s (xp ctx s fs)):=n5;generalize xp ctx s fs=st5 at*;generalize mJ (fH (lZ sW) wC ctx) s=st3 at*;obtain⟨gq,vs,es⟩:=s;simp only[X0,cG.pv]at n3⊢;refine eW call103 func103 ?_;repeat' first|simp only[go_sem,seval]|refine cP n1 ?_|refine cP n2 ?_|refine cP n3 ?_|refine cP n4 ?_|refine cP n5 ?_|refine cP n6 ?_|refine cP Vx ?_|(refine aj ?_)|refine oE ?_|apply xX<;>intro hc
theorem Z1 (b:Bytes):aE 191 [cz b] (.s (if b=[]then([]:Bytes)else b)):=by
 have h:=Tg b;split
 ·rename_i g;subst g;exact h
 ·exact h
theorem Z3 (m:Bytes) {o:Bytes} (h:o≠[]):aE 192 [.sl [G m o], .fn (.func 193)] (E 0):=by
 have hb:(o !=([]:Bytes))=true:=by simpa using h
 have hb2:(o==([]:Bytes))=false:=by simpa using h
 have h:aE 193 [G m o] (.b true):=by
  refine eW call193 func193 ?_;exact fP (aN @hb @hb2)
 refine eW call192 func192 ?_;refine qi ?_;refine aj ?_;exact z1 @h
theorem Z4 (b o:Bytes):aE 194 [cz b, .pt (.agg [.s o]) 0] (.s (if b=[]then o else b)):=by
 unfold cz
 by_cases h:b=[]
 ·subst h;refine eW call194 func194 ?_;exact fP @nn
 ·have hb:(b==([]:Bytes))=false:=by simpa using h
  rw[af h];refine eW call194 func194 ?_;exact fP @hb
noncomputable def wN (s:cG) (w:List Int) (vs:List Bytes) (a:Int):Int:=if !eT vs a then 3 else if w.length≠s.vars.length then 6 else if !tY (bj s.groups) s.vars w then 2 else if !xr s w then 18 else 0
theorem PO {s:cG} (hs:xl s) {m o:Bytes} (hg1:s.groups=[(m,o)]) {w:List Int} (hw6:w.length<1000000) (hw: ∀x∈w,x.natAbs<da) (hW:tY (bj s.groups) s.vars w=true->WS s w) {vs:List Bytes} (sd:Bytes) {a:Int} (hl:vs.length<1000000):aE 100 [X0 c sl s, .sl (w.map Zp), .sl [],T vs sd a] (E (wN s w vs a)):=by
 have v1:=gG (w.map fQ) _ _ (by rw[aG];omega) Tf
 rw[jG,l8 hw,Qg]at v1;have v2:=ov [] 190 [.pt (.agg [.fn (.func 187)]) 0] (fun _=>true) oC (fun x hx=>by cases hx)
 rw[show(([]:List (List (Bool×Bytes))).any fun _=>true)=false from rfl]at v2
 have v3:=Tr sd (a:=a) hl;have nv:=hs.nv;have hb:=hs.v;have hh:=fun h=>KR hs (w:=w) h hw hW
 have hoV:=dc hs.g;have hnb: ∀b∈s.vars,bj s.groups=[]->b≠[]:=fun b h1 h2 h3=>ua hs (h3▸h1) h2
 obtain⟨gs,us,es⟩:=s;simp only at hg1 nv hb hh hoV hnb;subst hg1;have l2:(us.map cz).length=us.length:=aG ..;have l5:(w.map Zp).length=w.length:=aG ..;have ho:bj [(m,o)]=o:=by
  by_cases h:o=[]
  ·subst h;rfl
  ·simp[bj,h]
 rw[ho]at hh hoV hnb;unfold wN;simp only[ho,X0,cG.pv,bV,ca,dO]at hh v2⊢;clear hs hW
 cases hg:eT vs a with
 |false=>
  rw[hg]at v3;simp only[cC,cr,aB];refine eW call100 func100 ?_;repeat' first|simp only[go_sem,seval,bJ]|refine cP v1 ?_|refine cV v2 ?_|refine cP v3 ?_|refine cP yN ?_|refine oE ?_|apply xX<;>intro hc
  all_goals rfl
 |true=>
  rw[hg]at v3;simp only[cr,bM,az]
  by_cases hwl:w.length=us.length
  ·rw[af (by simpa using hwl)]
   have hh:=hh hwl;have hI: ∀ _:True,((w.length:Int) !=us.length)=false:=fun _=>by rw[hwl];simp
   by_cases ho0:o=[]
   ·have v4:=Th m;subst ho0;refine eW call100 func100 ?_;repeat' first|simp only[go_sem,seval,bJ,l2,l5,hI oT]|refine cP v1 ?_|refine cV v2 ?_|refine cP v3 ?_|refine cP yN ?_|refine cP v4 ?_|refine oE ?_|apply xX<;>intro hc
    refine ak (α:=Nat) (fun i=>us.length-i) (fun i=>⟨[(1, .v (.sl (w.map Zp))),(2, .v (.sl [])),(4, .p 1000 0 0),(13, .v (.fn (.func 191))),(76, .v (.sl (us.map cz))),(77,E' us.length),(78,E' i)],[(1000,⟨0,[.v (.s c), .v (.s sl), .v (.sl [G m []]), .v (.sl (us.map cz)), .v (.sl (es.map c9.pv)), .v (.sl []), .v (.sl []), .v (.s [])],false,none⟩)],_⟩) (fun i=>i<=us.length/\ ∀j,j<i->fM (us.getD j []) (w.getD j 0) (dV [] (us.getD j []))=true) 0 (fun _=>aD _) ⟨aO _,fun j hj=>oO⟩ ?_ ?_
    ·exact lE
    ·rintro i ⟨hi,hlts⟩ R hR;clear v1 v2 v3
     by_cases hlt:i<us.length
     ·have e1:=getD_map cz us [] hlt;have e2:=getD_map Zp w 0 (i:=i) oO;have kb:=hb _ (au [] hlt);have kw:=hw _ (au 0 (show i<w.length by omega))
      have hv0:=hnb _ (au [] hlt);have hgo:=fun h=>hR (i+1) ⟨oO,h⟩ oO
      have hbad:=fun h: ¬fM (us.getD i []) (w.getD i 0) (dV [] (us.getD i []))=true=>kS (p:=fun i=>fM (us.getD i []) (w.getD i 0) (dV [] (us.getD i []))) hlt (dn.2 h)
      have hnx:fM (us.getD i []) (w.getD i 0) (dV [] (us.getD i []))=true-> ∀j,j<i+1->fM (us.getD j []) (w.getD j 0) (dV [] (us.getD j []))=true:=fun h j hj=>by
       by_cases hji:j<i
       ·exact hlts j hji
       ·obtain rfl:j=i:=oO;exact h
      rw[<-tY]at hbad;clear hR hlts hh;generalize us.getD i []=b at*;generalize w.getD i 0=x at*;have hz:=og kw;simp only[fQ,cg,aZ]at hz;have hc:=j6 hz.1 (show aa (if b=[]then[]else b)=true by split;exact hoV.1;exact kb.1)
      have hbl:num (if b=[]then[]else b)=dV [] b:=by unfold dV;split<;>rfl
      rw[qE,hbl]at hc;have h3:=Z1 b;have hd:decide (aW x.natAbs (dV [] b)>=0)= !decide (x.natAbs<dV [] b):=Fm _ _;have hzs:zs x=decide (x<0):=rfl;simp only[cz]at e1 h3;simp only[Zp,cI,fQ]at e2;unfold fM at hbad hnx;clear hbl kb kw hz;generalize aW x.natAbs (dV [] b)=cm at*;generalize decide (x.natAbs<dV [] b)=p at*;generalize decide (x<0)=q at*;generalize (if b=[]then[]else b)=y at*
      have hbb:(b==[])=decide (b=[]):=by rw[cX,eD,bw]
      generalize decide (b=[])=b0 at*;cases p
      ·rw[hbad (by simp)]
       simp only[cC,aB];repeat' first|simp only[go_sem,seval,bJ,l2,l5,e1,e2,hbb,hd,hzs]|refine cP h3 ?_|refine cV h3 ?_|refine cP hc ?_|refine oE ?_|apply xX<;>intro hc
       all_goals rfl
      ·cases b0
       ·have hgo:=hgo (hnx (by simp))
        repeat' first|simp only[go_sem,seval,bJ,l2,l5,e1,e2,hbb,hd,hzs]|refine cP h3 ?_|refine cV h3 ?_|refine cP hc ?_|refine oE ?_|apply xX<;>intro hc
        refine hgo _ ?_;exact lE
       ·cases q
        ·have hgo:=hgo (hnx (by simp))
         repeat' first|simp only[go_sem,seval,bJ,l2,l5,e1,e2,hbb,hd,hzs]|refine cP h3 ?_|refine cV h3 ?_|refine cP hc ?_|refine oE ?_|apply xX<;>intro hc
         refine hgo _ ?_;exact lE
        ·rw[hbad (by simp)]
         simp only[cC,aB];repeat' first|simp only[go_sem,seval,bJ,l2,l5,e1,e2,hbb,hd,hzs]|refine cP h3 ?_|refine cV h3 ?_|refine cP hc ?_|refine oE ?_|apply xX<;>intro hc
         all_goals rfl
     ·obtain rfl:i=us.length:=oO;have hg:tY [] us w=true:=lu fun j hj=>hlts j hj
      rw[hg,cq]at hh;rw[hg];simp only[cr,bM,az];clear hR hlts hb;generalize xr ⟨[(m,[])],us,es⟩ w=b at*;cases b
      ·exact Tm @hh @yO
      ·exact Tm @hh @yO
   ·have v4:=Z3 m ho0;refine eW call100 func100 ?_;repeat' first|simp only[go_sem,seval,bJ,l2,l5,hI oT]|refine cP v1 ?_|refine cV v2 ?_|refine cP v3 ?_|refine cP yN ?_|refine cP v4 ?_|refine oE ?_|apply xX<;>intro hc
    refine ak (α:=Nat) (fun i=>us.length-i) (fun i=>⟨[(1, .v (.sl (w.map Zp))),(2, .v (.sl [])),(4, .p 1000 0 0),(13, .fn (.func 194) [] [.p 1057 0 0]),(76, .v (.sl (us.map cz))),(77,E' us.length),(78,E' i)],[(1000,⟨0,[.v (.s c), .v (.s sl), .v (.sl [G m o]), .v (.sl (us.map cz)), .v (.sl (es.map c9.pv)), .v (.sl []), .v (.sl []), .v (.s [])],false,none⟩),(1057,⟨0,[.v (.s o)],false,some 22⟩)],_⟩) (fun i=>i<=us.length/\ ∀j,j<i->fM (us.getD j []) (w.getD j 0) (dV o (us.getD j []))=true) 0 (fun _=>aD _) ⟨aO _,fun j hj=>oO⟩ ?_ ?_
    ·exact lE
    ·rintro i ⟨hi,hlts⟩ R hR;clear v1 v2 v3
     by_cases hlt:i<us.length
     ·have e1:=getD_map cz us [] hlt;have e2:=getD_map Zp w 0 (i:=i) oO;have kb:=hb _ (au [] hlt);have kw:=hw _ (au 0 (show i<w.length by omega))
      have hv0:=hnb _ (au [] hlt);have hgo:=fun h=>hR (i+1) ⟨oO,h⟩ oO
      have hbad:=fun h: ¬fM (us.getD i []) (w.getD i 0) (dV o (us.getD i []))=true=>kS (p:=fun i=>fM (us.getD i []) (w.getD i 0) (dV o (us.getD i []))) hlt (dn.2 h)
      have hnx:fM (us.getD i []) (w.getD i 0) (dV o (us.getD i []))=true-> ∀j,j<i+1->fM (us.getD j []) (w.getD j 0) (dV o (us.getD j []))=true:=fun h j hj=>by
       by_cases hji:j<i
       ·exact hlts j hji
       ·obtain rfl:j=i:=oO;exact h
      rw[<-tY]at hbad;clear hR hlts hh;generalize us.getD i []=b at*;generalize w.getD i 0=x at*;have hz:=og kw;simp only[fQ,cg,aZ]at hz;have hc:=j6 hz.1 (show aa (if b=[]then o else b)=true by split;exact hoV.1;exact kb.1)
      have hbl:num (if b=[]then o else b)=dV o b:=by unfold dV;split<;>rfl
      rw[qE,hbl]at hc;have h3:=Z4 b o;have hd:decide (aW x.natAbs (dV o b)>=0)= !decide (x.natAbs<dV o b):=Fm _ _;have hzs:zs x=decide (x<0):=rfl;simp only[cz]at e1 h3;simp only[Zp,cI,fQ]at e2;unfold fM at hbad hnx;clear hbl kb kw hz;generalize aW x.natAbs (dV o b)=cm at*;generalize decide (x.natAbs<dV o b)=p at*;generalize decide (x<0)=q at*;generalize (if b=[]then o else b)=y at*
      have hbb:(b==[])=decide (b=[]):=by rw[cX,eD,bw]
      generalize decide (b=[])=b0 at*;cases p
      ·rw[hbad (by simp)]
       simp only[cC,aB];repeat' first|simp only[go_sem,seval,bJ,l2,l5,e1,e2,hbb,hd,hzs]|refine cP h3 ?_|refine cV h3 ?_|refine cP hc ?_|refine oE ?_|apply xX<;>intro hc
       all_goals rfl
      ·cases b0
       ·have hgo:=hgo (hnx (by simp))
        repeat' first|simp only[go_sem,seval,bJ,l2,l5,e1,e2,hbb,hd,hzs]|refine cP h3 ?_|refine cV h3 ?_|refine cP hc ?_|refine oE ?_|apply xX<;>intro hc
        refine hgo _ ?_;exact lE
       ·cases q
        ·have hgo:=hgo (hnx (by simp))
         repeat' first|simp only[go_sem,seval,bJ,l2,l5,e1,e2,hbb,hd,hzs]|refine cP h3 ?_|refine cV h3 ?_|refine cP hc ?_|refine oE ?_|apply xX<;>intro hc
         refine hgo _ ?_;exact lE
        ·rw[hbad (by simp)]
         simp only[cC,aB];repeat' first|simp only[go_sem,seval,bJ,l2,l5,e1,e2,hbb,hd,hzs]|refine cP h3 ?_|refine cV h3 ?_|refine cP hc ?_|refine oE ?_|apply xX<;>intro hc
         all_goals rfl
     ·obtain rfl:i=us.length:=oO;have hg:tY o us w=true:=lu fun j hj=>hlts j hj
      rw[hg,cq]at hh;rw[hg];simp only[cr,bM,az];clear hR hlts hb;generalize xr ⟨[(m,o)],us,es⟩ w=b at*;cases b
      ·exact Tm @hh @yO
      ·exact Tm @hh @yO
  ·rw[ah hwl];have e6:((w.length:Int) !=us.length)=true:=by rw[pQ];omega
   refine eW call100 func100 ?_;repeat' first|simp only[go_sem,seval,bJ,l2,l5,e6]|refine cP v1 ?_|refine cV v2 ?_|refine cP v3 ?_|refine cP yN ?_|refine oE ?_|apply xX<;>intro hc
   all_goals rfl
theorem WH (hst:st.length<=1000) {s:cG} (hs:Qn s):aE 252 [.s st,s.pv] (.s (mJ st s)):=by
 obtain⟨⟨m,o,hg,lm,lo⟩,v0,nv,hv,ne,hq⟩:=hs;obtain⟨gs,vs,es⟩:=s;simp only at hg v0 nv hv ne hq;subst hg;obtain⟨w0,wr,hw⟩: ∃a b,vs=a::b:=by cases vs with
  |nil=>exact aP rfl v0
  |cons a b=>exact⟨a,b,rfl⟩
 have hvl:vs.length=wr.length+1:=by rw[hw];rfl
 have hpos: ∀ _:True,(0:Int)<(vs.length:Int):=fun _=>oO
 have g0:(vs.map cz).getD 0 .fn0= .agg [.s w0]:=by rw[hw];rfl
 simp only[mJ,fy,DZ,iM,cG.pv,bV,ca,dO];have n1:=mV st uv [m,o] oO oC (by simp) (by simp) (by intro s hs;simp at hs;rcases hs with rfl|rfl<;>omega)
 simp only[bV,ca]at n1;have n2:=mV (gL st uv [m,o]) Ax vs (by rw[fo];decide) oC v0 oO (fun x hx=>by have:=hv x hx;omega)
 have l2:=fo (gL st uv [m,o]) Ax vs;refine eW call252 func252 ?_;repeat' first|simp only[go_sem,seval]|(refine aj ?_)|refine oE ?_|apply xX<;>intro hc
 refine eJ (aN @g0 (hpos oT)) ?_;have hro:[AV.v (PV.s w0)]=aT PV.s (vs.take 1):=by rw[hw];rfl
 rw[hro];refine ak (α:=Nat) (fun j=>vs.length-j) (fun j=>⟨[(0, .v (.s st)),(3, .p 1000 0 0),(5, .rs 1024 0 0 2 1),(6, .rs 1048 j 0 (1+j) 1),(8,E' (j+1))],[(1000,⟨0,[.v (.sl [.agg [.s m, .s o]]), .v (.sl (vs.map cz)), .v (.sl (es.map c9.pv))],false,none⟩),(1024,⟨0,[.v (.s m), .v (.s o)],true,some 22⟩),(1048,⟨j,aT PV.s (vs.take (j+1)),true,some 22⟩)],1053⟩) (fun j=>j+1<=vs.length) 0 (fun _=>dr rfl) oO ?_ ?_
 ·refine lG ?_;all_goals exact fun c hc=>cv hc
 ·intro j hj R hR;have hlr:(vs.take (j+1)).length=1+j:=by rw[cd];omega
  have q0:(aT PV.s (vs.take (j+1))).length=1+j:=by rw[cf cU.s,hlr,dG]
  have q1:List.take (1+j) (aT PV.s (vs.take (j+1)))=aT PV.s (vs.take (j+1)):=cZ oO
  by_cases hjt:j+1<vs.length
  ·have e2:=getD_map cz vs ([]:Bytes) hjt;have hgo:=hR (j+1) oO oO;rw[aL ([]:Bytes) hjt,bT]at hgo;generalize vs.getD (j+1) []=y at e2 hgo;have e2:(vs.map cz).getD (j+1) .fn0= .agg [.s y]:=e2;have e3: ∀ _:True,((j:Int)+1).toNat=j+1:=fun _=>oO
   clear hR hlr n1 n2;refine eJ (aN @q0 (aN @q1 (aN @e2 (e3 oT)))) ?_;refine hgo _ ?_
   (refine AS.Le.of (by first|decide|omega) ?_ ?_<;>simp[dw,du,aS,aC,AV.bd,AV.bd.bdL,u8,an,ar,aA])
   all_goals first|omega|exact⟨rfl,fun c hc=>by rcases hc with hc|⟨a,ha,rfl⟩;exact cv hc;rfl⟩|skip
  ·have hj2:j+1=vs.length:=oO;rw[hj2,cl]at hlr q0 q1⊢;clear hR hpos g0 hro;repeat' first|simp only[go_sem,seval,q0,q1]|refine cV n1 ?_|(refine tx (l:=vs) (g:=PV.s) (ver:=j) (gr:=true) (el:=some 22) n2 cU.s rfl (by simp[aC]) hlr.symm ?_)|refine oE ?_|apply xX<;>intro hc
   generalize gL (gL st uv [m,o]) Ax vs=s0 at l2⊢;clear n1 n2;refine ak (α:=Nat) (fun i=>es.length-i) (fun i=>⟨[(0, .v (.s ((es.take i).foldl r8 s0))),(3, .p 1000 0 0),(9,E' i)],[(1000,⟨0,[.v (.sl [.agg [.s m, .s o]]), .v (.sl (vs.map cz)), .v (.sl (es.map c9.pv))],false,none⟩)],1065⟩) (fun i=>i<=es.length) 0 (fun _=>dr rfl) (aO _) ?_ ?_
   ·(refine AS.Le.of (by first|decide|omega) ?_ ?_<;>simp[dw,du,aS,aC,AV.bd,AV.bd.bdL,u8,an,ar,aA])
    all_goals rfl
   ·intro i hi R hR
    by_cases hit:i<es.length
    ·have e2:=getD_map c9.pv es fJ hit;have hgo:=hR (i+1) oO oO;rw[pj r8 s0 fJ hit]at hgo;obtain⟨g1,g2,g3,nt,ht⟩:=hq _ (au fJ hit);have hX:=sE (l:=es.take i) l2;generalize (es.take i).foldl r8 s0=X at hgo hX⊢;generalize es.getD i fJ=q at*;obtain⟨lL,tgt,ts⟩:=q;simp only at g1 g2 g3 nt ht;obtain⟨n,rfl⟩: ∃n:Nat,lL=(n:Int):=⟨lL.toNat,oO⟩;have e2:(es.map c9.pv).getD i .fn0= .agg [.i .i64 (n:Int), .s tgt, .sl (ts.map dM.pv)]:=e2;simp only[r8,Int.toNat_natCast]at hgo;have ln:=oH n;have l4:(ts.map dM.pv).length=ts.length:=aG ..;have c1:=xf n oO;have c2:=rk X Dy (iA n) oO oC oO;have c3:=mV (fH X Dy (iA n)) H4 [tgt] (by rw[jB];decide) oC (by simp) (by simp) (by simp;omega)
     have lS:=fo (fH X Dy (iA n)) H4 [tgt];generalize gL (fH X Dy (iA n)) H4 [tgt]=S0 at*;simp only[bV,ca]at c3;clear hR hq;refine tj (aN @e2 @l4) @c1 @c2 @c3 oT ?_;refine ak (α:=Nat) (fun k=>ts.length-k) (fun k=>⟨[(0, .v (.s ((ts.take k).foldl r9 S0))),(3, .p 1000 0 0),(9,E' i),(10, .p 1075 0 0),(11,E' k)],[(1000,⟨0,[.v (.sl [.agg [.s m, .s o]]), .v (.sl (vs.map cz)), .v (.sl (es.map c9.pv))],false,none⟩),(1075,⟨0,[.v (.i .i64 (n:Int)), .v (.s tgt), .v (.sl (ts.map dM.pv))],false,some 184⟩)],_⟩) (fun k=>k<=ts.length) 0 (fun _=>aD _) (aO _) ?_ ?_
     ·(refine AS.Le.of (by first|decide|omega) ?_ ?_<;>simp[dw,du,aS,aC,AV.bd,AV.bd.bdL,u8,an,ar,aA])
      all_goals rfl
     ·clear c1 c2 c3 e2;intro k hk R' hR'
      by_cases hkt:k<ts.length
      ·have e3:=getD_map dM.pv ts dE hkt;have hgo':=hR' (k+1) oO oO;rw[pj r9 S0 dE hkt]at hgo';obtain⟨v1,v2,lb,la⟩:=ht _ (au dE hkt);have hY:=sF (l:=ts.take k) lS;generalize (ts.take k).foldl r9 S0=Y at hgo' hY⊢;generalize ts.getD k dE=t at*;obtain⟨base,vr,ng,ab⟩:=t;simp only at v1 v2 lb la;obtain⟨v,rfl⟩: ∃v:Nat,vr=(v:Int):=⟨vr.toNat,oO⟩;have e3:(ts.map dM.pv).getD k .fn0= .agg [.s base, .i .i64 (v:Int), .b ng, .s ab]:=e3;simp only[r9,Int.toNat_natCast]at hgo';have lv:=oH v;have c4:=xf v oO;have c5:=rk Y H5 (iA v) oO oC oO;have c6:=mV (fH Y H5 (iA v)) Gj [base] (by rw[jB];decide) oC (by simp) (by simp) (by simp;omega)
       have c7:=HM (gL (fH Y H5 (iA v)) Gj [base]) Pp ng ab (by rw[fo];decide) oC oO
       simp only[bV,ca]at c6;clear hR' hgo;refine Ey (aN @e3 @l4) @c4 @c5 @c6 @c7 ?_;refine hgo' _ ?_
       (refine AS.Le.of (by first|decide|omega) ?_ ?_<;>simp[dw,du,aS,aC,AV.bd,AV.bd.bdL,u8,an,ar,aA])
       all_goals first|omega|skip
      ·have h:k=ts.length:=oO;rw[h,cl];refine eJ @l4 ?_;refine hgo _ ?_
       (refine AS.Le.of (by first|decide|omega) ?_ ?_<;>simp[dw,du,aS,aC,AV.bd,AV.bd.bdL,u8,an,ar,aA])
       all_goals first|omega|skip
    ·have h:i=es.length:=oO;rw[h,cl];exact z0
theorem oR {s:cG} (hp:u7 c sl s):aE 118 [.agg [.s c, .s sl],s.pv,C0] (E 0):=by
 have hb:=pB hp;obtain⟨gs,vs,es⟩:=s;simp only[cG.pv]at hb⊢;refine eW call118 func118 ?_;repeat' first|simp only[go_sem,seval]|refine cP hb ?_|refine cP F3 ?_|refine oE ?_|apply xX<;>intro hc
 all_goals skip
theorem sj {s:cG} (hp:u7 c sl s) (hb:Qn s) (hx:ctx.length<=100000) {fs:List Bytes} (f0:fs≠[]) (fe:fs.length=s.eqs.length) (fl: ∀x∈fs,x.length<=8) (fv:fs.all aa=true):
  aE 126 [.agg [.s c, .s sl], .s ctx,s.pv,C0, .sl (fs.map .s), .sl []] (.tup [N (gK (xp ctx s fs) c),E 0]):=by
 have fn:fs.length<=900:=by rw[fe];have:=hb.ne;omega
 have fl: ∀x∈fs,x.length<=100000:=fun x hx=>by have:=fl x hx;omega
 have hr:=hp.r;have c0:c≠[]:=by
  intro h;have:=hr.c2;rw[h]at this;exact aP this oC
 have hst:=oR hp;have hv:=pC fs oO;rw[fv]at hv;have n1:=SK sW oC;have n2:=rk (lZ sW) wC ctx (by rw[Cs];decide) oC hx
 have n3:=WH (st:=fH (lZ sW) wC ctx) (by rw[jB];decide) hb
 have n4:=rk (mJ (fH (lZ sW) wC ctx) s) H3 [] (by rw[yT];decide) oC oC
 have n5:=mV (fH (mJ (fH (lZ sW) wC ctx) s) H3 []) Pq fs (by rw[jB];decide) oC f0 fn fl
 have n6:=xw (xp ctx s fs) c (by rw[xp,fo];decide) hr.vc c0 hr.lc
 have n5:aE 254 [.s (fH (mJ (fH (lZ sW) wC ctx) s) H3 []), .s Pq, .sl (fs.map .s)] (.s (xp ctx s fs)):=n5;generalize xp ctx s fs=st5 at*;generalize mJ (fH (lZ sW) wC ctx) s=st3 at*;obtain⟨gq,vs,es⟩:=s;have l1:(fs.map PV.s).length=es.length:=by rw[aG];exact fe
 have l2:(es.map c9.pv).length=es.length:=aG ..;simp only[cG.pv]at n3 hst⊢;refine eW call126 func126 ?_;repeat' first|simp only[go_sem,seval,l1,l2]|refine cP hst ?_|refine cP hv ?_|refine cP n1 ?_|refine cP n2 ?_|refine cP n3 ?_|refine cP n4 ?_|refine cP n5 ?_|refine cP n6 ?_|refine cP SS ?_|(refine aj ?_)|refine oE ?_|apply xX<;>intro hc
