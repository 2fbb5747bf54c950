/-
  Part of the proof, part FA43. Own work.
-/
import Derived.Test.YtfdjchnefpefbaaGreatDoorFA38
set_option linter.all false
namespace Go.Proofs.YtfdjchnefpefbaaGreatDoor
open Go Go.Dom Go.Num
set_option maxRecDepth 100000
set_option maxHeartbeats 16000000
structure Vn (s:dJ):Prop where
 g: ∃m o,s.groups=[(m,o)]/\m.length<=1000/\o.length<=1000
 v0:s.vars≠[]
 nv:s.vars.length<=64
 v: ∀b∈s.vars,b.length<=1000
 ne:s.eqs.length<=64
 q: ∀q∈s.eqs,0<=q.me/\q.me<100/\q.tgt.length<=1000/\q.terms.length<=64/\ ∀t∈q.terms,0<=t.var/\t.var<100/\t.base.length<=1000/\t.abs.length<=1000
theorem wP {l:List fV} {st:Bytes} (hs:st.length=32):(l.foldl zD st).length=32:=by
 induction l generalizing st with
 |nil=>exact hs
 |cons t l ih=>exact ih (FY _ _ _)
theorem wO {l:List eH} {st:Bytes} (hs:st.length=32):(l.foldl zC st).length=32:=by
 induction l generalizing st with
 |nil=>exact hs
 |cons q l ih=>exact ih (wP (iL _ _ _))
theorem Vo {st:Bytes} (hst:st.length<=1000) {s:dJ} (hs:Vn s):aA Tryz.prog 183 [.s st,s.pv] (.s (qV st s)):=by
 obtain⟨⟨m,o,hg,lm,lo⟩,v0,nv,hv,ne,hq⟩:=hs;obtain⟨gs,vs,es⟩:=s;simp only at hg v0 nv hv ne hq;subst hg;obtain⟨w0,wr,hw⟩: ∃a b,vs=a::b:=by cases vs with
  |nil=>exact absurd rfl v0
  |cons a b=>exact⟨a,b,rfl⟩
 have hvl:vs.length=wr.length+1:=by rw[hw];rfl
 have hpos: ∀ _:True,(0:Int)<(vs.length:Int):=fun _=>by omega
 have g0:(vs.map dO).getD 0 .fn0= .agg [.s w0]:=by rw[hw];rfl
 simp only[qV,dQ,CA,jQ,dJ.pv,aS,bH,gO];have n1:=oY st D4 [m,o] oO oC (by simp) (by simp) (by intro s hs;simp at hs;rcases hs with rfl|rfl<;>omega)
 simp only[aS,bH]at n1;have n2:=oY (jH st D4 [m,o]) Hz vs (by rw[iL];decide) oC v0 oO (fun x hx=>by have:=hv x hx;omega)
 have l2:=iL (jH st D4 [m,o]) Hz vs;refine eW Tryz.call183 Tryz.func183 ?_;repeat' first|simp only[go_sem,seval]|(refine ah ?_)|refine sB ?_|apply xX<;>intro hc|refine⟨oD,?_⟩|exact oD|fail
 refine fx (aN @g0 (hpos trivial)) ?_;have hro:[AV.v (PV.s w0)]=bO PV.s (vs.take 1):=by rw[hw];rfl
 rw[hro];refine af (α:=Nat) (fun j=>vs.length-j) (fun j=>⟨[(0, .v (.s st)),(3, .p 1000 0 0),(5, .rs 1019 0 0 2 1),(6, .rs 1037 j 0 (1+j) 1),(31, .v (.sl (vs.map dO))),(32,E' vs.length),(33,E' (j+1))],[(1000,⟨0,[.v (.sl [.agg [.s m, .s o]]), .v (.sl (vs.map dO)), .v (.sl (es.map eH.pv))],false,none⟩),(1019,⟨0,[.v (.s m), .v (.s o)],true,some 22⟩),(1037,⟨j,bO PV.s (vs.take (j+1)),true,some 22⟩)],1041⟩) (fun j=>j+1<=vs.length) 0 (fun _=>cC rfl) oO ?_ ?_
 ·refine lG ?_;all_goals exact fun c hc=>eu hc
 ·intro j hj R hR;have hlr:(vs.take (j+1)).length=1+j:=by rw[bU];omega
  have q0:(bO PV.s (vs.take (j+1))).length=1+j:=by rw[de dV.s,hlr,dG]
  have q1:List.take (1+j) (bO PV.s (vs.take (j+1)))=bO PV.s (vs.take (j+1)):=cd oO
  by_cases hjt:j+1<vs.length
  ·have e2:=getD_map dO vs ([]:Bytes) hjt;have hgo:=hR (j+1) oO oO;rw[bu ([]:Bytes) hjt,dh]at hgo;generalize vs.getD (j+1) []=y at e2 hgo;have e2:(vs.map dO).getD (j+1) .fn0= .agg [.s y]:=e2;have e3: ∀ _:True,((j:Int)+1).toNat=j+1:=fun _=>by omega
   clear hR hlr n1 n2;refine fx (aN @q0 (aN @q1 (aN @e2 (e3 trivial)))) ?_;refine hgo _ ?_
   (refine AS.Le.of (by first|decide|omega) ?_ ?_<;>simp[dM,dL,aK,aj,AV.bd,AV.bd.bdL,u8,ai,ak,ar])
   all_goals first|omega|exact⟨rfl,fun c hc=>by rcases hc with hc|⟨a,ha,rfl⟩;exact eu hc;rfl⟩|skip
  ·have hj2:j+1=vs.length:=by omega
   rw[hj2,cK]at hlr q0 q1⊢;clear hR hpos g0 hro;repeat' first|simp only[go_sem,seval,q0,q1]|refine cV n1 ?_|(refine JO (l:=vs) (g:=PV.s) (ver:=j) (gr:=true) (el:=some 22) n2 dV.s rfl (by simp[aj]) hlr.symm ?_)|refine sB ?_|apply xX<;>intro hc|refine⟨oD,?_⟩|exact oD|fail
   generalize jH (jH st D4 [m,o]) Hz vs=s0 at l2⊢;clear n1 n2;refine af (α:=Nat) (fun i=>es.length-i) (fun i=>⟨[(0, .v (.s ((es.take i).foldl zC s0))),(50, .v (.sl (es.map eH.pv))),(51,E' es.length),(52,E' i)],[],_⟩) (fun i=>i<=es.length) 0 (fun _=>an _) (aH _) ?_ ?_
   ·(refine AS.Le.of (by first|decide|omega) ?_ ?_<;>simp[dM,dL,aK,aj,AV.bd,AV.bd.bdL,u8,ai,ak,ar])
    all_goals rfl
   ·intro i hi R hR
    by_cases hit:i<es.length
    ·have e2:=getD_map eH.pv es kF hit;have hgo:=hR (i+1) oO oO;rw[xo zC s0 kF hit]at hgo;obtain⟨g1,g2,g3,nt,ht⟩:=hq _ (az kF hit);have hX:=wO (l:=es.take i) l2;generalize (es.take i).foldl zC s0=X at hgo hX⊢;generalize es.getD i kF=q at*;obtain⟨me,tgt,ts⟩:=q;simp only at g1 g2 g3 nt ht;obtain⟨n,rfl⟩: ∃n:Nat,me=(n:Int):=⟨me.toNat,by omega⟩
     have e2:(es.map eH.pv).getD i .fn0= .agg [.i .i64 (n:Int), .s tgt, .sl (ts.map fV.pv)]:=e2;simp only[zC,Int.toNat_natCast]at hgo;have ln:=C4 n;have l4:(ts.map fV.pv).length=ts.length:=aE ..;have c1:=Ax n oO;have c2:=vI X MZ (mH n) oO oC oO;have c3:=oY (jv X MZ (mH n)) QB [tgt] (by rw[px];decide) oC (by simp) (by simp) (by simp;omega)
     have lS:=iL (jv X MZ (mH n)) QB [tgt];generalize jH (jv X MZ (mH n)) QB [tgt]=S0 at*;simp only[aS,bH]at c3;clear hR hq;refine QW (aN @e2 @l4) @c1 @c2 @c3 ?_;refine af (α:=Nat) (fun k=>ts.length-k) (fun k=>⟨[(0, .v (.s ((ts.take k).foldl zD S0))),(50, .v (.sl (es.map eH.pv))),(51,E' es.length),(52,E' i),(67, .v (.sl (ts.map fV.pv))),(68,E' ts.length),(69,E' k)],[],_⟩) (fun k=>k<=ts.length) 0 (fun _=>an _) (aH _) ?_ ?_
     ·(refine AS.Le.of (by first|decide|omega) ?_ ?_<;>simp[dM,dL,aK,aj,AV.bd,AV.bd.bdL,u8,ai,ak,ar])
      all_goals rfl
     ·clear c1 c2 c3 e2;intro k hk R' hR'
      by_cases hkt:k<ts.length
      ·have e3:=getD_map fV.pv ts kB hkt;have hgo':=hR' (k+1) oO oO;rw[xo zD S0 kB hkt]at hgo';obtain⟨v1,v2,lb,la⟩:=ht _ (az kB hkt);have hY:=wP (l:=ts.take k) lS;generalize (ts.take k).foldl zD S0=Y at hgo' hY⊢;generalize ts.getD k kB=t at*;obtain⟨base,vr,ng,ab⟩:=t;simp only at v1 v2 lb la;obtain⟨v,rfl⟩: ∃v:Nat,vr=(v:Int):=⟨vr.toNat,by omega⟩
       have e3:(ts.map fV.pv).getD k .fn0= .agg [.s base, .i .i64 (v:Int), .b ng, .s ab]:=e3;simp only[zD,Int.toNat_natCast]at hgo';have lv:=C4 v;have c4:=Ax v oO;have c5:=vI Y QC (mH v) oO oC oO;have c6:=oY (jv Y QC (mH v)) MY [base] (by rw[px];decide) oC (by simp) (by simp) (by simp;omega)
       have c7:=Ns (jH (jv Y QC (mH v)) MY [base]) RE ng ab (by rw[iL];decide) oC oO
       simp only[aS,bH]at c6;clear hR' hgo;refine Zi (aN @e3 @l4) @c4 @c5 @c6 @c7 ?_;refine hgo' _ ?_
       (refine AS.Le.of (by first|decide|omega) ?_ ?_<;>simp[dM,dL,aK,aj,AV.bd,AV.bd.bdL,u8,ai,ak,ar])
       all_goals first|omega|skip
      ·have h:k=ts.length:=by omega
       rw[h,cK];refine fx @l4 ?_;refine hgo _ ?_
       (refine AS.Le.of (by first|decide|omega) ?_ ?_<;>simp[dM,dL,aK,aj,AV.bd,AV.bd.bdL,u8,ai,ak,ar])
       all_goals first|omega|skip
    ·have h:i=es.length:=by omega
     rw[h,cK];exact z0
theorem uE {c sl:Bytes} {s:dJ} (hp:Gg c sl s):aA Tryz.prog 97 [.agg [.s c, .s sl],s.pv,C0] (.tup [X0 c sl s,E 0]):=by
 have hb:=DZ hp;obtain⟨gs,vs,es⟩:=s;simp only[dJ.pv,X0]at hb⊢;refine eW Tryz.call97 Tryz.func97 ?_;exact z2 @hb @Gj
theorem EN {st:Bytes} {s:dJ}:(qV st s).length=32:=by
 unfold qV;exact wO (iL _ _ _)
theorem wW {c sl:Bytes} (hr:qU c sl) {s:dJ} (hb:Vn s) {ctx:Bytes} (hx:ctx.length<=100000) {fs:List Bytes} (f0:fs≠[]) (fn:fs.length<=900) (fl: ∀x∈fs,x.length<=100000):
  aA Tryz.prog 101 [X0 c sl s, .s ctx, .sl (fs.map .s), .sl []] (.tup [N (kC (GN ctx s fs) c),E 0]):=by
 have c0:c≠[]:=by
  intro h;have:=hr.c2;rw[h]at this;exact absurd this oC
 have n1:=QI D0 oC;have n2:=vI (r5 D0) FL ctx (by rw[JA];decide) oC hx
 have n3:=Vo (st:=jv (r5 D0) FL ctx) (by rw[px];decide) hb
 have n4:=vI (qV (jv (r5 D0) FL ctx) s) Qz [] (by rw[EN];decide) oC oC
 have n5:=oY (jv (qV (jv (r5 D0) FL ctx) s) Qz []) UK fs (by rw[px];decide) oC f0 fn fl
 have n6:=zk (GN ctx s fs) c (by rw[GN,iL];decide) hr.vc c0 hr.lc
 have n5:aA Tryz.prog 185 [.s (jv (qV (jv (r5 D0) FL ctx) s) Qz []), .s UK, .sl (fs.map .s)] (.s (GN ctx s fs)):=n5;generalize GN ctx s fs=st5 at*;generalize qV (jv (r5 D0) FL ctx) s=st3 at*;obtain⟨gq,vs,es⟩:=s;simp only[X0,dJ.pv]at n3⊢;refine eW Tryz.call101 Tryz.func101 ?_;repeat' first|simp only[go_sem,seval]|refine cP n1 ?_|refine cP n2 ?_|refine cP n3 ?_|refine cP n4 ?_|refine cP n5 ?_|refine cP n6 ?_|refine cP Ti ?_|(refine ah ?_)|refine sB ?_|apply xX<;>intro hc|refine⟨oD,?_⟩|exact oD|fail
theorem Xg (b:Bytes):aA Tryz.prog 168 [dO b] (.s (if b=[]then([]:Bytes)else b)):=by
 have h:=QT b;split
 ·rename_i g;subst g;exact h
 ·exact h
theorem Xh (m:Bytes) {o:Bytes} (h:o≠[]):aA Tryz.prog 169 [.sl [G m o], .fn (.func 170)] (E 0):=by
 have hb:(o !=([]:Bytes))=true:=by simpa using h
 have hb2:(o==([]:Bytes))=false:=by simpa using h
 have h:aA Tryz.prog 170 [G m o] (.b true):=by
  refine eW Tryz.call170 Tryz.func170 ?_;exact lQ (aN @hb @hb2)
 refine eW Tryz.call169 Tryz.func169 ?_;refine uZ ?_;refine ah ?_;exact z1 @h
theorem Xi (b o:Bytes):aA Tryz.prog 171 [dO b, .pt (.agg [.s o]) 0] (.s (if b=[]then o else b)):=by
 unfold dO
 by_cases h:b=[]
 ·subst h;refine eW Tryz.call171 Tryz.func171 ?_;repeat' first|simp only[go_sem,seval,nn]|refine sB ?_|apply xX<;>intro hc|refine⟨oD,?_⟩|exact oD|fail
  all_goals rfl
 ·have hb:(b==([]:Bytes))=false:=by simpa using h
  rw[if_neg h];refine eW Tryz.call171 Tryz.func171 ?_;exact lQ @hb
noncomputable def zo (s:dJ) (w:List Int) (vs:List Bytes) (a:Int):Int:=if !eD vs a then 3 else if w.length≠s.vars.length then 6 else if !Be (bT s.groups) s.vars w then 2 else if !IB s w then 18 else 0
theorem NC {c sl:Bytes} {s:dJ} (hs:CI s) {m o:Bytes} (hg1:s.groups=[(m,o)]) {w:List Int} (hw6:w.length<1000000) (hw: ∀x∈w,x.natAbs<dw) (hW:Be (bT s.groups) s.vars w=true->WS s w) {vs:List Bytes} (sd:Bytes) {a:Int} (hl:vs.length<1000000):aA Tryz.prog 98 [X0 c sl s, .sl (w.map Zp), .sl [],T vs sd a] (E (zo s w vs a)):=by
 have v1:=fz (w.map lO) _ _ (by rw[aE];omega) QS
 rw[lV,vw hw,Xw]at v1;have v2:=mR [] 167 [.pt (.agg [.fn (.func 163)]) 0] (fun _=>true) oC (fun x hx=>by cases hx)
 rw[show(([]:List (List (Bool×Bytes))).any fun _=>true)=false from rfl]at v2
 have v3:=Gf sd (a:=a) hl;have nv:=hs.nv;have hb:=hs.v;have hh:=fun h=>IJ hs (w:=w) h hw hW
 have hoV:=fq hs.g;have hnb: ∀b∈s.vars,bT s.groups=[]->b≠[]:=fun b h1 h2 h3=>Bi hs (h3▸h1) h2
 obtain⟨gs,us,es⟩:=s;simp only at hg1 nv hb hh hoV hnb;subst hg1;have l2:(us.map dO).length=us.length:=aE ..;have l5:(w.map Zp).length=w.length:=aE ..;have ho:bT [(m,o)]=o:=by
  by_cases h:o=[]
  ·subst h;rfl
  ·simp[bT,h]
 rw[ho]at hh hoV hnb;unfold zo;simp only[ho,X0,dJ.pv,aS,bH,gO]at hh v2⊢;clear hs hW
 cases hg:eD vs a with
 |false=>
  rw[hg]at v3;simp only[bZ,bR,if_true];refine eW Tryz.call98 Tryz.func98 ?_;repeat' first|simp only[go_sem,seval,aL]|refine cP v1 ?_|refine cV v2 ?_|refine cP v3 ?_|refine cP qT ?_|refine sB ?_|apply xX<;>intro hc|refine⟨oD,?_⟩|exact oD|fail
  all_goals rfl
 |true=>
  rw[hg]at v3;simp only[bR,aX,if_false]
  by_cases hwl:w.length=us.length
  ·rw[if_neg (by simpa using hwl)]
   have hh:=hh hwl;have hI: ∀ _:True,((w.length:Int) !=us.length)=false:=fun _=>by rw[hwl];simp
   by_cases ho0:o=[]
   ·have v4:=QU m;subst ho0;refine eW Tryz.call98 Tryz.func98 ?_;repeat' first|simp only[go_sem,seval,aL,l2,l5,hI trivial]|refine cP v1 ?_|refine cV v2 ?_|refine cP v3 ?_|refine cP qT ?_|refine cP v4 ?_|refine sB ?_|apply xX<;>intro hc|refine⟨oD,?_⟩|exact oD|fail
    refine af (α:=Nat) (fun i=>us.length-i) (fun i=>⟨[(1, .v (.sl (w.map Zp))),(2, .v (.sl [])),(4, .p 1000 0 0),(13, .v (.fn (.func 168))),(76, .v (.sl (us.map dO))),(77,E' us.length),(78,E' i)],[(1000,⟨0,[.v (.s c), .v (.s sl), .v (.sl [G m []]), .v (.sl (us.map dO)), .v (.sl (es.map eH.pv)), .v (.sl []), .v (.sl []), .v (.s [])],false,none⟩)],_⟩) (fun i=>i<=us.length/\ ∀j,j<i->js (us.getD j []) (w.getD j 0) (fb [] (us.getD j []))=true) 0 (fun _=>an _) ⟨aH _,fun j hj=>by omega⟩ ?_ ?_
    ·exact lE
    ·rintro i ⟨hi,hlts⟩ R hR;clear v1 v2 v3
     by_cases hlt:i<us.length
     ·have e1:=getD_map dO us [] hlt;have e2:=getD_map Zp w 0 (i:=i) oO;have kb:=hb _ (az [] hlt);have kw:=hw _ (az 0 (show i<w.length by omega))
      have hv0:=hnb _ (az [] hlt);have hgo:=fun h=>hR (i+1) ⟨by omega,h⟩ oO
      have hbad:=fun h: ¬js (us.getD i []) (w.getD i 0) (fb [] (us.getD i []))=true=>pd (p:=fun i=>js (us.getD i []) (w.getD i 0) (fb [] (us.getD i []))) hlt (eZ.2 h)
      have hnx:js (us.getD i []) (w.getD i 0) (fb [] (us.getD i []))=true-> ∀j,j<i+1->js (us.getD j []) (w.getD j 0) (fb [] (us.getD j []))=true:=fun h j hj=>by
       by_cases hji:j<i
       ·exact hlts j hji
       ·obtain rfl:j=i:=by omega
        exact h
      rw[<-Be]at hbad;clear hR hlts hh;generalize us.getD i []=b at*;generalize w.getD i 0=x at*;have hz:=tF kw;simp only[lO,c9,aY]at hz;have hc:=ri hz.1 (show aa (if b=[]then[]else b)=true by split;exact hoV.1;exact kb.1)
      have hbl:num (if b=[]then[]else b)=fb [] b:=by unfold fb;split<;>rfl
      rw[Bq,hbl]at hc;have h3:=Xg b;have hd:decide (aU x.natAbs (fb [] b)>=0)= !decide (x.natAbs<fb [] b):=Po _ _;have hzs:zs x=decide (x<0):=rfl;simp only[dO]at e1 h3;simp only[Zp,eC,lO]at e2;unfold js at hbad hnx;clear hbl kb kw hz;generalize aU x.natAbs (fb [] b)=cm at*;generalize decide (x.natAbs<fb [] b)=p at*;generalize decide (x<0)=q at*;generalize (if b=[]then[]else b)=y at*
      have hbb:(b==[])=decide (b=[]):=by rw[dE,beq_iff_eq,decide_eq_true_eq]
      generalize decide (b=[])=b0 at*;cases p
      ·rw[hbad (by simp)]
       simp only[bZ,if_true];repeat' first|simp only[go_sem,seval,aL,l2,l5,e1,e2,hbb,hd,hzs]|refine cP h3 ?_|refine cV h3 ?_|refine cP hc ?_|refine sB ?_|apply xX<;>intro hc|refine⟨oD,?_⟩|exact oD|fail
       all_goals rfl
      ·cases b0
       ·have hgo:=hgo (hnx (by simp))
        repeat' first|simp only[go_sem,seval,aL,l2,l5,e1,e2,hbb,hd,hzs]|refine cP h3 ?_|refine cV h3 ?_|refine cP hc ?_|refine sB ?_|apply xX<;>intro hc|refine⟨oD,?_⟩|exact oD|fail
        refine hgo _ ?_;exact lE
       ·cases q
        ·have hgo:=hgo (hnx (by simp))
         repeat' first|simp only[go_sem,seval,aL,l2,l5,e1,e2,hbb,hd,hzs]|refine cP h3 ?_|refine cV h3 ?_|refine cP hc ?_|refine sB ?_|apply xX<;>intro hc|refine⟨oD,?_⟩|exact oD|fail
         refine hgo _ ?_;exact lE
        ·rw[hbad (by simp)]
         simp only[bZ,if_true];repeat' first|simp only[go_sem,seval,aL,l2,l5,e1,e2,hbb,hd,hzs]|refine cP h3 ?_|refine cV h3 ?_|refine cP hc ?_|refine sB ?_|apply xX<;>intro hc|refine⟨oD,?_⟩|exact oD|fail
         all_goals rfl
     ·obtain rfl:i=us.length:=by omega
      have hg:Be [] us w=true:=oz fun j hj=>hlts j hj
      rw[hg,cf]at hh;rw[hg];simp only[bR,aX,if_false];clear hR hlts hb;generalize IB ⟨[(m,[])],us,es⟩ w=b at*;cases b
      ·exact U3 @hh @wJ
      ·exact U3 @hh @wJ
   ·have v4:=Xh m ho0;refine eW Tryz.call98 Tryz.func98 ?_;repeat' first|simp only[go_sem,seval,aL,l2,l5,hI trivial]|refine cP v1 ?_|refine cV v2 ?_|refine cP v3 ?_|refine cP qT ?_|refine cP v4 ?_|refine sB ?_|apply xX<;>intro hc|refine⟨oD,?_⟩|exact oD|fail
    refine af (α:=Nat) (fun i=>us.length-i) (fun i=>⟨[(1, .v (.sl (w.map Zp))),(2, .v (.sl [])),(4, .p 1000 0 0),(13, .fn (.func 171) [] [.p 1057 0 0]),(76, .v (.sl (us.map dO))),(77,E' us.length),(78,E' i)],[(1000,⟨0,[.v (.s c), .v (.s sl), .v (.sl [G m o]), .v (.sl (us.map dO)), .v (.sl (es.map eH.pv)), .v (.sl []), .v (.sl []), .v (.s [])],false,none⟩),(1057,⟨0,[.v (.s o)],false,some 22⟩)],_⟩) (fun i=>i<=us.length/\ ∀j,j<i->js (us.getD j []) (w.getD j 0) (fb o (us.getD j []))=true) 0 (fun _=>an _) ⟨aH _,fun j hj=>by omega⟩ ?_ ?_
    ·exact lE
    ·rintro i ⟨hi,hlts⟩ R hR;clear v1 v2 v3
     by_cases hlt:i<us.length
     ·have e1:=getD_map dO us [] hlt;have e2:=getD_map Zp w 0 (i:=i) oO;have kb:=hb _ (az [] hlt);have kw:=hw _ (az 0 (show i<w.length by omega))
      have hv0:=hnb _ (az [] hlt);have hgo:=fun h=>hR (i+1) ⟨by omega,h⟩ oO
      have hbad:=fun h: ¬js (us.getD i []) (w.getD i 0) (fb o (us.getD i []))=true=>pd (p:=fun i=>js (us.getD i []) (w.getD i 0) (fb o (us.getD i []))) hlt (eZ.2 h)
      have hnx:js (us.getD i []) (w.getD i 0) (fb o (us.getD i []))=true-> ∀j,j<i+1->js (us.getD j []) (w.getD j 0) (fb o (us.getD j []))=true:=fun h j hj=>by
       by_cases hji:j<i
       ·exact hlts j hji
       ·obtain rfl:j=i:=by omega
        exact h
      rw[<-Be]at hbad;clear hR hlts hh;generalize us.getD i []=b at*;generalize w.getD i 0=x at*;have hz:=tF kw;simp only[lO,c9,aY]at hz;have hc:=ri hz.1 (show aa (if b=[]then o else b)=true by split;exact hoV.1;exact kb.1)
      have hbl:num (if b=[]then o else b)=fb o b:=by unfold fb;split<;>rfl
      rw[Bq,hbl]at hc;have h3:=Xi b o;have hd:decide (aU x.natAbs (fb o b)>=0)= !decide (x.natAbs<fb o b):=Po _ _;have hzs:zs x=decide (x<0):=rfl;simp only[dO]at e1 h3;simp only[Zp,eC,lO]at e2;unfold js at hbad hnx;clear hbl kb kw hz;generalize aU x.natAbs (fb o b)=cm at*;generalize decide (x.natAbs<fb o b)=p at*;generalize decide (x<0)=q at*;generalize (if b=[]then o else b)=y at*
      have hbb:(b==[])=decide (b=[]):=by rw[dE,beq_iff_eq,decide_eq_true_eq]
      generalize decide (b=[])=b0 at*;cases p
      ·rw[hbad (by simp)]
       simp only[bZ,if_true];repeat' first|simp only[go_sem,seval,aL,l2,l5,e1,e2,hbb,hd,hzs]|refine cP h3 ?_|refine cV h3 ?_|refine cP hc ?_|refine sB ?_|apply xX<;>intro hc|refine⟨oD,?_⟩|exact oD|fail
       all_goals rfl
      ·cases b0
       ·have hgo:=hgo (hnx (by simp))
        repeat' first|simp only[go_sem,seval,aL,l2,l5,e1,e2,hbb,hd,hzs]|refine cP h3 ?_|refine cV h3 ?_|refine cP hc ?_|refine sB ?_|apply xX<;>intro hc|refine⟨oD,?_⟩|exact oD|fail
        refine hgo _ ?_;exact lE
       ·cases q
        ·have hgo:=hgo (hnx (by simp))
         repeat' first|simp only[go_sem,seval,aL,l2,l5,e1,e2,hbb,hd,hzs]|refine cP h3 ?_|refine cV h3 ?_|refine cP hc ?_|refine sB ?_|apply xX<;>intro hc|refine⟨oD,?_⟩|exact oD|fail
         refine hgo _ ?_;exact lE
        ·rw[hbad (by simp)]
         simp only[bZ,if_true];repeat' first|simp only[go_sem,seval,aL,l2,l5,e1,e2,hbb,hd,hzs]|refine cP h3 ?_|refine cV h3 ?_|refine cP hc ?_|refine sB ?_|apply xX<;>intro hc|refine⟨oD,?_⟩|exact oD|fail
         all_goals rfl
     ·obtain rfl:i=us.length:=by omega
      have hg:Be o us w=true:=oz fun j hj=>hlts j hj
      rw[hg,cf]at hh;rw[hg];simp only[bR,aX,if_false];clear hR hlts hb;generalize IB ⟨[(m,o)],us,es⟩ w=b at*;cases b
      ·exact U3 @hh @wJ
      ·exact U3 @hh @wJ
  ·rw[if_pos hwl];have e6:((w.length:Int) !=us.length)=true:=by rw[bne_iff_ne];omega
   refine eW Tryz.call98 Tryz.func98 ?_;repeat' first|simp only[go_sem,seval,aL,l2,l5,e6]|refine cP v1 ?_|refine cV v2 ?_|refine cP v3 ?_|refine cP qT ?_|refine sB ?_|apply xX<;>intro hc|refine⟨oD,?_⟩|exact oD|fail
   all_goals rfl
noncomputable def BP (c sl ctx:Bytes) (s:dJ) (w:List Int) (vs:List Bytes) (sd:Bytes):Nat->Nat->Except Int (Bytes×List Int×Nat)
 |0,_=> .error 15
 |k+1,i=>match mK (bT s.groups) c sl vs sd s.vars i []with
  | .error e=> .error e
  | .ok ms=>
   if E5 (bT s.groups) c sl s.vars (fM (bT s.groups) s.vars ms w (kC (GN ctx s (xy s ms)) c))then .ok (aO (kC (GN ctx s (xy s ms)) c),fM (bT s.groups) s.vars ms w (kC (GN ctx s (xy s ms)) c),i+s.vars.length)else BP c sl ctx s w vs sd k (i+s.vars.length)
noncomputable def Bw (c sl ctx:Bytes) (s:dJ) (w:List Int) (vs:List Bytes) (sd:Bytes) (a:Int):Except Int (Bytes×List Int×Nat):=
 if zo s w vs a≠0 then .error (zo s w vs a)else BP c sl ctx s w vs sd 64 a.toNat
theorem QV {s:dJ} {w:List Int} {vs:List Bytes} {a:Int} (h:zo s w vs a=0):eD vs a=true/\w.length=s.vars.length/\Be (bT s.groups) s.vars w=true/\IB s w=true:=by
 unfold zo at h
 split at h
 ·cases h
 ·rename_i h1
  split at h
  ·cases h
  ·rename_i h2
   split at h
   ·cases h
   ·rename_i h3
    split at h
    ·cases h
    ·rename_i h4;exact⟨by simpa using h1,by simpa using h2,by simpa using h3,by simpa using h4⟩
theorem Tl {s:dJ} (hs:CI s) (w:List Int): ∀x∈xy s w,x.length<=8/\aa x=true:=by
 intro x hx;obtain⟨q,hq,rfl⟩:=bw.1 hx;obtain⟨q1,q2,-⟩:=hs.q q hq;have hg:=hs.g _ (az gY (show q.me.toNat<s.groups.length by omega))
 have hm:=(kp hg.1).2.2.1;have hlt:Tm s.groups w q<256^8:=by
  unfold Tm Ey;exact ix (aD _ oO) (dY hg.2.1)
 exact⟨nA.2 hlt,vN hlt⟩
theorem JW {c sl:Bytes} {s:dJ} (hp:Gg c sl s) (hbd:Vn s) (h00:s.eqs≠[]) {m o:Bytes} (hg1:s.groups=[(m,o)]) {ctx:Bytes} (hx:ctx.length<=100000) {w:List Int} (hw6:w.length<1000000) (hw: ∀x∈w,x.natAbs<dw) (hW:Be (bT s.groups) s.vars w=true->WS s w) {vs:List Bytes} {sd:Bytes} {a:Int} (hl:vs.length<1000000) (hsd:sd.length<1000000):
  aA Tryz.prog 45 [.agg [.s c, .s sl], .s ctx,s.pv, .sl (w.map Zp),C0, .sl [],T vs sd a] (Wg vs sd (Bw c sl ctx s w vs sd a)):=by
 have hr:=hp.r;have hs:=hp.g;have hn:=uE hp;have hwt:=NC (c:=c) (sl:=sl) hs hg1 hw6 hw hW sd (a:=a) hl;unfold Bw
 by_cases he:zo s w vs a=0
 ·rw[if_neg (by simpa using he)]
  rw[he]at hwt;obtain⟨f2,f3,f4,-⟩:=QV he;obtain⟨g1,g2,g3⟩:=rz f2;obtain⟨i0,rfl⟩: ∃i:Nat,a=i:=⟨a.toNat,by omega⟩
  rw[Int.toNat_natCast];have hCo:=fun(i:Nat) (hi:i<=2147483647)=>HV hp (vs:=vs) (sd:=sd) (i:=i) g1 hi hl hsd
  have hRe:=fun(ms:List Int) (ch:Nat) (hml:ms.length=s.vars.length) (hch:ch<num c)=>EC hp f3 hml hch f4
  have hMf:=fun(i:Nat) (hi:i<=2147483647) (ms:List Int)=>xS hp (sd:=sd) (i:=i) g1 hi hl (ms:=ms)
  have hCh:=fun(fs:List Bytes)=>wW hr hbd hx (fs:=fs)
  have hB:=fun(i:Nat) (hi:i<=2147483647)=>N4 (vs:=vs) (a:=i) sd (oG g1 hi) hl
  have hmI:=Tl hs;have hii: ∀ms:List Int,xy s ms≠[]/\(xy s ms).length<=900:=fun ms=>by
   have:=Bc s ms;have ne:=hs.ne;exact⟨fun h=>h00 (gJ.1 (by rw[<-this,h];rfl)),by omega⟩
  obtain⟨R0,hR0⟩: ∃R0,R0=BP c sl ctx s w vs sd 64 i0:=⟨_,rfl⟩;rw[<-hR0];obtain⟨gs,us,es⟩:=s;simp only[X0,dJ.pv]at hn hwt hCo hRe hCh hMf hg1⊢;subst hg1;obtain⟨oq,hoq⟩: ∃oq,oq=bT [(m,o)]:=⟨_,rfl⟩;simp only[aS,bH,gO,<-hoq]at hn hwt hCo hRe hCh hMf f4⊢;refine eW Tryz.call45 Tryz.func45 ?_;refine ZN @hn @hwt ?_;refine af (α:=Nat×Nat) (fun p=>64-p.1) (fun p=>⟨[(1, .v (.s ctx)),(3, .v (.sl (w.map Zp))),(5, .v (.sl [])),(7, .p 1000 0 0),(9, .p 1001 0 0),(11, .p 1002 0 0),(13, .p 1003 0 0),(14, .p 1004 0 0),(15, .p 1005 0 0),(17, .p 1014 0 0),(50,E' p.1)],[(1000,⟨0,[.v (.s c), .v (.s sl)],false,none⟩),(1001,⟨0,[.v (.sl [G m o]), .v (.sl (us.map dO)), .v (.sl (es.map eH.pv))],false,none⟩),(1002,⟨0,[.v (.sl []), .v (.sl [])],false,none⟩),(1003,⟨0,[.v (.sl (vs.map .s)), .v (.s sd), .v (.i .i64 ((p.2:Nat):Int))],false,none⟩),(1004,⟨0,[.v (.s []), .sn, .sn, .sn],false,some 57⟩),(1005,⟨0,[.sn, .v (.s []), .v (.i .i64 0)],false,some 29⟩),(1014,⟨0,[.v (.s c), .v (.s sl), .v (.sl [G m o]), .v (.sl (us.map dO)), .v (.sl (es.map eH.pv)), .v (.sl []), .v (.sl []), .v (.s [])],false,some 155⟩)],1028⟩) (fun p=>p.1<=64/\p.2<=2147483647/\R0=BP c sl ctx ⟨[(m,o)],us,es⟩ w vs sd (64-p.1) p.2) (0,i0) (fun _=>cC rfl) ⟨aH _,by omega,hR0⟩ ?_ ?_
  ·exact lE
  ·clear hn hwt hR0 he f2;rintro⟨k,i⟩ ⟨hk,hi,hR0⟩ R hR;simp only at hk hi hR0
   by_cases hlt:k<64
   ·obtain⟨q,hq⟩: ∃q,64-k=q+1:=⟨63-k,by omega⟩
    rw[hq,BP]at hR0;simp only[<-hoq]at hR0;have hCo:=hCo i hi
    cases hM:mK oq c sl vs sd us i []with
    |error e=>
     simp only[hM]at hR0 hCo;subst hR0;have he:(e !=0)=true:=by rcases Dt hM with rfl|rfl<;>rfl
     simp only[KH]at hCo;clear hR;exact o7 @he @hCo
    |ok ms=>
     simp only[hM]at hR0 hCo;simp only[KH]at hCo;obtain⟨m1,m2,m3,m4⟩:=hMf i hi ms hM;have hii:=hii ms;have hCh:=hCh (xy ⟨[(m,o)],us,es⟩ ms) hii.1 hii.2 (fun x hx=>by have:=(hmI _ x hx).1;omega)
     have hlc:=As (GN ctx ⟨[(m,o)],us,es⟩ (xy ⟨[(m,o)],us,es⟩ ms)) hr.c2;have hRe:=hRe ms _ m1 hlc m2;generalize kC (GN ctx ⟨[(m,o)],us,es⟩ (xy ⟨[(m,o)],us,es⟩ ms)) c=z at*;have hB:=hB (i+us.length) m3;generalize xy ⟨[(m,o)],us,es⟩ ms=L at*;unfold FK at hRe
     by_cases hin:E5 oq c sl us (fM oq us ms w z)=true
     ·rw[if_pos hin]at hR0 hRe;subst hR0;generalize fM oq us ms w z=rs at*;clear hR hMf m2 m4 hmI hM f4;exact z4 @hCo @hB @hCh @hRe
     ·rw[if_neg hin]at hR0 hRe;have hgo:=hR (k+1,i+us.length) ⟨by omega,m3,by rw[show 64-(k+1)=q by omega];exact hR0⟩ (by simp only;omega)
      clear hR hMf m2 m4 hmI hM f4;exact zg4 @hgo @hCo @hB @hCh @hRe
   ·obtain rfl:k=64:=by omega
    simp only[eE,BP]at hR0;subst hR0;clear hR hRe hCh hCo hMf hB;exact z0
 ·rw[if_pos he];have hb:(zo s w vs a==0)=false:=by simpa using he
  have hb2:(zo s w vs a !=0)=true:=by simpa using he
  generalize zo s w vs a=e at*;obtain⟨gs,us,es⟩:=s;simp only[X0,dJ.pv]at hn hwt⊢;refine eW Tryz.call45 Tryz.func45 ?_;exact RU (aN @hb @hb2) @hn @hwt
def Az (b:Bytes) (x:Bool×Bytes) (L:Nat):Bool:=decide (num x.2<L)&& !(b==[]&&x.1)
theorem M9 (b:Bytes) {n:Bool} {a:Bytes} (va:aa a=true) {L:Nat} (hL:L<dw):aA Tryz.prog 405 [dO b,N L, .agg [.b n, .s a]] (.b (Az b (n,a) L)):=by
 have hc:=rh (tQ va) hL;rw[eV va]at hc;have hd: ∀ _:True,decide (aU (num a) L<0)=decide (num a<L):=fun _=>by rw[dE];simp only[decide_eq_true_eq];exact fX
 generalize aU (num a) L=cm at*;unfold dO Az;simp only;generalize decide (num a<L)=p at*;generalize hb:(b==([]:Bytes))=q at*
 cases p<;>cases q<;>cases n<;>
 ·refine eW Tryz.call405 Tryz.func405 ?_;exact o7 (aN @hb (hd trivial)) @hc
def Fj (o c sl:Bytes) (vs:List Bytes) (l:List (Bool×Bytes)):Bool:=(List.range vs.length).all fun i=>Az (vs.getD i []) (l.getD i lK) (lR o c sl (vs.getD i []))
def gW (o c sl:Bytes) (vs:List Bytes) (ch:Bytes) (l:List (Bool×Bytes)):Int:=
 if !(aa ch&&l.all c9)then 3 else if num c<=num ch then 2 else if l.length≠vs.length then 6 else if !Fj o c sl vs l then 2 else 0
noncomputable def ru (c sl:Bytes) (s:dJ) (ch:Bytes) (l:List (Bool×Bytes)):List PV:=
 if gW (bT s.groups) c sl s.vars ch l=0 then s.eqs.map fun q=>N (mJ s.groups ch l q)else[]
theorem L9 {o c sl:Bytes} {vs:List Bytes} {l:List (Bool×Bytes)} {i:Nat} (hi:i<vs.length) (h: ¬Az (vs.getD i []) (l.getD i lK) (lR o c sl (vs.getD i []))=true):Fj o c sl vs l=false:=by
 unfold Fj;rw[eZ];intro g;exact h (bz.1 g i (cM.2 hi))
theorem zY {o c sl:Bytes} {vs:List Bytes} {l:List (Bool×Bytes)} (h: ∀i,i<vs.length->Az (vs.getD i []) (l.getD i lK) (lR o c sl (vs.getD i []))=true):Fj o c sl vs l=true:=by
 unfold Fj;rw[bz];intro i hi;exact h i (cM.1 hi)
theorem HA {c sl:Bytes} {s:dJ} (hp:Gg c sl s) (h1:s.eqs≠[]) {ch:Bytes} {l:List (Bool×Bytes)} (hll:l.length<1000000):aA Tryz.prog 313 [.agg [.s c, .s sl],s.pv, .s ch, .sl (l.map eC)] (.tup [.sl (ru c sl s ch l),E (gW (bT s.groups) c sl s.vars ch l)]):=by
 have hr:=hp.r;have hs:=hp.g;have hb:=DZ hp;have lo:=(fq hs.g).2;clear hp;have vh:=aJ ch;have hi:=Nl l hll;have l5:(l.map eC).length=l.length:=aE ..;have l2:(s.vars.map dO).length=s.vars.length:=aE ..;have l6:(s.vars.map fun b=>N (lR (bT s.groups) c sl b)).length=s.vars.length:=aE ..
 have nv:=hs.nv
 by_cases g1:aa ch=true/\l.all c9=true
 case neg=>
  have e:(aa ch&&l.all c9)=false:=by rw[eZ];intro g;simp at g;exact g1 ⟨g.1,by simpa[bz]using g.2⟩
  have e2:gW (bT s.groups) c sl s.vars ch l=3:=by simp only[gW,e];rfl
  rw[ru,if_neg (by rw[e2];decide),e2]
  clear e2 hs;unfold dJ.pv at*;generalize aa ch=b1 at*;generalize l.all c9=b2 at*;refine eW Tryz.call313 Tryz.func313 ?_;repeat' first|simp only[go_sem,seval]|refine cP hb ?_|refine cP vh ?_|refine cP hi ?_|refine sB ?_|apply xX<;>intro hc|refine⟨oD,?_⟩|exact oD|fail
  all_goals (exfalso;simp_all)
 obtain⟨vc,hok⟩:=g1;rw[vc]at vh;rw[hok]at hi;have hcm:=ri vc hr.vc
 by_cases g2:num c<=num ch
 ·have e2:gW (bT s.groups) c sl s.vars ch l=2:=by simp only[gW,vc,hok];rw[if_neg (by simp),if_pos g2]
  have hd: ∀ _:True,decide (aU (num ch) (num c)>=0)=true:=fun _=>decide_eq_true (jW.2 g2)
  rw[ru,if_neg (by rw[e2];decide),e2]
  generalize aU (num ch) (num c)=cm at*;clear e2 hs;unfold dJ.pv at*;refine eW Tryz.call313 Tryz.func313 ?_;exact UY (hd trivial) @hb @vh @hi @hcm
 have hd: ∀ _:True,decide (aU (num ch) (num c)>=0)=false:=fun _=>decide_eq_false (fun g=>g2 (jW.1 g))
 by_cases g3:l.length=s.vars.length
 case neg=>
  have e2:gW (bT s.groups) c sl s.vars ch l=6:=by simp only[gW,vc,hok];rw[if_neg (by simp),if_neg g2,if_pos g3]
  rw[ru,if_neg (by rw[e2];decide),e2]
  generalize aU (num ch) (num c)=cm at*;clear e2 hs;unfold dJ.pv at*;refine eW Tryz.call313 Tryz.func313 ?_;repeat' first|simp only[go_sem,seval,hd trivial,l5,l2]|refine cP hb ?_|refine cP vh ?_|refine cP hi ?_|refine cP hcm ?_|refine sB ?_|apply xX<;>intro hc|refine⟨oD,?_⟩|exact oD|fail
  all_goals (exfalso;omega)
 have hms:=BL hs.m h1 vc g3 (bz.1 hok);have hv:=hs.v;have hval: ∀x∈l,aa x.2=true:=fun x hx=>by
  have:=bz.1 hok x hx;simp only[c9,aY]at this;exact this.1
 have e0:gW (bT s.groups) c sl s.vars ch l=if !Fj (bT s.groups) c sl s.vars l then 2 else 0:=by
  simp only[gW,vc,hok];rw[if_neg (by simp),if_neg g2,if_neg oO]
 unfold ru;rw[e0];clear e0 hs hok;obtain⟨gs,vs,es⟩:=s;simp only at*;generalize bT gs=o at*;unfold dJ.pv at*;simp only at*;generalize aU (num ch) (num c)=cm at*;refine eW Tryz.call313 Tryz.func313 ?_;refine Xq (aN (hd trivial) (aN @l5 @l2)) @hb @vh @hi @hcm ?_;refine af (α:=Nat) (fun i=>vs.length-i) (fun i=>⟨[(2, .v (.s ch)),(3, .v (.sl (l.map eC))),(5, .p 1001 0 0),(11, .v (.sl (vs.map fun b=>N (lR o c sl b)))),(45, .v (.sl (vs.map dO))),(46,E' vs.length),(47,E' i)],[(1001,⟨0,[.v (.sl (gs.map gO)), .v (.sl (vs.map dO)), .v (.sl (es.map eH.pv))],false,none⟩)],_⟩) (fun i=>i<=vs.length/\ ∀j,j<i->Az (vs.getD j []) (l.getD j lK) (lR o c sl (vs.getD j []))=true) 0 (fun _=>an _) ⟨aH _,fun j hj=>by omega⟩ ?_ ?_
 ·exact lE
 ·rintro i ⟨hi',hf⟩ R hR
  by_cases hlt:i<vs.length
  ·have e1:=getD_map dO vs [] hlt;have e2:=getD_map (fun b=>N (lR o c sl b)) vs [] hlt
   have hlt2:i<l.length:=by omega
   have e3:=getD_map eC l lK hlt2;obtain⟨k1,k3⟩:=hv _ (az [] hlt);have kv:=hval _ (az lK hlt2);have ad:aA Tryz.prog 405 [dO (vs.getD i []),N (lR o c sl (vs.getD i [])),eC (l.getD i lK)] (.b (Az (vs.getD i []) (l.getD i lK) (lR o c sl (vs.getD i [])))):=M9 (vs.getD i []) (n:=(l.getD i lK).1) kv (LK hr lo k3);have hgo:=hR (i+1)
   by_cases hc2:Az (vs.getD i []) (l.getD i lK) (lR o c sl (vs.getD i []))=true
   ·have hgo:=hgo ⟨by omega,fun j hj=>by
     by_cases e:j=i
     ·rw[e];exact hc2
     ·exact hf j oO⟩ oO
    rw[hc2]at ad;clear hR hf hc2 kv k1 k3;generalize lR o c sl (vs.getD i [])=L at*;generalize vs.getD i []=b at*;obtain⟨x,hx⟩: ∃x,x=l.getD i lK:=⟨_,rfl⟩;rw[<-hx]at ad e3;clear hx;obtain⟨xn,xa⟩:=x;simp only[dO,eC]at*;exact kR (aN @l2 (aN @l5 (aN @l6 (aN @e1 (aN @e2 @e3))))) @hgo @ad
   ·rw[L9 hlt hc2];rw[eZ.2 hc2]at ad;clear hR hf hgo hc2 kv k1 k3;generalize lR o c sl (vs.getD i [])=L at*;generalize vs.getD i []=b at*;obtain⟨x,hx⟩: ∃x,x=l.getD i lK:=⟨_,rfl⟩;rw[<-hx]at ad e3;clear hx;obtain⟨xn,xa⟩:=x;simp only[dO,eC]at*;exact o7 (aN @l2 (aN @l5 (aN @l6 (aN @e1 (aN @e2 @e3))))) @ad
  ·obtain rfl:i=vs.length:=by omega
   rw[zY hf];exact o7 @l2 @hms
theorem Dc {α:Type} {f:Nat->α->Nat} {m:Nat} (h: ∀x a,f x a<m): ∀(l:List α) (x:Nat),x<m->l.foldl f x<m
 |[],_,hx=>hx
 |a::l,x,_=>Dc h l _ (h x a)
theorem Ph {s:dJ} (hs:CI s) (ch:Bytes) (rs:List (Bool×Bytes)): ∀x∈uO s ch rs,x.length<=8/\aa x=true:=by
 intro x hx;obtain⟨q,hq,rfl⟩:=bw.1 hx;obtain⟨q1,q2,-⟩:=hs.q q hq;have hg:=hs.g _ (az gY (show q.me.toNat<s.groups.length by omega))
 have hm:=(kp hg.1).2.2.1;have hlt:mJ s.groups ch rs q<256^8:=by
  refine ix ?_ (dY hg.2.1);unfold mJ;exact Dc (fun x a=>aD _ oO) _ _ (aD _ oO)
 exact⟨nA.2 hlt,vN hlt⟩
theorem Fl {c sl:Bytes} {s:dJ} (hp:Gg c sl s) (h0:s.vars≠[]) (h00:s.eqs≠[]) {ch:Bytes} {rs:List (Bool×Bytes)} (h1:rs.length<1000000) (hf:ju c s.vars.length ch rs [] []=0) (hi:gW (bT s.groups) c sl s.vars ch rs≠0):
  aA Tryz.prog 232 [X0 c sl s,Js ch rs [] []] (.tup [Zm,B0,E (gW (bT s.groups) c sl s.vars ch rs)]):=by
 have hfo:=AZ (c:=c) (sl:=sl) hp.r.vc s ch rs [] [] h1 (by simp) (by simp) (by simp)
 rw[hf]at hfo;have hfi:=HA hp h00 (ch:=ch) (l:=rs) h1;have hl:ru c sl s ch rs=[]:=by unfold ru;rw[if_neg hi]
 rw[hl]at hfi;have hb:(gW (bT s.groups) c sl s.vars ch rs==0)=false:=by simpa using hi
 generalize gW (bT s.groups) c sl s.vars ch rs=e at*;obtain⟨gq,vs,es⟩:=s;simp only[X0,Js,dJ.pv]at hfo hfi⊢;refine eW Tryz.call232 Tryz.func232 ?_;repeat' first|simp only[go_sem,seval,hb]|refine cP hfo ?_|refine cP hfi ?_|refine sB ?_|apply xX<;>intro hc|refine⟨oD,?_⟩|exact oD|fail
 all_goals skip
theorem Fm {c sl:Bytes} {s:dJ} (hp:Gg c sl s) (h0:s.vars≠[]) (h00:s.eqs≠[]) {ch:Bytes} {rs:List (Bool×Bytes)} (h1:rs.length<1000000) (hf:ju c s.vars.length ch rs [] []=0) (hi:gW (bT s.groups) c sl s.vars ch rs=0):
  aA Tryz.prog 232 [X0 c sl s,Js ch rs [] []] (.tup [.agg [.sl (s.eqs.map fun q=>N (mJ s.groups ch rs q)), .s ch, .sl (rs.map eC)],B0,E 0]):=by
 have hfo:=AZ (c:=c) (sl:=sl) hp.r.vc s ch rs [] [] h1 (by simp) (by simp) (by simp)
 rw[hf]at hfo;have hfi:=HA hp h00 (ch:=ch) (l:=rs) h1;have hl:ru c sl s ch rs=s.eqs.map fun q=>N (mJ s.groups ch rs q):=by unfold ru;rw[if_pos hi]
 rw[hl,hi]at hfi;have hrs:rs≠[]:=by
  intro h;subst h;unfold ju at hf;have hv:([]:List (Bool×Bytes)).length≠s.vars.length:=by
   intro h;exact h0 (gJ.1 h.symm)
  split at hf
  ·exact absurd hf oC
  ·rw[if_pos (.inl hv)]at hf;exact absurd hf oC
 have hcl:=HT hrs h1;have hcn:=Ga;generalize (s.eqs.map fun q=>N (mJ s.groups ch rs q))=fl at*
 obtain⟨gq,vs,es⟩:=s;simp only[X0,Js,dJ.pv,bH]at hfo hfi⊢;refine eW Tryz.call232 Tryz.func232 ?_;exact Zj @hfo @hfi @hcl @hcn
noncomputable def BT (c sl ctx:Bytes) (s:dJ) (ch:Bytes) (rs:List (Bool×Bytes)) (gs:List Bytes) (ls:List (List (Bool×Bytes))):Int:=
 if ju c s.vars.length ch rs gs ls≠0 then ju c s.vars.length ch rs gs ls else if gW (bT s.groups) c sl s.vars ch rs≠0 then gW (bT s.groups) c sl s.vars ch rs else if aO (kC (GN ctx s (uO s ch rs)) c)=ch then 0 else 16
theorem La {c sl:Bytes} {s:dJ} (hp:Gg c sl s) (hb:Vn s) (h00:s.eqs≠[]) {ctx:Bytes} (hx:ctx.length<=100000) {ch:Bytes} {rs:List (Bool×Bytes)} {gs:List Bytes} {ls:List (List (Bool×Bytes))} (h1:rs.length<1000000) (h2:gs.length<=1000) (h3:ls.length<=1000) (h4: ∀l∈ls,l.length<4611686018427387904):
  aA Tryz.prog 124 [.agg [.s c, .s sl], .s ctx,s.pv,C0,Js ch rs gs ls] (E (BT c sl ctx s ch rs gs ls)):=by
 have hn:=uE hp;unfold BT
 by_cases hf:ju c s.vars.length ch rs gs ls=0
 ·obtain⟨rfl,rfl⟩:=Iy hf;rw[if_neg (by simpa using hf)]
  by_cases hi:gW (bT s.groups) c sl s.vars ch rs=0
  ·rw[if_neg (by simpa using hi)]
   have ho:=Fm hp hb.v0 h00 h1 hf hi;have hmap:(s.eqs.map fun q=>N (mJ s.groups ch rs q))=(uO s ch rs).map .s:=by unfold uO;rw[iQ];rfl
   rw[hmap]at ho;have f0:uO s ch rs≠[]:=by unfold uO;simpa using h00
   have fl: ∀x∈uO s ch rs,x.length<=100000:=fun x hx=>by have:=(Ph hp.g ch rs x hx).1;omega
   have fn:(uO s ch rs).length<=900:=by unfold uO;rw[aE];have:=hp.g.ne;omega
   generalize uO s ch rs=fs at*;have hc:=wW hp.r hb hx f0 fn fl;have ha:=EE (c:=c) (sl:=sl) s B0 (aO (kC (GN ctx s fs) c));generalize kC (GN ctx s fs) c=z at*;obtain⟨gq,vs,es⟩:=s;simp only[X0,Js,dJ.pv,bH]at hn ho hc ha⊢;clear hp hb h2 h3 h4 hf hi hmap
   by_cases hz:aO z=ch
   ·rw[if_pos hz];have hz1:(aO z==ch)=true:=by simpa using hz
    refine eW Tryz.call124 Tryz.func124 ?_;exact Xs @hz1 @hn @ho @hc @ha
   ·rw[if_neg hz];have hz1:(aO z==ch)=false:=by simpa using hz
    refine eW Tryz.call124 Tryz.func124 ?_;exact Xs @hz1 @hn @ho @hc @ha
  ·rw[if_pos hi];have ho:=Fl hp hb.v0 h00 h1 hf hi;have hb:(gW (bT s.groups) c sl s.vars ch rs==0)=false:=by simpa using hi
   generalize gW (bT s.groups) c sl s.vars ch rs=e at*;obtain⟨gq,vs,es⟩:=s;simp only[X0,Js,dJ.pv,bH]at hn ho⊢;refine eW Tryz.call124 Tryz.func124 ?_;exact RU @hb @hn @ho
 ·rw[if_pos hf];have ho:=IZ hp.r h1 h2 h3 h4 hf (sl:=sl);have hb:(ju c s.vars.length ch rs gs ls==0)=false:=by simpa using hf
  generalize ju c s.vars.length ch rs gs ls=e at*;obtain⟨gq,vs,es⟩:=s;simp only[X0,Js,dJ.pv]at hn ho⊢;refine eW Tryz.call124 Tryz.func124 ?_;exact RU @hb @hn @ho
end Go.Proofs.YtfdjchnefpefbaaGreatDoor
