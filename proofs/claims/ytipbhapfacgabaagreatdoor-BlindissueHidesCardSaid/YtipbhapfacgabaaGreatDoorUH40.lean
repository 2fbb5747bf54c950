/- Part of the proof. -/
import Derived.Test.YtipbhapfacgabaaGreatDoorUH39
set_option linter.all false
set_option maxHeartbeats 16000000
set_option maxRecDepth 100000
namespace Go.Proofs.Tryz
open Go Go.Dom Go.Num
variable {c ctx sl st:Bytes} {fs vs:List Bytes}
def S5:Bytes:=[108,101,97,102]
def Ws (l:List Bytes):PV:= .sl (l.map .s)
def yA (t:Bytes) (l:List Bytes):Bytes:=eF t S5 l
def fsC (ctx:Bytes) (s:cY) (tx:Bytes) (cl:Wp) (fs:List Bytes) (lss:List (List Bytes)):Bytes:=lss.foldl yA (eF (cl.leaves.foldl jX (e9 (jX (e9 (qY CL) Fp ctx) s) Ox tx)) Oy fs)
theorem xP {l:List cY} (hs:st.length=32):(l.foldl jX st).length=32:=by
 induction l generalizing st with
 |nil=>exact hs
 |cons s l ih=>exact ih xO
theorem Bd {l:List (List Bytes)} (hs:st.length=32):(l.foldl yA st).length=32:=by
 induction l generalizing st with
 |nil=>exact hs
 |cons s l ih=>exact ih (dL _ _ _)
theorem Gf (vc:aa c=true) (c0:c≠[]) (lc:c.length<=8) {s:cY} (hb:Y4 s) {cl:Wp} (hl:cl.leaves.length<1000000) (hB: ∀s∈cl.leaves,Y4 s) {tx:Bytes} (ht:tx.length<=100000) (hT:aF 188 [Fpv cl.gates] (.tup [.s tx,E 0])) (hx:ctx.length<=100000) (fn:fs.length<=900) (fl: ∀x∈fs,x.length<=100000) {lss:List (List Bytes)} (ln:lss.length<1000000) (ll: ∀l∈lss,l.length<=900/\ ∀x∈l,x.length<=100000):
  aF 102 [XC c sl s cl, .s ctx, .sl (fs.map .s), .sl (lss.map Ws)] (.tup [N (iV (fsC ctx s tx cl fs lss) c),E 0]):=by
 have n1:=R4 CL oC;have n2:=kI (qY CL) Fp ctx (by rw[Lh];decide) oC hx
 have n3:=Ss (st:=e9 (qY CL) Fp ctx) (by rw[ic];decide) hb
 have n4:=kI (jX (e9 (qY CL) Fp ctx) s) Ox tx (by rw[xO];decide) oC ht
 have l4:=ic (jX (e9 (qY CL) Fp ctx) s) Ox tx;unfold fsC;generalize e9 (jX (e9 (qY CL) Fp ctx) s) Ox tx=s4 at*;generalize jX (e9 (qY CL) Fp ctx) s=s3 at*;have n5:=CQ (cl.leaves.foldl jX s4) Oy fs (by rw[xP l4];decide) oC fn fl
 have l5:=dL (cl.leaves.foldl jX s4) Oy fs;have n6:=fun s6 (h6:s6.length=32)=>Ao s6 c oO vc c0 lc
 obtain⟨gs,vs,es⟩:=s;obtain⟨lv,G⟩:=cl;simp only[XC,cY.pv]at*;generalize Vx lv=q at*;have k1:(lv.map cY.pv).length=lv.length:=aR ..;have k2:(lss.map Ws).length=lss.length:=aR ..;refine eW call102 func102 ?_;refine Lr @k1 @n1 @n2 @n3 @n4 @hT oT oT ?_;refine aq (α:=Nat) (fun i=>lv.length-i) (fun i=>⟨[(4, .p 1000 0 0),(2, .v (.sl (fs.map .s))),(3, .v (.sl (lss.map Ws))),(10, .v (.s ((lv.take i).foldl jX s4))),(36, .v (.sl (lv.map cY.pv))),(37,E' lv.length),(38,E' i)],[(1000,⟨0,[.v (.s c), .v (.s sl), .v (.sl (gs.map gV)), .v (.sl (vs.map dE)), .v (.sl (es.map dS.pv)), .v (.sl (lv.map cY.pv)), .v (.sl (G.map Gt.pv)), .v (.s q)],false,none⟩)],_⟩) (fun i=>i<=lv.length) 0 (fun _=>aB _) (aT _) ?_ ?_
 ·(refine AS.Le.of (by first|decide|omega) ?_ ?_<;>simp[dG,dF,aO,hget,AV.bd,AV.bd.bdL,u8,ar,au,az])
  all_goals rfl
 ·intro i hi R hR
  by_cases hit:i<lv.length
  ·have e2:=getD_map cY.pv lv Qo hit;have hgo:=hR (i+1) oO oO;rw[fZ jX s4 Qo hit]at hgo;have hB1:=hB _ (aG Qo hit);have hX:=xP (l:=lv.take i) l4;generalize (lv.take i).foldl jX s4=X at hgo hX⊢;have c5:=Ss (st:=X) oO hB1;generalize lv.getD i Qo=s' at*;obtain⟨gs',vs',es'⟩:=s';simp only[cY.pv]at e2 c5;clear hR n5 n6;refine qN (aN @k1 @e2) @c5 ?_;refine hgo _ ?_
   (refine AS.Le.of (by first|decide|omega) ?_ ?_<;>simp[dG,dF,aO,hget,AV.bd,AV.bd.bdL,u8,ar,au,az])
   all_goals first|omega|skip
  ·obtain rfl:i=lv.length:=oO;rw[cq];clear hR hB;refine qN (aN @k1 @k2) @n5 ?_;generalize eF (lv.foldl jX s4) Oy fs=s5 at*;clear n1 n2 n3 n4 n5 hT;refine aq (α:=Nat) (fun j=>lss.length-j) (fun j=>⟨[(4, .p 1000 0 0),(10, .v (.s ((lss.take j).foldl yA s5))),(49, .v (.sl (lss.map Ws))),(50,E' lss.length),(51,E' j)],[(1000,⟨0,[.v (.s c), .v (.s sl), .v (.sl (gs.map gV)), .v (.sl (vs.map dE)), .v (.sl (es.map dS.pv)), .v (.sl (lv.map cY.pv)), .v (.sl (G.map Gt.pv)), .v (.s q)],false,none⟩)],_⟩) (fun j=>j<=lss.length) 0 (fun _=>aB _) (aT _) ?_ ?_
   ·(refine AS.Le.of (by first|decide|omega) ?_ ?_<;>simp[dG,dF,aO,hget,AV.bd,AV.bd.bdL,u8,ar,au,az])
    all_goals rfl
   ·intro j hj R hR
    by_cases hjt:j<lss.length
    ·have e2:=getD_map Ws lss ([]:List Bytes) hjt;have hgo:=hR (j+1) oO oO;rw[fZ yA s5 ([]:List Bytes) hjt]at hgo;obtain⟨b1,b2⟩:=ll _ (aG ([]:List Bytes) hjt);have hX:=Bd (l:=lss.take j) l5;generalize (lss.take j).foldl yA s5=X at hgo hX⊢;generalize lss.getD j []=y at*;have c5:=CQ X S5 y oO oC b1 b2;simp only[Ws]at e2;simp only[yA]at hgo;clear hR n6;refine qN (aN @k2 @e2) @c5 ?_;refine hgo _ ?_
     (refine AS.Le.of (by first|decide|omega) ?_ ?_<;>simp[dG,dF,aO,hget,AV.bd,AV.bd.bdL,u8,ar,au,az])
     all_goals first|omega|skip
    ·obtain rfl:j=lss.length:=oO;rw[cq];have n7:=n6 _ (Bd (l:=lss) l5);generalize lss.foldl yA s5=s6 at*;clear hR n6;exact ot @k2 @n7
theorem Wo.n {s:cY} (h:Wo s):Y4 s:=by
 obtain⟨⟨m,o,hg,lm,lo⟩,v0,nv,hv,ne,hq⟩:=h;refine⟨by rw[hg];simp,fun g h=> ?_,oO,hv,oO,fun q hq'=> ?_⟩
 ·rw[hg]at h;obtain rfl:=ik.1 h;exact⟨lm,lo⟩
 ·obtain⟨a,b,c,d,e⟩:=hq q hq';exact⟨a,b,c,oO,e⟩
theorem xW (hr:r9 c sl) {s:cY} (hb:Wo s) (hx:ctx.length<=100000) (f0:fs≠[]) (fn:fs.length<=900) (fl: ∀x∈fs,x.length<=100000):
  aF 102 [X0 c sl s, .s ctx, .sl (fs.map .s), .sl []] (.tup [N (iV (J8 ctx s fs) c),E 0]):=by
 have c0:c≠[]:=by
  intro h;have:=hr.c2;rw[h]at this;exact aJ this oC
 exact Gf hr.vc c0 hr.lc hb.n (cl:=⟨[],[]⟩) oC (fun s h=>by cases h) (tx:=[]) oC UD hx fn fl (lss:=[]) oC (fun l h=>by cases h)
theorem YQ (b:Bytes):aF 172 [dE b] (.s (if b=[]then([]:Bytes)else b)):=by
 have h:=Sg b;split
 ·rename_i g;subst g;exact h
 ·exact h
theorem YR (m:Bytes) {o:Bytes} (h:o≠[]):aF 173 [.sl [G m o], .fn (.func 174)] (E 0):=by
 have hb:(o !=([]:Bytes))=true:=by simpa using h
 have hb2:(o==([]:Bytes))=false:=by simpa using h
 have h:aF 174 [G m o] (.b true):=by
  refine eW call174 func174 ?_;exact oo (aN @hb @hb2)
 refine eW call173 func173 ?_;refine Hw ?_;refine aj ?_;exact z1 @h
theorem YS (b o:Bytes):aF 175 [dE b, .pt (.agg [.s o]) 0] (.s (if b=[]then o else b)):=by
 unfold dE
 by_cases h:b=[]
 ·subst h;refine eW call175 func175 ?_;exact oo @nn
 ·have hb:(b==([]:Bytes))=false:=by simpa using h
  rw[af h];refine eW call175 func175 ?_;exact oo @hb
noncomputable def tw (s:cY) (w:List Int) (vs:List Bytes) (a:Int):Int:=if !fA vs a then 3 else if w.length≠s.vars.length then 6 else if !Ag (bZ s.groups) s.vars w then 2 else if !yn s w then 18 else 0
theorem OY {s:cY} (hs:DZ s) {m o:Bytes} (hg1:s.groups=[(m,o)]) {w:List Int} (hw6:w.length<1000000) (hw: ∀x∈w,x.natAbs<dP) (hW:Ag (bZ s.groups) s.vars w=true->WS s w) (sd:Bytes) {a:Int} (hl:vs.length<1000000):aF 99 [X0 c sl s, .sl (w.map Zp), .sl [],T vs sd a] (E (tw s w vs a)):=by
 have v1:=gD (w.map jB) _ _ (by rw[aR];omega) Sd
 rw[jD,wH hw,WY]at v1;have v2:=nJ [] 171 [.pt (.agg [.fn (.func 168)]) 0] (fun _=>true) oC (fun x hx=>by cases hx)
 rw[show(([]:List (List (Bool×Bytes))).any fun _=>true)=false from rfl]at v2
 have v3:=Su sd (a:=a) hl;have nv:=hs.nv;have hb:=hs.v;have hh:=fun h=>Kh hs (w:=w) h hw hW
 have hoV:=fM hs.g;have hnb: ∀b∈s.vars,bZ s.groups=[]->b≠[]:=fun b h1 h2 h3=>Co hs (h3▸h1) h2
 obtain⟨gs,us,es⟩:=s;simp only at hg1 nv hb hh hoV hnb;subst hg1;have l2:(us.map dE).length=us.length:=aR ..;have l5:(w.map Zp).length=w.length:=aR ..;have ho:bZ [(m,o)]=o:=by
  by_cases h:o=[]
  ·subst h;rfl
  ·simp[bZ,h]
 rw[ho]at hh hoV hnb;unfold tw;simp only[ho,X0,cY.pv,br,bH,gV]at hh v2⊢;clear hs hW
 cases hg:fA vs a with
 |false=>
  rw[hg]at v3;simp only[db,cQ,aA];refine eW call99 func99 ?_;repeat' first|simp only[go_sem,seval,aX]|refine cP v1 ?_|refine cV v2 ?_|refine cP v3 ?_|refine cP xI ?_|refine oE ?_|apply xX<;>intro hc
  all_goals rfl
 |true=>
  rw[hg]at v3;simp only[cQ,bQ,ak]
  by_cases hwl:w.length=us.length
  ·rw[af (by simpa using hwl)]
   have hh:=hh hwl;have hI: ∀ _:True,((w.length:Int) !=us.length)=false:=fun _=>by rw[hwl];simp
   by_cases ho0:o=[]
   ·have v4:=Sh m;subst ho0;refine eW call99 func99 ?_;repeat' first|simp only[go_sem,seval,aX,l2,l5,hI oT]|refine cP v1 ?_|refine cV v2 ?_|refine cP v3 ?_|refine cP xI ?_|refine cP v4 ?_|refine oE ?_|apply xX<;>intro hc
    refine aq (α:=Nat) (fun i=>us.length-i) (fun i=>⟨[(1, .v (.sl (w.map Zp))),(2, .v (.sl [])),(4, .p 1000 0 0),(13, .v (.fn (.func 172))),(76, .v (.sl (us.map dE))),(77,E' us.length),(78,E' i)],[(1000,⟨0,[.v (.s c), .v (.s sl), .v (.sl [G m []]), .v (.sl (us.map dE)), .v (.sl (es.map dS.pv)), .v (.sl []), .v (.sl []), .v (.s [])],false,none⟩)],_⟩) (fun i=>i<=us.length/\ ∀j,j<i->je (us.getD j []) (w.getD j 0) (fH [] (us.getD j []))=true) 0 (fun _=>aB _) ⟨aT _,fun j hj=>oO⟩ ?_ ?_
    ·exact lE
    ·rintro i ⟨hi,hlts⟩ R hR;clear v1 v2 v3
     by_cases hlt:i<us.length
     ·have e1:=getD_map dE us [] hlt;have e2:=getD_map Zp w 0 (i:=i) oO;have kb:=hb _ (aG [] hlt);have kw:=hw _ (aG 0 (show i<w.length by omega))
      have hv0:=hnb _ (aG [] hlt);have hgo:=fun h=>hR (i+1) ⟨oO,h⟩ oO
      have hbad:=fun h: ¬je (us.getD i []) (w.getD i 0) (fH [] (us.getD i []))=true=>ow (p:=fun i=>je (us.getD i []) (w.getD i 0) (fH [] (us.getD i []))) hlt (dA.2 h)
      have hnx:je (us.getD i []) (w.getD i 0) (fH [] (us.getD i []))=true-> ∀j,j<i+1->je (us.getD j []) (w.getD j 0) (fH [] (us.getD j []))=true:=fun h j hj=>by
       by_cases hji:j<i
       ·exact hlts j hji
       ·obtain rfl:j=i:=oO;exact h
      rw[<-Ag]at hbad;clear hR hlts hh;generalize us.getD i []=b at*;generalize w.getD i 0=x at*;have hz:=rz kw;simp only[jB,dh,aV]at hz;have hc:=jZ hz.1 (show aa (if b=[]then[]else b)=true by split;exact hoV.1;exact kb.1)
      have hbl:num (if b=[]then[]else b)=fH [] b:=by unfold fH;split<;>rfl
      rw[uK,hbl]at hc;have h3:=YQ b;have hd:decide (bK x.natAbs (fH [] b)>=0)= !decide (x.natAbs<fH [] b):=O9 _ _;have hzs:zs x=decide (x<0):=rfl;simp only[dE]at e1 h3;simp only[Zp,fw,jB]at e2;unfold je at hbad hnx;clear hbl kb kw hz;generalize bK x.natAbs (fH [] b)=cm at*;generalize decide (x.natAbs<fH [] b)=p at*;generalize decide (x<0)=q at*;generalize (if b=[]then[]else b)=y at*
      have hbb:(b==[])=decide (b=[]):=by rw[cI,dZ,bc]
      generalize decide (b=[])=b0 at*;cases p
      ·rw[hbad (by simp)]
       simp only[db,aA];repeat' first|simp only[go_sem,seval,aX,l2,l5,e1,e2,hbb,hd,hzs]|refine cP h3 ?_|refine cV h3 ?_|refine cP hc ?_|refine oE ?_|apply xX<;>intro hc
       all_goals rfl
      ·cases b0
       ·have hgo:=hgo (hnx (by simp))
        repeat' first|simp only[go_sem,seval,aX,l2,l5,e1,e2,hbb,hd,hzs]|refine cP h3 ?_|refine cV h3 ?_|refine cP hc ?_|refine oE ?_|apply xX<;>intro hc
        refine hgo _ ?_;exact lE
       ·cases q
        ·have hgo:=hgo (hnx (by simp))
         repeat' first|simp only[go_sem,seval,aX,l2,l5,e1,e2,hbb,hd,hzs]|refine cP h3 ?_|refine cV h3 ?_|refine cP hc ?_|refine oE ?_|apply xX<;>intro hc
         refine hgo _ ?_;exact lE
        ·rw[hbad (by simp)]
         simp only[db,aA];repeat' first|simp only[go_sem,seval,aX,l2,l5,e1,e2,hbb,hd,hzs]|refine cP h3 ?_|refine cV h3 ?_|refine cP hc ?_|refine oE ?_|apply xX<;>intro hc
         all_goals rfl
     ·obtain rfl:i=us.length:=oO;have hg:Ag [] us w=true:=nM fun j hj=>hlts j hj
      rw[hg,cB]at hh;rw[hg];simp only[cQ,bQ,ak];clear hR hlts hb;generalize yn ⟨[(m,[])],us,es⟩ w=b at*;cases b
      ·exact Wn @hh @xJ
      ·exact Wn @hh @xJ
   ·have v4:=YR m ho0;refine eW call99 func99 ?_;repeat' first|simp only[go_sem,seval,aX,l2,l5,hI oT]|refine cP v1 ?_|refine cV v2 ?_|refine cP v3 ?_|refine cP xI ?_|refine cP v4 ?_|refine oE ?_|apply xX<;>intro hc
    refine aq (α:=Nat) (fun i=>us.length-i) (fun i=>⟨[(1, .v (.sl (w.map Zp))),(2, .v (.sl [])),(4, .p 1000 0 0),(13, .fn (.func 175) [] [.p 1057 0 0]),(76, .v (.sl (us.map dE))),(77,E' us.length),(78,E' i)],[(1000,⟨0,[.v (.s c), .v (.s sl), .v (.sl [G m o]), .v (.sl (us.map dE)), .v (.sl (es.map dS.pv)), .v (.sl []), .v (.sl []), .v (.s [])],false,none⟩),(1057,⟨0,[.v (.s o)],false,some 22⟩)],_⟩) (fun i=>i<=us.length/\ ∀j,j<i->je (us.getD j []) (w.getD j 0) (fH o (us.getD j []))=true) 0 (fun _=>aB _) ⟨aT _,fun j hj=>oO⟩ ?_ ?_
    ·exact lE
    ·rintro i ⟨hi,hlts⟩ R hR;clear v1 v2 v3
     by_cases hlt:i<us.length
     ·have e1:=getD_map dE us [] hlt;have e2:=getD_map Zp w 0 (i:=i) oO;have kb:=hb _ (aG [] hlt);have kw:=hw _ (aG 0 (show i<w.length by omega))
      have hv0:=hnb _ (aG [] hlt);have hgo:=fun h=>hR (i+1) ⟨oO,h⟩ oO
      have hbad:=fun h: ¬je (us.getD i []) (w.getD i 0) (fH o (us.getD i []))=true=>ow (p:=fun i=>je (us.getD i []) (w.getD i 0) (fH o (us.getD i []))) hlt (dA.2 h)
      have hnx:je (us.getD i []) (w.getD i 0) (fH o (us.getD i []))=true-> ∀j,j<i+1->je (us.getD j []) (w.getD j 0) (fH o (us.getD j []))=true:=fun h j hj=>by
       by_cases hji:j<i
       ·exact hlts j hji
       ·obtain rfl:j=i:=oO;exact h
      rw[<-Ag]at hbad;clear hR hlts hh;generalize us.getD i []=b at*;generalize w.getD i 0=x at*;have hz:=rz kw;simp only[jB,dh,aV]at hz;have hc:=jZ hz.1 (show aa (if b=[]then o else b)=true by split;exact hoV.1;exact kb.1)
      have hbl:num (if b=[]then o else b)=fH o b:=by unfold fH;split<;>rfl
      rw[uK,hbl]at hc;have h3:=YS b o;have hd:decide (bK x.natAbs (fH o b)>=0)= !decide (x.natAbs<fH o b):=O9 _ _;have hzs:zs x=decide (x<0):=rfl;simp only[dE]at e1 h3;simp only[Zp,fw,jB]at e2;unfold je at hbad hnx;clear hbl kb kw hz;generalize bK x.natAbs (fH o b)=cm at*;generalize decide (x.natAbs<fH o b)=p at*;generalize decide (x<0)=q at*;generalize (if b=[]then o else b)=y at*
      have hbb:(b==[])=decide (b=[]):=by rw[cI,dZ,bc]
      generalize decide (b=[])=b0 at*;cases p
      ·rw[hbad (by simp)]
       simp only[db,aA];repeat' first|simp only[go_sem,seval,aX,l2,l5,e1,e2,hbb,hd,hzs]|refine cP h3 ?_|refine cV h3 ?_|refine cP hc ?_|refine oE ?_|apply xX<;>intro hc
       all_goals rfl
      ·cases b0
       ·have hgo:=hgo (hnx (by simp))
        repeat' first|simp only[go_sem,seval,aX,l2,l5,e1,e2,hbb,hd,hzs]|refine cP h3 ?_|refine cV h3 ?_|refine cP hc ?_|refine oE ?_|apply xX<;>intro hc
        refine hgo _ ?_;exact lE
       ·cases q
        ·have hgo:=hgo (hnx (by simp))
         repeat' first|simp only[go_sem,seval,aX,l2,l5,e1,e2,hbb,hd,hzs]|refine cP h3 ?_|refine cV h3 ?_|refine cP hc ?_|refine oE ?_|apply xX<;>intro hc
         refine hgo _ ?_;exact lE
        ·rw[hbad (by simp)]
         simp only[db,aA];repeat' first|simp only[go_sem,seval,aX,l2,l5,e1,e2,hbb,hd,hzs]|refine cP h3 ?_|refine cV h3 ?_|refine cP hc ?_|refine oE ?_|apply xX<;>intro hc
         all_goals rfl
     ·obtain rfl:i=us.length:=oO;have hg:Ag o us w=true:=nM fun j hj=>hlts j hj
      rw[hg,cB]at hh;rw[hg];simp only[cQ,bQ,ak];clear hR hlts hb;generalize yn ⟨[(m,o)],us,es⟩ w=b at*;cases b
      ·exact Wn @hh @xJ
      ·exact Wn @hh @xJ
  ·rw[ah hwl];have e6:((w.length:Int) !=us.length)=true:=by rw[tZ];omega
   refine eW call99 func99 ?_;repeat' first|simp only[go_sem,seval,aX,l2,l5,e6]|refine cP v1 ?_|refine cV v2 ?_|refine cP v3 ?_|refine cP xI ?_|refine oE ?_|apply xX<;>intro hc
   all_goals rfl
noncomputable def qM (c sl ctx:Bytes) (s:cY) (w:List Int) (vs:List Bytes) (sd:Bytes):Nat->Nat->Except Int (Bytes×List Int×Nat)
 |0,_=> .error 15
 |k+1,i=>match mA (bZ s.groups) c sl vs sd s.vars i []with
  | .error e=> .error e
  | .ok ms=>
   if Cj (bZ s.groups) c sl s.vars (fR (bZ s.groups) s.vars ms w (iV (J8 ctx s (sG s ms)) c))then .ok (aZ (iV (J8 ctx s (sG s ms)) c),fR (bZ s.groups) s.vars ms w (iV (J8 ctx s (sG s ms)) c),i+s.vars.length)else qM c sl ctx s w vs sd k (i+s.vars.length)
noncomputable def qL (c sl ctx:Bytes) (s:cY) (w:List Int) (vs:List Bytes) (sd:Bytes) (a:Int):Except Int (Bytes×List Int×Nat):=
 if tw s w vs a≠0 then .error (tw s w vs a)else qM c sl ctx s w vs sd 64 a.toNat
theorem Si {s:cY} {w:List Int} {a:Int} (h:tw s w vs a=0):fA vs a=true/\w.length=s.vars.length/\Ag (bZ s.groups) s.vars w=true/\yn s w=true:=by
 unfold tw at h
 split at h
 ·cases h
 ·rename_i h1
  split at h
  ·cases h
  ·rename_i h2
   split at h
   ·cases h
   ·rename_i h3
    split at h
    ·cases h
    ·rename_i h4;exact⟨by simpa using h1,by simpa using h2,by simpa using h3,by simpa using h4⟩
theorem UK {s:cY} (hs:DZ s) (w:List Int): ∀x∈sG s w,x.length<=8/\aa x=true:=by
 intro x hx;obtain⟨q,hq,rfl⟩:=cG.1 hx;obtain⟨q1,q2,-⟩:=hs.q q hq;have hg:=hs.g _ (aG iC (show q.jA.toNat<s.groups.length by omega))
 have hm:=(qJ hg.1).2.2.1;have hlt:Lu s.groups w q<256^8:=by
  unfold Lu CC;exact gj (aL _ oO) (cU hg.2.1)
 exact⟨mN.2 hlt,vN hlt⟩
theorem LH {s:cY} (hp:DP c sl s) (hbd:Wo s) (h00:s.eqs≠[]) {m o:Bytes} (hg1:s.groups=[(m,o)]) (hx:ctx.length<=100000) {w:List Int} (hw6:w.length<1000000) (hw: ∀x∈w,x.natAbs<dP) (hW:Ag (bZ s.groups) s.vars w=true->WS s w) {sd:Bytes} {a:Int} (hl:vs.length<1000000) (hsd:sd.length<1000000):
  aF 43 [.agg [.s c, .s sl], .s ctx,s.pv, .sl (w.map Zp),C0, .sl [],T vs sd a] (XQ vs sd (qL c sl ctx s w vs sd a)):=by
 have hr:=hp.r;have hs:=hp.g;have hn:=vF hp;have hwt:=OY (c:=c) (sl:=sl) hs hg1 hw6 hw hW sd (a:=a) hl;unfold qL
 by_cases he:tw s w vs a=0
 ·rw[af (by simpa using he)]
  rw[he]at hwt;obtain⟨f2,f3,f4,-⟩:=Si he;obtain⟨g1,g2,g3⟩:=ED f2;obtain⟨i0,rfl⟩: ∃i:Nat,a=i:=⟨a.toNat,oO⟩;rw[Int.toNat_natCast];have hCo:=fun(i:Nat) (hi:i<=2147483647)=>Jm hp (vs:=vs) (sd:=sd) (i:=i) g1 hi hl hsd
  have hRe:=fun(ms:List Int) (ch:Nat) (hml:ms.length=s.vars.length) (hch:ch<num c)=>F2 hp f3 hml hch f4
  have hMf:=fun(i:Nat) (hi:i<=2147483647) (ms:List Int)=>yM hp (sd:=sd) (i:=i) g1 hi hl (ms:=ms)
  have hCh:=fun(fs:List Bytes)=>xW hr hbd hx (fs:=fs)
  have hB:=fun(i:Nat) (hi:i<=2147483647)=>Pj (vs:=vs) (a:=i) sd (Nf g1 hi) hl
  have hmI:=UK hs;have hii: ∀ms:List Int,sG s ms≠[]/\(sG s ms).length<=900:=fun ms=>by
   have:=Ch s ms;have ne:=hs.ne;exact⟨fun h=>h00 (iZ.1 (by rw[<-this,h];rfl)),oO⟩
  obtain⟨R0,hR0⟩: ∃R0,R0=qM c sl ctx s w vs sd 64 i0:=⟨_,rfl⟩;rw[<-hR0];obtain⟨gs,us,es⟩:=s;simp only[X0,cY.pv]at hn hwt hCo hRe hCh hMf hg1⊢;subst hg1;obtain⟨oq,hoq⟩: ∃oq,oq=bZ [(m,o)]:=⟨_,rfl⟩;simp only[br,bH,gV,<-hoq]at hn hwt hCo hRe hCh hMf f4⊢;refine eW call43 func43 ?_;refine zl2 @hn @hwt ?_;refine aq (α:=Nat×Nat) (fun p=>64-p.1) (fun p=>⟨[(1, .v (.s ctx)),(3, .v (.sl (w.map Zp))),(5, .v (.sl [])),(7, .p 1000 0 0),(9, .p 1001 0 0),(11, .p 1002 0 0),(13, .p 1003 0 0),(14, .p 1004 0 0),(15, .p 1005 0 0),(17, .p 1014 0 0),(50,E' p.1)],[(1000,⟨0,[.v (.s c), .v (.s sl)],false,none⟩),(1001,⟨0,[.v (.sl [G m o]), .v (.sl (us.map dE)), .v (.sl (es.map dS.pv))],false,none⟩),(1002,⟨0,[.v (.sl []), .v (.sl [])],false,none⟩),(1003,⟨0,[.v (.sl (vs.map .s)), .v (.s sd), .v (.i .i64 ((p.2:Nat):Int))],false,none⟩),(1004,⟨0,[.v (.s []), .sn, .sn, .sn],false,some 50⟩),(1005,⟨0,[.sn, .v (.s []), .v (.i .i64 0)],false,some 56⟩),(1014,⟨0,[.v (.s c), .v (.s sl), .v (.sl [G m o]), .v (.sl (us.map dE)), .v (.sl (es.map dS.pv)), .v (.sl []), .v (.sl []), .v (.s [])],false,some 158⟩)],1028⟩) (fun p=>p.1<=64/\p.2<=2147483647/\R0=qM c sl ctx ⟨[(m,o)],us,es⟩ w vs sd (64-p.1) p.2) (0,i0) (fun _=>fk rfl) ⟨aT _,oO,hR0⟩ ?_ ?_
  ·exact lE
  ·clear hn hwt hR0 he f2;rintro⟨k,i⟩ ⟨hk,hi,hR0⟩ R hR;simp only at hk hi hR0
   by_cases hlt:k<64
   ·obtain⟨q,hq⟩: ∃q,64-k=q+1:=⟨63-k,oO⟩;rw[hq,qM]at hR0;simp only[<-hoq]at hR0;have hCo:=hCo i hi
    cases hM:mA oq c sl vs sd us i []with
    |error e=>
     simp only[hM]at hR0 hCo;subst hR0;have he:(e !=0)=true:=by rcases yL hM with rfl|rfl<;>rfl
     simp only[Mv]at hCo;clear hR;exact ot @he @hCo
    |ok ms=>
     simp only[hM]at hR0 hCo;simp only[Mv]at hCo;obtain⟨m1,m2,m3,m4⟩:=hMf i hi ms hM;have hii:=hii ms;have hCh:=hCh (sG ⟨[(m,o)],us,es⟩ ms) hii.1 hii.2 (fun x hx=>by have:=(hmI _ x hx).1;omega)
     have hlc:=BC (J8 ctx ⟨[(m,o)],us,es⟩ (sG ⟨[(m,o)],us,es⟩ ms)) hr.c2;have hRe:=hRe ms _ m1 hlc m2;generalize iV (J8 ctx ⟨[(m,o)],us,es⟩ (sG ⟨[(m,o)],us,es⟩ ms)) c=z at*;have hB:=hB (i+us.length) m3;generalize sG ⟨[(m,o)],us,es⟩ ms=L at*;unfold Hc at hRe
     by_cases hin:Cj oq c sl us (fR oq us ms w z)=true
     ·rw[ah hin]at hR0 hRe;subst hR0;generalize fR oq us ms w z=rs at*;clear hR hMf m2 m4 hmI hM f4;exact z4 @hCo @hB @hCh @hRe
     ·rw[af hin]at hR0 hRe;have hgo:=hR (k+1,i+us.length) ⟨oO,m3,by rw[show 64-(k+1)=q by omega];exact hR0⟩ (by simp only;omega)
      clear hR hMf m2 m4 hmI hM f4;exact zg4 @hgo @hCo @hB @hCh @hRe
   ·obtain rfl:k=64:=oO;simp only[iX,qM]at hR0;subst hR0;clear hR hRe hCh hCo hMf hB;exact z0
 ·rw[ah he];have hb:(tw s w vs a==0)=false:=by simpa using he
  have hb2:(tw s w vs a !=0)=true:=by simpa using he
  generalize tw s w vs a=e at*;obtain⟨gs,us,es⟩:=s;simp only[X0,cY.pv]at hn hwt⊢;refine eW call43 func43 ?_;exact wq (aN @hb @hb2) @hn @hwt
