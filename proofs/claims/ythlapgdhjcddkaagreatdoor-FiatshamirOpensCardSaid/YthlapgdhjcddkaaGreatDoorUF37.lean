/- Part of the proof. -/
import Derived.Test.YthlapgdhjcddkaaGreatDoorUF35
set_option linter.all false
set_option maxHeartbeats 16000000
set_option maxRecDepth 100000
namespace Go.Proofs.Tryz
open Go Go.Dom Go.Num
variable {c ch ctx o sl st:Bytes} {fs vs:List Bytes}
def P5:Bytes:=[108,101,97,102]
def kU (l:List Bytes):PV:= .sl (l.map .s)
def qz (t:Bytes) (l:List Bytes):Bytes:=cY t P5 l
def WN (ctx:Bytes) (s:aT) (tx:Bytes) (cl:ik) (fs:List Bytes) (lss:List (List Bytes)):Bytes:=lss.foldl qz (cY (cl.leaves.foldl gn (cZ (gn (cZ (mG sK) uY ctx) s) GD tx)) GF fs)
theorem pP {l:List aT} (hs:st.length=32):(l.foldl gn st).length=32:=by
 induction l generalizing st with
 |nil=>exact hs
 |cons s l ih=>exact ih ti
theorem rK {l:List (List Bytes)} (hs:st.length=32):(l.foldl qz st).length=32:=by
 induction l generalizing st with
 |nil=>exact hs
 |cons s l ih=>exact ih (cL _ _ _)
theorem tj (vc:ae c=true) (c0:c≠[]) (lc:c.length<=8) {s:aT} (hb:Ux s) {cl:ik} (hl:cl.leaves.length<1000000) (hB: ∀s∈cl.leaves,Ux s) {tx:Bytes} (ht:tx.length<=100000) (hT:aH 78 [E6 cl.gates] (.tup [.s tx,E 0])) (hx:ctx.length<=100000) (fn:fs.length<=900) (fl: ∀x∈fs,x.length<=100000) {lss:List (List Bytes)} (ln:lss.length<1000000) (ll: ∀l∈lss,l.length<=900/\ ∀x∈l,x.length<=100000):
  aH 34 [XC c sl s cl, .s ctx, .sl (fs.map .s), .sl (lss.map kU)] (.tup [N (ic (WN ctx s tx cl fs lss) c),E 0]):=by
 have n1:=Ue sK oC;have n2:=lW (mG sK) uY ctx (by rw[C2];decide) oC hx
 have n3:=Uz (st:=cZ (mG sK) uY ctx) (by rw[dT];decide) hb
 have n4:=lW (gn (cZ (mG sK) uY ctx) s) GD tx (by rw[ti];decide) oC ht
 have l4:=dT (gn (cZ (mG sK) uY ctx) s) GD tx;unfold WN;generalize cZ (gn (cZ (mG sK) uY ctx) s) GD tx=s4 at*;generalize gn (cZ (mG sK) uY ctx) s=s3 at*;have n5:=Ed (cl.leaves.foldl gn s4) GF fs (by rw[pP l4];decide) oC fn fl
 have l5:=cL (cl.leaves.foldl gn s4) GF fs;have n6:=fun s6 (h6:s6.length=32)=>BQ s6 c oO vc c0 lc
 obtain⟨gs,vs,es⟩:=s;obtain⟨lv,G⟩:=cl;simp only[XC,aT.pv]at*;generalize bY lv=q at*;have k1:(lv.map aT.pv).length=lv.length:=au ..;have k2:(lss.map kU).length=lss.length:=au ..;refine eW call34 func34 ?_;refine Hb @k1 @n1 @n2 @n3 @n4 @hT oT oT ?_;refine ah (α:=Nat) (fun i=>lv.length-i) (fun i=>⟨[(4, .p 1000 0 0),(2, .v (.sl (fs.map .s))),(3, .v (.sl (lss.map kU))),(10, .v (.s ((lv.take i).foldl gn s4))),(36, .v (.sl (lv.map aT.pv))),(37,E' lv.length),(38,E' i)],[(1000,⟨0,[.v (.s c), .v (.s sl), .v (.sl (gs.map cz)), .v (.sl (vs.map bO)), .v (.sl (es.map bZ.pv)), .v (.sl (lv.map aT.pv)), .v (.sl (G.map Gt.pv)), .v (.s q)],false,none⟩)],_⟩) (fun i=>i<=lv.length) 0 (fun _=>aA _) (aD _) ?_ ?_
 ·(refine AS.Le.of (by first|decide|omega) ?_ ?_<;>simp[cU,cT,aO,az,AV.bd,AV.bd.bdL,u8,aj,ak,an])
  all_goals rfl
 ·intro i hi R hR
  by_cases hit:i<lv.length
  ·have e2:=getD_map aT.pv lv cC hit;have hgo:=hR (i+1) oO oO;rw[dB gn s4 cC hit]at hgo;have hB1:=hB _ (ai cC hit);have hX:=pP (l:=lv.take i) l4;generalize (lv.take i).foldl gn s4=X at hgo hX⊢;have c5:=Uz (st:=X) oO hB1;generalize lv.getD i cC=s' at*;obtain⟨gs',vs',es'⟩:=s';simp only[aT.pv]at e2 c5;clear hR n5 n6;refine gR (aN @k1 @e2) @c5 ?_;refine hgo _ ?_
   (refine AS.Le.of (by first|decide|omega) ?_ ?_<;>simp[cU,cT,aO,az,AV.bd,AV.bd.bdL,u8,aj,ak,an])
   all_goals first|omega|skip
  ·obtain rfl:i=lv.length:=oO;rw[bm];clear hR hB;refine gR (aN @k1 @k2) @n5 ?_;generalize cY (lv.foldl gn s4) GF fs=s5 at*;clear n1 n2 n3 n4 n5 hT;refine ah (α:=Nat) (fun j=>lss.length-j) (fun j=>⟨[(4, .p 1000 0 0),(10, .v (.s ((lss.take j).foldl qz s5))),(49, .v (.sl (lss.map kU))),(50,E' lss.length),(51,E' j)],[(1000,⟨0,[.v (.s c), .v (.s sl), .v (.sl (gs.map cz)), .v (.sl (vs.map bO)), .v (.sl (es.map bZ.pv)), .v (.sl (lv.map aT.pv)), .v (.sl (G.map Gt.pv)), .v (.s q)],false,none⟩)],_⟩) (fun j=>j<=lss.length) 0 (fun _=>aA _) (aD _) ?_ ?_
   ·(refine AS.Le.of (by first|decide|omega) ?_ ?_<;>simp[cU,cT,aO,az,AV.bd,AV.bd.bdL,u8,aj,ak,an])
    all_goals rfl
   ·intro j hj R hR
    by_cases hjt:j<lss.length
    ·have e2:=getD_map kU lss ([]:List Bytes) hjt;have hgo:=hR (j+1) oO oO;rw[dB qz s5 ([]:List Bytes) hjt]at hgo;obtain⟨b1,b2⟩:=ll _ (ai ([]:List Bytes) hjt);have hX:=rK (l:=lss.take j) l5;generalize (lss.take j).foldl qz s5=X at hgo hX⊢;generalize lss.getD j []=y at*;have c5:=Ed X P5 y oO oC b1 b2;simp only[kU]at e2;simp only[qz]at hgo;clear hR n6;refine gR (aN @k2 @e2) @c5 ?_;refine hgo _ ?_
     (refine AS.Le.of (by first|decide|omega) ?_ ?_<;>simp[cU,cT,aO,az,AV.bd,AV.bd.bdL,u8,aj,ak,an])
     all_goals first|omega|skip
    ·obtain rfl:j=lss.length:=oO;rw[bm];have n7:=n6 _ (rK (l:=lss) l5);generalize lss.foldl qz s5=s6 at*;clear hR n6;exact iE @k2 @n7
theorem YM.n {s:aT} (h:YM s):Ux s:=by
 obtain⟨⟨m,o,hg,lm,lo⟩,v0,nv,hv,ne,hq⟩:=h;refine⟨by rw[hg];simp,fun g h=> ?_,oO,hv,oO,fun q hq'=> ?_⟩
 ·rw[hg]at h;obtain rfl:=fa.1 h;exact⟨lm,lo⟩
 ·obtain⟨a,b,c,d,e⟩:=hq q hq';exact⟨a,b,c,oO,e⟩
theorem zO (hr:we c sl) {s:aT} (hb:YM s) (hx:ctx.length<=100000) (f0:fs≠[]) (fn:fs.length<=900) (fl: ∀x∈fs,x.length<=100000):
  aH 34 [X0 c sl s, .s ctx, .sl (fs.map .s), .sl []] (.tup [N (ic (L3 ctx s fs) c),E 0]):=by
 have c0:c≠[]:=by
  intro h;have:=hr.c2;rw[h]at this;exact aJ this oC
 exact tj hr.vc c0 hr.lc hb.n (cl:=⟨[],[]⟩) oC (fun s h=>by cases h) (tx:=[]) oC WK hx fn fl (lss:=[]) oC (fun l h=>by cases h)
theorem abl (b:Bytes):aH 127 [bO b] (.s (if b=[]then([]:Bytes)else b)):=by
 have h:=Um b;split
 ·rename_i g;subst g;exact h
 ·exact h
theorem abm (m:Bytes) (h:o≠[]):aH 128 [.sl [G m o], .fn (.func 129)] (E 0):=by
 have hb:(o !=([]:Bytes))=true:=by simpa using h
 have hb2:(o==([]:Bytes))=false:=by simpa using h
 have h:aH 129 [G m o] (.b true):=by
  refine eW call129 func129 ?_;exact fz (aN @hb @hb2)
 refine eW call128 func128 ?_;refine pO ?_;refine aq ?_;exact z1 @h
theorem abn (b o:Bytes):aH 130 [bO b, .pt (.agg [.s o]) 0] (.s (if b=[]then o else b)):=by
 unfold bO
 by_cases h:b=[]
 ·subst h;refine eW call130 func130 ?_;exact fz @nn
 ·have hb:(b==([]:Bytes))=false:=by simpa using h
  rw[aa h];refine eW call130 func130 ?_;exact fz @hb
noncomputable def yc (s:aT) (w:List Int) (vs:List Bytes) (a:Int):Int:=if !kj vs a then 3 else if w.length≠s.vars.length then 6 else if !DC (ba s.groups) s.vars w then 2 else if !FT s w then 18 else 0
theorem QE {s:aT} (hs:xq s) {m o:Bytes} (hg1:s.groups=[(m,o)]) {w:List Int} (hw6:w.length<1000000) (hw: ∀x∈w,x.natAbs<ek) (hW:DC (ba s.groups) s.vars w=true->WS s w) (sd:Bytes) {a:Int} (hl:vs.length<1000000):aH 65 [X0 c sl s, .sl (w.map Zp), .sl [],T vs sd a] (E (yc s w vs a)):=by
 have v1:=fL (w.map iB) _ _ (by rw[au];omega) Ul
 rw[im,yC hw,ZpI]at v1;have v2:=kV [] 125 [.pt (.agg [.fn (.func 121)]) 0] (fun _=>true) oC (fun x hx=>by cases hx)
 rw[show(([]:List (List (Bool×Bytes))).any fun _=>true)=false from rfl]at v2
 have v3:=Ze sd (a:=a) hl;have nv:=hs.nv;have hb:=hs.v;have hh:=fun h=>Cv hs (w:=w) h hw hW
 have hoV:=dZ hs.g;have hnb: ∀b∈s.vars,ba s.groups=[]->b≠[]:=fun b h1 h2 h3=>DE hs (h3▸h1) h2
 obtain⟨gs,us,es⟩:=s;simp only at hg1 nv hb hh hoV hnb;subst hg1;have l2:(us.map bO).length=us.length:=au ..;have l5:(w.map Zp).length=w.length:=au ..;have ho:ba [(m,o)]=o:=by
  by_cases h:o=[]
  ·subst h;rfl
  ·simp[ba,h]
 rw[ho]at hh hoV hnb;unfold yc;simp only[ho,X0,aT.pv,b8,cb,cz]at hh v2⊢;clear hs hW
 cases hg:kj vs a with
 |false=>
  rw[hg]at v3;simp only[dW,dy,aC];refine eW call65 func65 ?_;repeat' first|simp only[go_sem,seval,aW]|refine cP v1 ?_|refine cV v2 ?_|refine cP v3 ?_|refine cP Da ?_|refine oE ?_|apply xX<;>intro hc
  all_goals rfl
 |true=>
  rw[hg]at v3;simp only[dy,cE,aB]
  by_cases hwl:w.length=us.length
  ·rw[aa (by simpa using hwl)]
   have hh:=hh hwl;have hI: ∀ _:True,((w.length:Int) !=us.length)=false:=fun _=>by rw[hwl];simp
   by_cases ho0:o=[]
   ·have v4:=Un m;subst ho0;refine eW call65 func65 ?_;repeat' first|simp only[go_sem,seval,aW,l2,l5,hI oT]|refine cP v1 ?_|refine cV v2 ?_|refine cP v3 ?_|refine cP Da ?_|refine cP v4 ?_|refine oE ?_|apply xX<;>intro hc
    refine ah (α:=Nat) (fun i=>us.length-i) (fun i=>⟨[(1, .v (.sl (w.map Zp))),(2, .v (.sl [])),(4, .p 1000 0 0),(13, .v (.fn (.func 127))),(76, .v (.sl (us.map bO))),(77,E' us.length),(78,E' i)],[(1000,⟨0,[.v (.s c), .v (.s sl), .v (.sl [G m []]), .v (.sl (us.map bO)), .v (.sl (es.map bZ.pv)), .v (.sl []), .v (.sl []), .v (.s [])],false,none⟩)],_⟩) (fun i=>i<=us.length/\ ∀j,j<i->jJ (us.getD j []) (w.getD j 0) (gJ [] (us.getD j []))=true) 0 (fun _=>aA _) ⟨aD _,fun j hj=>oO⟩ ?_ ?_
    ·exact lE
    ·rintro i ⟨hi,hlts⟩ R hR;clear v1 v2 v3
     by_cases hlt:i<us.length
     ·have e1:=getD_map bO us [] hlt;have e2:=getD_map Zp w 0 (i:=i) oO;have kb:=hb _ (ai [] hlt);have kw:=hw _ (ai 0 (show i<w.length by omega))
      have hv0:=hnb _ (ai [] hlt);have hgo:=fun h=>hR (i+1) ⟨oO,h⟩ oO
      have hbad:=fun h: ¬jJ (us.getD i []) (w.getD i 0) (gJ [] (us.getD i []))=true=>n8 (p:=fun i=>jJ (us.getD i []) (w.getD i 0) (gJ [] (us.getD i []))) hlt (dR.2 h)
      have hnx:jJ (us.getD i []) (w.getD i 0) (gJ [] (us.getD i []))=true-> ∀j,j<i+1->jJ (us.getD j []) (w.getD j 0) (gJ [] (us.getD j []))=true:=fun h j hj=>by
       by_cases hji:j<i
       ·exact hlts j hji
       ·obtain rfl:j=i:=oO;exact h
      rw[<-DC]at hbad;clear hR hlts hh;generalize us.getD i []=b at*;generalize w.getD i 0=x at*;have hz:=tC kw;simp only[iB,cr,bc]at hz;have hc:=nA hz.1 (show ae (if b=[]then[]else b)=true by split;exact hoV.1;exact kb.1)
      have hbl:num (if b=[]then[]else b)=gJ [] b:=by unfold gJ;split<;>rfl
      rw[wO,hbl]at hc;have h3:=abl b;have hd:decide (a7 x.natAbs (gJ [] b)>=0)= !decide (x.natAbs<gJ [] b):=WQ _ _;have hzs:zs x=decide (x<0):=rfl;simp only[bO]at e1 h3;simp only[Zp,ca,iB]at e2;unfold jJ at hbad hnx;clear hbl kb kw hz;generalize a7 x.natAbs (gJ [] b)=cm at*;generalize decide (x.natAbs<gJ [] b)=p at*;generalize decide (x<0)=q at*;generalize (if b=[]then[]else b)=y at*
      have hbb:(b==[])=decide (b=[]):=by rw[cu,fK,a8]
      generalize decide (b=[])=b0 at*;cases p
      ·rw[hbad (by simp)]
       simp only[dW,aC];repeat' first|simp only[go_sem,seval,aW,l2,l5,e1,e2,hbb,hd,hzs]|refine cP h3 ?_|refine cV h3 ?_|refine cP hc ?_|refine oE ?_|apply xX<;>intro hc
       all_goals rfl
      ·cases b0
       ·have hgo:=hgo (hnx (by simp))
        repeat' first|simp only[go_sem,seval,aW,l2,l5,e1,e2,hbb,hd,hzs]|refine cP h3 ?_|refine cV h3 ?_|refine cP hc ?_|refine oE ?_|apply xX<;>intro hc
        refine hgo _ ?_;exact lE
       ·cases q
        ·have hgo:=hgo (hnx (by simp))
         repeat' first|simp only[go_sem,seval,aW,l2,l5,e1,e2,hbb,hd,hzs]|refine cP h3 ?_|refine cV h3 ?_|refine cP hc ?_|refine oE ?_|apply xX<;>intro hc
         refine hgo _ ?_;exact lE
        ·rw[hbad (by simp)]
         simp only[dW,aC];repeat' first|simp only[go_sem,seval,aW,l2,l5,e1,e2,hbb,hd,hzs]|refine cP h3 ?_|refine cV h3 ?_|refine cP hc ?_|refine oE ?_|apply xX<;>intro hc
         all_goals rfl
     ·obtain rfl:i=us.length:=oO;have hg:DC [] us w=true:=nu fun j hj=>hlts j hj
      rw[hg,bE]at hh;rw[hg];simp only[dy,cE,aB];clear hR hlts hb;generalize FT ⟨[(m,[])],us,es⟩ w=b at*;cases b
      ·exact YK @hh @zD
      ·exact YK @hh @zD
   ·have v4:=abm m ho0;refine eW call65 func65 ?_;repeat' first|simp only[go_sem,seval,aW,l2,l5,hI oT]|refine cP v1 ?_|refine cV v2 ?_|refine cP v3 ?_|refine cP Da ?_|refine cP v4 ?_|refine oE ?_|apply xX<;>intro hc
    refine ah (α:=Nat) (fun i=>us.length-i) (fun i=>⟨[(1, .v (.sl (w.map Zp))),(2, .v (.sl [])),(4, .p 1000 0 0),(13, .fn (.func 130) [] [.p 1057 0 0]),(76, .v (.sl (us.map bO))),(77,E' us.length),(78,E' i)],[(1000,⟨0,[.v (.s c), .v (.s sl), .v (.sl [G m o]), .v (.sl (us.map bO)), .v (.sl (es.map bZ.pv)), .v (.sl []), .v (.sl []), .v (.s [])],false,none⟩),(1057,⟨0,[.v (.s o)],false,some 22⟩)],_⟩) (fun i=>i<=us.length/\ ∀j,j<i->jJ (us.getD j []) (w.getD j 0) (gJ o (us.getD j []))=true) 0 (fun _=>aA _) ⟨aD _,fun j hj=>oO⟩ ?_ ?_
    ·exact lE
    ·rintro i ⟨hi,hlts⟩ R hR;clear v1 v2 v3
     by_cases hlt:i<us.length
     ·have e1:=getD_map bO us [] hlt;have e2:=getD_map Zp w 0 (i:=i) oO;have kb:=hb _ (ai [] hlt);have kw:=hw _ (ai 0 (show i<w.length by omega))
      have hv0:=hnb _ (ai [] hlt);have hgo:=fun h=>hR (i+1) ⟨oO,h⟩ oO
      have hbad:=fun h: ¬jJ (us.getD i []) (w.getD i 0) (gJ o (us.getD i []))=true=>n8 (p:=fun i=>jJ (us.getD i []) (w.getD i 0) (gJ o (us.getD i []))) hlt (dR.2 h)
      have hnx:jJ (us.getD i []) (w.getD i 0) (gJ o (us.getD i []))=true-> ∀j,j<i+1->jJ (us.getD j []) (w.getD j 0) (gJ o (us.getD j []))=true:=fun h j hj=>by
       by_cases hji:j<i
       ·exact hlts j hji
       ·obtain rfl:j=i:=oO;exact h
      rw[<-DC]at hbad;clear hR hlts hh;generalize us.getD i []=b at*;generalize w.getD i 0=x at*;have hz:=tC kw;simp only[iB,cr,bc]at hz;have hc:=nA hz.1 (show ae (if b=[]then o else b)=true by split;exact hoV.1;exact kb.1)
      have hbl:num (if b=[]then o else b)=gJ o b:=by unfold gJ;split<;>rfl
      rw[wO,hbl]at hc;have h3:=abn b o;have hd:decide (a7 x.natAbs (gJ o b)>=0)= !decide (x.natAbs<gJ o b):=WQ _ _;have hzs:zs x=decide (x<0):=rfl;simp only[bO]at e1 h3;simp only[Zp,ca,iB]at e2;unfold jJ at hbad hnx;clear hbl kb kw hz;generalize a7 x.natAbs (gJ o b)=cm at*;generalize decide (x.natAbs<gJ o b)=p at*;generalize decide (x<0)=q at*;generalize (if b=[]then o else b)=y at*
      have hbb:(b==[])=decide (b=[]):=by rw[cu,fK,a8]
      generalize decide (b=[])=b0 at*;cases p
      ·rw[hbad (by simp)]
       simp only[dW,aC];repeat' first|simp only[go_sem,seval,aW,l2,l5,e1,e2,hbb,hd,hzs]|refine cP h3 ?_|refine cV h3 ?_|refine cP hc ?_|refine oE ?_|apply xX<;>intro hc
       all_goals rfl
      ·cases b0
       ·have hgo:=hgo (hnx (by simp))
        repeat' first|simp only[go_sem,seval,aW,l2,l5,e1,e2,hbb,hd,hzs]|refine cP h3 ?_|refine cV h3 ?_|refine cP hc ?_|refine oE ?_|apply xX<;>intro hc
        refine hgo _ ?_;exact lE
       ·cases q
        ·have hgo:=hgo (hnx (by simp))
         repeat' first|simp only[go_sem,seval,aW,l2,l5,e1,e2,hbb,hd,hzs]|refine cP h3 ?_|refine cV h3 ?_|refine cP hc ?_|refine oE ?_|apply xX<;>intro hc
         refine hgo _ ?_;exact lE
        ·rw[hbad (by simp)]
         simp only[dW,aC];repeat' first|simp only[go_sem,seval,aW,l2,l5,e1,e2,hbb,hd,hzs]|refine cP h3 ?_|refine cV h3 ?_|refine cP hc ?_|refine oE ?_|apply xX<;>intro hc
         all_goals rfl
     ·obtain rfl:i=us.length:=oO;have hg:DC o us w=true:=nu fun j hj=>hlts j hj
      rw[hg,bE]at hh;rw[hg];simp only[dy,cE,aB];clear hR hlts hb;generalize FT ⟨[(m,o)],us,es⟩ w=b at*;cases b
      ·exact YK @hh @zD
      ·exact YK @hh @zD
  ·rw[af hwl];have e6:((w.length:Int) !=us.length)=true:=by rw[bne_iff_ne];omega
   refine eW call65 func65 ?_;repeat' first|simp only[go_sem,seval,aW,l2,l5,e6]|refine cP v1 ?_|refine cV v2 ?_|refine cP v3 ?_|refine cP Da ?_|refine oE ?_|apply xX<;>intro hc
   all_goals rfl
noncomputable def Eg (c sl ctx:Bytes) (s:aT) (w:List Int) (vs:List Bytes) (sd:Bytes):Nat->Nat->Except Int (Bytes×List Int×Nat)
 |0,_=> .error 15
 |k+1,i=>match pY (ba s.groups) c sl vs sd s.vars i []with
  | .error e=> .error e
  | .ok ms=>
   if FW (ba s.groups) c sl s.vars (gO (ba s.groups) s.vars ms w (ic (L3 ctx s (wE s ms)) c))then .ok (b7 (ic (L3 ctx s (wE s ms)) c),gO (ba s.groups) s.vars ms w (ic (L3 ctx s (wE s ms)) c),i+s.vars.length)else Eg c sl ctx s w vs sd k (i+s.vars.length)
noncomputable def Lq (c sl ctx:Bytes) (s:aT) (w:List Int) (vs:List Bytes) (sd:Bytes) (a:Int):Except Int (Bytes×List Int×Nat):=
 if yc s w vs a≠0 then .error (yc s w vs a)else Eg c sl ctx s w vs sd 64 a.toNat
theorem Uo {s:aT} {w:List Int} {a:Int} (h:yc s w vs a=0):kj vs a=true/\w.length=s.vars.length/\DC (ba s.groups) s.vars w=true/\FT s w=true:=by
 unfold yc at h
 split at h
 ·cases h
 ·rename_i h1
  split at h
  ·cases h
  ·rename_i h2
   split at h
   ·cases h
   ·rename_i h3
    split at h
    ·cases h
    ·rename_i h4;exact⟨by simpa using h1,by simpa using h2,by simpa using h3,by simpa using h4⟩
theorem WT {s:aT} (hs:xq s) (w:List Int): ∀x∈wE s w,x.length<=8/\ae x=true:=by
 intro x hx;obtain⟨q,hq,rfl⟩:=cx.1 hx;obtain⟨q1,q2,-⟩:=hs.q q hq;have hg:=hs.g _ (ai dL (show q.ig.toNat<s.groups.length by omega))
 have hm:=(nD hg.1).2.2.1;have hlt:L5 s.groups w q<256^8:=by
  unfold L5 Q2;exact j5 (aV _ oO) (ga hg.2.1)
 exact⟨lQ.2 hlt,vN hlt⟩
theorem Mk {s:aT} (hp:xQ c sl s) (hbd:YM s) (h00:s.eqs≠[]) {m o:Bytes} (hg1:s.groups=[(m,o)]) (hx:ctx.length<=100000) {w:List Int} (hw6:w.length<1000000) (hw: ∀x∈w,x.natAbs<ek) (hW:DC (ba s.groups) s.vars w=true->WS s w) {sd:Bytes} {a:Int} (hl:vs.length<1000000) (hsd:sd.length<1000000):
  aH 27 [.agg [.s c, .s sl], .s ctx,s.pv, .sl (w.map Zp),C0, .sl [],T vs sd a] (acK vs sd (Lq c sl ctx s w vs sd a)):=by
 have hr:=hp.r;have hs:=hp.g;have hn:=re hp;have hwt:=QE (c:=c) (sl:=sl) hs hg1 hw6 hw hW sd (a:=a) hl;unfold Lq
 by_cases he:yc s w vs a=0
 ·rw[aa (by simpa using he)]
  rw[he]at hwt;obtain⟨f2,f3,f4,-⟩:=Uo he;obtain⟨g1,g2,g3⟩:=NX f2;obtain⟨i0,rfl⟩: ∃i:Nat,a=i:=⟨a.toNat,oO⟩;rw[Int.toNat_natCast];have hCo:=fun(i:Nat) (hi:i<=2147483647)=>Kc hp (vs:=vs) (sd:=sd) (i:=i) g1 hi hl hsd
  have hRe:=fun(ms:List Int) (ch:Nat) (hml:ms.length=s.vars.length) (hch:ch<num c)=>Hi hp f3 hml hch f4
  have hMf:=fun(i:Nat) (hi:i<=2147483647) (ms:List Int)=>AA hp (sd:=sd) (i:=i) g1 hi hl (ms:=ms)
  have hCh:=fun(fs:List Bytes)=>zO hr hbd hx (fs:=fs)
  have hB:=fun(i:Nat) (hi:i<=2147483647)=>Re (vs:=vs) (a:=i) sd (NW g1 hi) hl
  have hmI:=WT hs;have hii: ∀ms:List Int,wE s ms≠[]/\(wE s ms).length<=900:=fun ms=>by
   have:=yr s ms;have ne:=hs.ne;exact⟨fun h=>h00 (dt.1 (by rw[<-this,h];rfl)),oO⟩
  obtain⟨R0,hR0⟩: ∃R0,R0=Eg c sl ctx s w vs sd 64 i0:=⟨_,rfl⟩;rw[<-hR0];obtain⟨gs,us,es⟩:=s;simp only[X0,aT.pv]at hn hwt hCo hRe hCh hMf hg1⊢;subst hg1;obtain⟨oq,hoq⟩: ∃oq,oq=ba [(m,o)]:=⟨_,rfl⟩;simp only[b8,cb,cz,<-hoq]at hn hwt hCo hRe hCh hMf f4⊢;refine eW call27 func27 ?_;refine zl2 @hn @hwt ?_;refine ah (α:=Nat×Nat) (fun p=>64-p.1) (fun p=>⟨[(1, .v (.s ctx)),(3, .v (.sl (w.map Zp))),(5, .v (.sl [])),(7, .p 1000 0 0),(9, .p 1001 0 0),(11, .p 1002 0 0),(13, .p 1003 0 0),(14, .p 1004 0 0),(15, .p 1005 0 0),(17, .p 1014 0 0),(50,E' p.1)],[(1000,⟨0,[.v (.s c), .v (.s sl)],false,none⟩),(1001,⟨0,[.v (.sl [G m o]), .v (.sl (us.map bO)), .v (.sl (es.map bZ.pv))],false,none⟩),(1002,⟨0,[.v (.sl []), .v (.sl [])],false,none⟩),(1003,⟨0,[.v (.sl (vs.map .s)), .v (.s sd), .v (.i .i64 ((p.2:Nat):Int))],false,none⟩),(1004,⟨0,[.v (.s []), .sn, .sn, .sn],false,some 52⟩),(1005,⟨0,[.sn, .v (.s []), .v (.i .i64 0)],false,some 82⟩),(1014,⟨0,[.v (.s c), .v (.s sl), .v (.sl [G m o]), .v (.sl (us.map bO)), .v (.sl (es.map bZ.pv)), .v (.sl []), .v (.sl []), .v (.s [])],false,some 86⟩)],1028⟩) (fun p=>p.1<=64/\p.2<=2147483647/\R0=Eg c sl ctx ⟨[(m,o)],us,es⟩ w vs sd (64-p.1) p.2) (0,i0) (fun _=>cd rfl) ⟨aD _,oO,hR0⟩ ?_ ?_
  ·exact lE
  ·clear hn hwt hR0 he f2;rintro⟨k,i⟩ ⟨hk,hi,hR0⟩ R hR;simp only at hk hi hR0
   by_cases hlt:k<64
   ·obtain⟨q,hq⟩: ∃q,64-k=q+1:=⟨63-k,oO⟩;rw[hq,Eg]at hR0;simp only[<-hoq]at hR0;have hCo:=hCo i hi
    cases hM:pY oq c sl vs sd us i []with
    |error e=>
     simp only[hM]at hR0 hCo;subst hR0;have he:(e !=0)=true:=by rcases Gb hM with rfl|rfl<;>rfl
     simp only[Ni]at hCo;clear hR;exact iE @he @hCo
    |ok ms=>
     simp only[hM]at hR0 hCo;simp only[Ni]at hCo;obtain⟨m1,m2,m3,m4⟩:=hMf i hi ms hM;have hii:=hii ms;have hCh:=hCh (wE ⟨[(m,o)],us,es⟩ ms) hii.1 hii.2 (fun x hx=>by have:=(hmI _ x hx).1;omega)
     have hlc:=CZ (L3 ctx ⟨[(m,o)],us,es⟩ (wE ⟨[(m,o)],us,es⟩ ms)) hr.c2;have hRe:=hRe ms _ m1 hlc m2;generalize ic (L3 ctx ⟨[(m,o)],us,es⟩ (wE ⟨[(m,o)],us,es⟩ ms)) c=z at*;have hB:=hB (i+us.length) m3;generalize wE ⟨[(m,o)],us,es⟩ ms=L at*;unfold Ip at hRe
     by_cases hin:FW oq c sl us (gO oq us ms w z)=true
     ·rw[af hin]at hR0 hRe;subst hR0;generalize gO oq us ms w z=rs at*;clear hR hMf m2 m4 hmI hM f4;exact z4 @hCo @hB @hCh @hRe
     ·rw[aa hin]at hR0 hRe;have hgo:=hR (k+1,i+us.length) ⟨oO,m3,by rw[show 64-(k+1)=q by omega];exact hR0⟩ (by simp only;omega)
      clear hR hMf m2 m4 hmI hM f4;exact zg4 @hgo @hCo @hB @hCh @hRe
   ·obtain rfl:k=64:=oO;simp only[gD,Eg]at hR0;subst hR0;clear hR hRe hCh hCo hMf hB;exact z0
 ·rw[af he];have hb:(yc s w vs a==0)=false:=by simpa using he
  have hb2:(yc s w vs a !=0)=true:=by simpa using he
  generalize yc s w vs a=e at*;obtain⟨gs,us,es⟩:=s;simp only[X0,aT.pv]at hn hwt⊢;refine eW call27 func27 ?_;exact vV (aN @hb @hb2) @hn @hwt
def qM (b:Bytes) (x:Bool×Bytes) (L:Nat):Bool:=decide (num x.2<L)&& !(b==[]&&x.1)
theorem GG (b:Bytes) {n:Bool} {a:Bytes} (va:ae a=true) {L:Nat} (hL:L<ek):aH 112 [bO b,N L, .agg [.b n, .s a]] (.b (qM b (n,a) L)):=by
 have hc:=zS (wN va) hL;rw[fA va]at hc;have hd: ∀ _:True,decide (a7 (num a) L<0)=decide (num a<L):=fun _=>by rw[cu];simp only[a8];exact fZ
 generalize a7 (num a) L=cm at*;unfold bO qM;simp only;generalize decide (num a<L)=p at*;generalize hb:(b==([]:Bytes))=q at*
 cases p<;>cases q<;>cases n<;>
 ·refine eW call112 func112 ?_;exact iE (aN @hb (hd oT)) @hc
def DP (o c sl:Bytes) (vs:List Bytes) (l:List (Bool×Bytes)):Bool:=(List.range vs.length).all fun i=>qM (vs.getD i []) (l.getD i eT) (lR o c sl (vs.getD i []))
def cG (o c sl:Bytes) (vs:List Bytes) (ch:Bytes) (l:List (Bool×Bytes)):Int:=
 if !(ae ch&&l.all cr)then 3 else if num c<=num ch then 2 else if l.length≠vs.length then 6 else if !DP o c sl vs l then 2 else 0
noncomputable def jB (c sl:Bytes) (s:aT) (ch:Bytes) (l:List (Bool×Bytes)):List PV:=
 if cG (ba s.groups) c sl s.vars ch l=0 then s.eqs.map fun q=>N (fo s.groups ch l q)else[]
theorem Gh {l:List (Bool×Bytes)} {i:Nat} (hi:i<vs.length) (h: ¬qM (vs.getD i []) (l.getD i eT) (lR o c sl (vs.getD i []))=true):DP o c sl vs l=false:=by
 unfold DP;rw[dR];intro g;exact h (bz.1 g i (fV.2 hi))
theorem wQ {l:List (Bool×Bytes)} (h: ∀i,i<vs.length->qM (vs.getD i []) (l.getD i eT) (lR o c sl (vs.getD i []))=true):DP o c sl vs l=true:=by
 unfold DP;rw[bz];intro i hi;exact h i (fV.1 hi)
theorem D5 {s:aT} (hp:xQ c sl s) {l:List (Bool×Bytes)} (hll:l.length<1000000):aH 91 [.agg [.s c, .s sl],s.pv, .s ch, .sl (l.map ca)] (.tup [.sl (jB c sl s ch l),E (cG (ba s.groups) c sl s.vars ch l)]):=by
 have hr:=hp.r;have hs:=hp.g;have hb:=uW hp;have lo:=(dZ hs.g).2;clear hp;have vh:=aX ch;have hi:=Bh l hll;have l5:(l.map ca).length=l.length:=au ..;have l2:(s.vars.map bO).length=s.vars.length:=au ..;have l6:(s.vars.map fun b=>N (lR (ba s.groups) c sl b)).length=s.vars.length:=au ..
 have nv:=hs.nv
 by_cases g1:ae ch=true/\l.all cr=true
 case neg=>
  have e:(ae ch&&l.all cr)=false:=by rw[dR];intro g;simp at g;exact g1 ⟨g.1,by simpa[bz]using g.2⟩
  have e2:cG (ba s.groups) c sl s.vars ch l=3:=by simp only[cG,e];rfl
  rw[jB,aa (by rw[e2];decide),e2]
  clear e2 hs;unfold aT.pv at*;generalize ae ch=b1 at*;generalize l.all cr=b2 at*;refine eW call91 func91 ?_;repeat' first|simp only[go_sem,seval]|refine cP hb ?_|refine cP vh ?_|refine cP hi ?_|refine oE ?_|apply xX<;>intro hc
  all_goals (exfalso;simp_all)
 obtain⟨vc,hok⟩:=g1;rw[vc]at vh;rw[hok]at hi;have hcm:=nA vc hr.vc
 by_cases g2:num c<=num ch
 ·have e2:cG (ba s.groups) c sl s.vars ch l=2:=by simp only[cG,vc,hok];rw[aa (by simp),af g2]
  have hd: ∀ _:True,decide (a7 (num ch) (num c)>=0)=true:=fun _=>aQ (dY.2 g2)
  rw[jB,aa (by rw[e2];decide),e2]
  generalize a7 (num ch) (num c)=cm at*;clear e2 hs;unfold aT.pv at*;refine eW call91 func91 ?_;exact ry (hd oT) @hb @vh @hi @hcm
 have hd: ∀ _:True,decide (a7 (num ch) (num c)>=0)=false:=fun _=>aS (fun g=>g2 (dY.1 g))
 by_cases g3:l.length=s.vars.length
 case neg=>
  have e2:cG (ba s.groups) c sl s.vars ch l=6:=by simp only[cG,vc,hok];rw[aa (by simp),aa g2,af g3]
  rw[jB,aa (by rw[e2];decide),e2]
  generalize a7 (num ch) (num c)=cm at*;clear e2 hs;unfold aT.pv at*;refine eW call91 func91 ?_;repeat' first|simp only[go_sem,seval,hd oT,l5,l2]|refine cP hb ?_|refine cP vh ?_|refine cP hi ?_|refine cP hcm ?_|refine oE ?_|apply xX<;>intro hc
  all_goals (exfalso;omega)
 have hms:=Ir hs.m vc g3 (bz.1 hok);have hv:=hs.v;have hval: ∀x∈l,ae x.2=true:=fun x hx=>by
  have:=bz.1 hok x hx;simp only[cr,bc]at this;exact this.1
 have e0:cG (ba s.groups) c sl s.vars ch l=if !DP (ba s.groups) c sl s.vars l then 2 else 0:=by
  simp only[cG,vc,hok];rw[aa (by simp),aa g2,aa oO]
 unfold jB;rw[e0];clear e0 hs hok;obtain⟨gs,vs,es⟩:=s;simp only at*;generalize ba gs=o at*;unfold aT.pv at*;simp only at*;generalize a7 (num ch) (num c)=cm at*;refine eW call91 func91 ?_;refine mK (aN (hd oT) (aN @l5 @l2)) @hb @vh @hi @hcm ?_;refine ah (α:=Nat) (fun i=>vs.length-i) (fun i=>⟨[(2, .v (.s ch)),(3, .v (.sl (l.map ca))),(5, .p 1001 0 0),(11, .v (.sl (vs.map fun b=>N (lR o c sl b)))),(45, .v (.sl (vs.map bO))),(46,E' vs.length),(47,E' i)],[(1001,⟨0,[.v (.sl (gs.map cz)), .v (.sl (vs.map bO)), .v (.sl (es.map bZ.pv))],false,none⟩)],_⟩) (fun i=>i<=vs.length/\ ∀j,j<i->qM (vs.getD j []) (l.getD j eT) (lR o c sl (vs.getD j []))=true) 0 (fun _=>aA _) ⟨aD _,fun j hj=>oO⟩ ?_ ?_
 ·exact lE
 ·rintro i ⟨hi',hf⟩ R hR
  by_cases hlt:i<vs.length
  ·have e1:=getD_map bO vs [] hlt;have e2:=getD_map (fun b=>N (lR o c sl b)) vs [] hlt
   have hlt2:i<l.length:=oO;have e3:=getD_map ca l eT hlt2;obtain⟨k1,k3⟩:=hv _ (ai [] hlt);have kv:=hval _ (ai eT hlt2);have ad:aH 112 [bO (vs.getD i []),N (lR o c sl (vs.getD i [])),ca (l.getD i eT)] (.b (qM (vs.getD i []) (l.getD i eT) (lR o c sl (vs.getD i [])))):=GG (vs.getD i []) (n:=(l.getD i eT).1) kv (Cs hr lo k3);have hgo:=hR (i+1)
   by_cases hc2:qM (vs.getD i []) (l.getD i eT) (lR o c sl (vs.getD i []))=true
   ·have hgo:=hgo ⟨oO,fun j hj=>by
     by_cases e:j=i
     ·rw[e];exact hc2
     ·exact hf j oO⟩ oO
    rw[hc2]at ad;clear hR hf hc2 kv k1 k3;generalize lR o c sl (vs.getD i [])=L at*;generalize vs.getD i []=b at*;obtain⟨x,hx⟩: ∃x,x=l.getD i eT:=⟨_,rfl⟩;rw[<-hx]at ad e3;clear hx;obtain⟨xn,xa⟩:=x;simp only[bO,ca]at*;exact gi (aN @l2 (aN @l5 (aN @l6 (aN @e1 (aN @e2 @e3))))) @hgo @ad
   ·rw[Gh hlt hc2];rw[dR.2 hc2]at ad;clear hR hf hgo hc2 kv k1 k3;generalize lR o c sl (vs.getD i [])=L at*;generalize vs.getD i []=b at*;obtain⟨x,hx⟩: ∃x,x=l.getD i eT:=⟨_,rfl⟩;rw[<-hx]at ad e3;clear hx;obtain⟨xn,xa⟩:=x;simp only[bO,ca]at*;exact iE (aN @l2 (aN @l5 (aN @l6 (aN @e1 (aN @e2 @e3))))) @ad
  ·obtain rfl:i=vs.length:=oO;rw[wQ hf];exact iE @l2 @hms
theorem D4 {s:aT} (hp:xQ c sl s) (h1:s.eqs≠[]) {l:List (Bool×Bytes)} (hll:l.length<1000000):aH 91 [.agg [.s c, .s sl],s.pv, .s ch, .sl (l.map ca)] (.tup [.sl (jB c sl s ch l),E (cG (ba s.groups) c sl s.vars ch l)]):=D5 hp hll
theorem FD {α:Type} {f:Nat->α->Nat} {m:Nat} (h: ∀x a,f x a<m): ∀(l:List α) (x:Nat),x<m->l.foldl f x<m
 |[],_,hx=>hx
 |a::l,x,_=>FD h l _ (h x a)
theorem lT {s:aT} (hs:xq s) (ch:Bytes) (rs:List (Bool×Bytes)): ∀x∈ep s ch rs,x.length<=8/\ae x=true:=by
 intro x hx;obtain⟨q,hq,rfl⟩:=cx.1 hx;obtain⟨q1,q2,-⟩:=hs.q q hq;have hg:=hs.g _ (ai dL (show q.ig.toNat<s.groups.length by omega))
 have hm:=(nD hg.1).2.2.1;have hlt:fo s.groups ch rs q<256^8:=by
  refine j5 ?_ (ga hg.2.1);unfold fo;exact FD (fun x a=>aV _ oO) _ _ (aV _ oO)
 exact⟨lQ.2 hlt,vN hlt⟩
noncomputable def BR (c sl ctx:Bytes) (s:aT) (ch:Bytes) (rs:List (Bool×Bytes)) (gs:List Bytes) (ls:List (List (Bool×Bytes))):Int:=
 if iT c s.vars.length ch rs gs ls≠0 then iT c s.vars.length ch rs gs ls else if cG (ba s.groups) c sl s.vars ch rs≠0 then cG (ba s.groups) c sl s.vars ch rs else if b7 (ic (L3 ctx s (ep s ch rs)) c)=ch then 0 else 16
def uv (n i:Nat):List Nat:=(List.replicate n 0).set i 1
noncomputable def acz (q:Nat) (pts:List Nat) (x i:Nat):Nat:=acv q pts (uv pts.length i) x
noncomputable def acy (q:Nat) (pts:List Nat) (x k:Nat):List (Bool×Bytes):=(List.range k).map fun i=>(false,b7 (acz q pts x i))
noncomputable def atV (m q:Nat) (pts els:List Nat) (x:Nat):Nat:=Q2 m (els.zip (acy q pts x pts.length))
def CK.els (c:CK) (d:Nat):List Bytes:=c.y::c.sh.take (d-1)
noncomputable def CK.at (c:CK) (i:Nat):Nat:=atV (num c.m) (num c.o) (List.range c.need.toNat) ((c.els c.need.toNat).map num) i
noncomputable def acg (c:CK):Bool:=(List.range (c.sh.length+1)).all fun i=>decide (i<c.need.toNat)||decide (c.at i=num (c.sh.getD (i-1) []))
structure CKo (c:CK):Prop where
 e:gE c.m c.o=0
 o0:c.o≠[]
 p:ia (num c.o)=true
 vg:ae c.g=true
 gg:GP c.m c.o (num c.g)
 vy:ae c.y=true
 gy:GP c.m c.o (num c.y)
 hs: ∀x∈c.sh,ae x=true/\GP c.m c.o (num x)
 n1:1<=c.need
 n2:c.need<=c.sh.length
 nq:c.sh.length<num c.o
 cmb:acg c=true
theorem WO {m o x:Bytes} (hE:gE m o=0) (vx:ae x=true) (hx:GP m o (num x)):vX m o x=true:=by
 unfold vX;rw[hE,(dH hE).2 ⟨vx,hx⟩];rfl
