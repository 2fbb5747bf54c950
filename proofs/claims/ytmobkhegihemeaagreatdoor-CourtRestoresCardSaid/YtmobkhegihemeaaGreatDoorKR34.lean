/-
  Part of the proof, part KR34. Own work.
-/
import Derived.Test.YtmobkhegihemeaaGreatDoorKR30
import Derived.Test.YtmobkhegihemeaaGreatDoorKR32
set_option linter.all false
namespace Go.Proofs.YtmobkhegihemeaaGreatDoor
open Go Go.Dom Go.Num
set_option maxRecDepth 100000
set_option maxHeartbeats 16000000
theorem P6 (l:List Int):(l.map gJ).map cu=l.map Zp:=by rw[List.map_map];rfl
theorem o5 {w:List Int} (hw: ∀x∈w,x.natAbs<dt):(w.map gJ).all bH=true:=by
 rw[List.all_eq_true];intro x hx;obtain⟨z,hz,rfl⟩:=List.mem_map.1 hx;exact nC (hw z hz)
theorem IY {s:bQ} (hs:vH s) {w:List (Bool×Bytes)} (hw:w.length<1000000):aB Tryz.prog 253 [s.pv, .sl (w.map cu)] (E (if !(w.all bH)then 3 else if w.length≠s.vars.length then 6 else 0)):=by
 have hf:=Fl hs.b;have hc:=AP hs.b;rw[hs.ck]at hc;rw[show jK s=true from by have:=hs.ck;unfold Fi at this;cases h:jK s<;>simp_all]at hf
 have hcf:=dm w _ _ (by omega) IX
 rw[im]at hcf;have l1:(w.map cu).length=w.length:=List.length_map ..;obtain⟨gs,vs,es⟩:=s;have l2:(vs.map bV).length=vs.length:=List.length_map ..;simp only[bQ.pv,if_true]at hf hc⊢;generalize w.all bH=b at*;cases b
 ·refine eW Tryz.call253 Tryz.func253 ?_;repeat' first|simp only[go_sem,seval,l1,l2]|refine cP hf ?_|refine cP hc ?_|refine cP hcf ?_|refine sB ?_|(first|apply pX|apply bX)<;>intro hc|refine⟨oD,?_⟩|exact oD|fail
 ·by_cases hl:w.length=vs.length
  ·have hI:((w.length:Int) !=vs.length)=false:=by rw[hl];simp
   rw[if_neg (by simp),if_neg (by simpa using hl)]
   refine eW Tryz.call253 Tryz.func253 ?_;repeat' first|simp only[go_sem,seval,l1,l2,hI]|refine cP hf ?_|refine cP hc ?_|refine cP hcf ?_|refine sB ?_|(first|apply pX|apply bX)<;>intro hc|refine⟨oD,?_⟩|exact oD|fail
  ·have hI:((w.length:Int) !=vs.length)=true:=by rw[bne_iff_ne];omega
   rw[if_neg (by simp),if_pos (by simpa using hl)]
   refine eW Tryz.call253 Tryz.func253 ?_;repeat' first|simp only[go_sem,seval,l1,l2,hI]|refine cP hf ?_|refine cP hc ?_|refine cP hcf ?_|refine sB ?_|(first|apply pX|apply bX)<;>intro hc|refine⟨oD,?_⟩|exact oD|fail
theorem A2 {s:bQ} (hs:vH s) {w:List Int} (hwl:w.length=s.vars.length) (hw: ∀x∈w,x.natAbs<dt):aB Tryz.prog 253 [s.pv, .sl (w.map Zp)] (E 0):=by
 have nv:=hs.nv;have:=IY hs (w:=w.map gJ) (by rw[List.length_map];omega)
 rwa[P6,o5 hw,List.length_map,if_neg (by simp),if_neg (by simpa using hwl)]at this
def WS (s:bQ) (w:List Int):Prop:= ∀q∈s.eqs,WB q.terms w
theorem Hh {s:bQ} (hs:vH s) {w:List Int} (hwl:w.length=s.vars.length) (hw: ∀x∈w,x.natAbs<dt) (hW:WS s w):aB Tryz.prog 183 [s.pv, .sl (w.map Zp)] (.tup [.sl ((oV s w).map .s),E 0]):=by
 have hr:=A2 hs hwl hw;have hi:=AK hs hW;generalize oV s w=L at*;obtain⟨gs,vs,es⟩:=s;simp only[bQ.pv]at hr hi⊢;refine eW Tryz.call183 Tryz.func183 ?_;repeat' first|simp only[go_sem,seval]|refine cP hr ?_|refine cP hi ?_|refine sB ?_|(first|apply pX|apply bX)<;>intro hc|refine⟨oD,?_⟩|exact oD|fail
def cR (o b:Bytes):Nat:=if b=[]then num o else num b
def eS (b:Bytes) (x:Int) (L:Nat):Bool:=decide (x.natAbs<L)&& !(decide (b=[])&&decide (x<0))
def rP (o:Bytes) (us:List Bytes) (w:List Int):Bool:=(List.range us.length).all fun i=>eS (us.getD i []) (w.getD i 0) (cR o (us.getD i []))
theorem dc {gs:List (Bytes×Bytes)} (h: ∀p∈gs,gE p.1 p.2=0∧p.1.length≤8∧p.2.length≤8):aa (aS gs)=true∧(aS gs).length≤8:=by
 induction gs with
 |nil=>exact⟨rfl,by simp[aS]⟩
 |cons g r ih=>
  rw[aS];obtain⟨g1,g2,g3⟩:=h g (List.mem_cons_self ..);split
  ·exact ih fun p hp=>h p (List.mem_cons_of_mem _ hp)
  ·exact⟨(fb g1).2.1,g3⟩
theorem Cs {s:bQ} (hs:vH s) {w:List Int} (hwl:w.length=s.vars.length) (hw: ∀x∈w,x.natAbs<dt):aB Tryz.prog 254 [s.pv, .sl (w.map Zp)] (.b (rP (aS s.groups) s.vars w)):=by
 have hv:=hs.v;have nv:=hs.nv;have hor:=sJ s (by have:=hs.ng;omega)
 have hoV:=dc hs.g;obtain⟨gs,vs,es⟩:=s;simp only at hv hwl nv hor hoV⊢;have l2:(vs.map bV).length=vs.length:=List.length_map ..;have l5:(w.map Zp).length=vs.length:=by rw[List.length_map];exact hwl
 generalize aS gs=oq at*;unfold bQ.pv at*;simp only at*;refine eW Tryz.call254 Tryz.func254 ?_;repeat' first|simp only[go_sem,seval,l2]|refine sB ?_|(first|apply pX|apply bX)<;>intro hc|refine⟨oD,?_⟩|exact oD|fail
 refine aj (α:=Nat) (fun i=>vs.length-i) (fun i=>⟨[(1, .v (.sl (w.map Zp))),(2, .p 1000 0 0),(9, .v (.sl (vs.map bV))),(10,E' vs.length),(11,E' i)],[(1000,⟨0,[.v (.sl (gs.map dU)), .v (.sl (vs.map bV)), .v (.sl (es.map cG.pv))],false,none⟩)],_⟩) (fun i=>i≤vs.length∧ ∀j,j<i→eS (vs.getD j []) (w.getD j 0) (cR oq (vs.getD j []))=true) 0 (fun _=>Nat.le_refl _) ⟨Nat.zero_le _,fun j hj=>by omega⟩ ?_ ?_
 ·exact lE
 ·rintro i ⟨hi,hall⟩ R hR
  by_cases hlt:i<vs.length
  ·have e1:=getD_map bV vs [] hlt;have e2:=getD_map Zp w 0 (i:=i) (by omega)
   have kb:=hv _ (au [] hlt);have kw:=hw _ (au 0 (show i<w.length by omega))
   have hgo:=fun h=>hR (i+1) ⟨by omega,h⟩ (by omega)
   have hbad:=fun h: ¬eS (vs.getD i []) (w.getD i 0) (cR oq (vs.getD i []))=true=>j9 (p:=fun i=>eS (vs.getD i []) (w.getD i 0) (cR oq (vs.getD i []))) hlt (Bool.eq_false_iff.2 h)
   have hnx:eS (vs.getD i []) (w.getD i 0) (cR oq (vs.getD i []))=true→ ∀j,j<i+1→eS (vs.getD j []) (w.getD j 0) (cR oq (vs.getD j []))=true:=fun h j hj=>by
    by_cases hji:j<i
    ·exact hall j hji
    ·obtain rfl:j=i:=by omega
     exact h
   rw[←rP]at hbad;clear hR hall;generalize vs.getD i []=b at*;generalize w.getD i 0=x at*;have hz:=(nC kw);simp only[gJ,bH,Bool.and_eq_true]at hz;have hc:=lW hz.1 kb.1;have hc':=lW hz.1 hoV.1;simp only[uD]at hc hc';have hd: ∀L:Nat,decide (aT x.natAbs L≥0)= !decide (x.natAbs<L):=fun L=>L9 _ _
   simp only[bV]at e1;simp only[Zp,cu,gJ]at e2;simp only[eS,cR]at hbad hnx
   by_cases hb:b=[]
   ·subst hb;simp only[if_true,decide_true,Bool.true_and]at hbad hnx;have hzs:zs x=decide (x<0):=rfl;have h1:=hd (num oq);clear hd hc kb;generalize aT x.natAbs (num oq)=cm at*;generalize decide (x.natAbs<num oq)=p at*;generalize hq:decide (x<0)=q at*;cases q
    ·cases p
     ·rw[hbad (by simp)]
      repeat' first|simp only[go_sem,seval,l2,l5,e1,e2,hzs,h1,nn]|refine cP hor ?_|refine cP hc' ?_|refine sB ?_|(first|apply pX|apply bX)<;>intro hc|refine⟨oD,?_⟩|exact oD|fail
     ·have hgo:=hgo (hnx (by simp))
      repeat' first|simp only[go_sem,seval,l2,l5,e1,e2,hzs,h1,nn]|refine cP hor ?_|refine cP hc' ?_|refine sB ?_|(first|apply pX|apply bX)<;>intro hc|refine⟨oD,?_⟩|exact oD|fail
      refine hgo _ ?_;exact lE
    ·rw[hbad (by simp)]
     repeat' first|simp only[go_sem,seval,l2,l5,e1,e2,hzs,h1,nn]|refine cP hor ?_|refine cP hc' ?_|refine sB ?_|(first|apply pX|apply bX)<;>intro hc|refine⟨oD,?_⟩|exact oD|fail
   ·have hbb:(b==[])=false:=by simpa using hb
    simp only[if_neg hb,decide_eq_false hb,Bool.false_and,Bool.not_false,Bool.and_true]at hbad hnx;have h1:=hd (num b);clear hd hc' kb;generalize aT x.natAbs (num b)=cm at*;generalize decide (x.natAbs<num b)=p at*;cases p
    ·rw[hbad (by simp)]
     repeat' first|simp only[go_sem,seval,l2,l5,e1,e2,hbb,h1]|refine cP hc ?_|refine sB ?_|(first|apply pX|apply bX)<;>intro hc|refine⟨oD,?_⟩|exact oD|fail
    ·have hgo:=hgo (hnx rfl);repeat' first|simp only[go_sem,seval,l2,l5,e1,e2,hbb,h1]|refine cP hc ?_|refine sB ?_|(first|apply pX|apply bX)<;>intro hc|refine⟨oD,?_⟩|exact oD|fail
     refine hgo _ ?_;exact lE
  ·obtain rfl:i=vs.length:=by omega
   have hg:rP oq vs w=true:=jN fun j hj=>hall j hj
   rw[hg];repeat' first|simp only[go_sem,seval]|refine sB ?_|(first|apply pX|apply bX)<;>intro hc|refine⟨oD,?_⟩|exact oD|fail
noncomputable def wM (s:bQ) (w:List Int):Bool:=decide (oV s w=s.eqs.map (·.tgt))
theorem Cr {s:bQ} (hs:vH s) {w:List Int} (hwl:w.length=s.vars.length) (hw: ∀x∈w,x.natAbs<dt) (hW:rP (aS s.groups) s.vars w=true→WS s w):aB Tryz.prog 179 [s.pv, .sl (w.map Zp)] (.tup [.b (rP (aS s.groups) s.vars w&&wM s w),E 0]):=by
 have ne:=hs.ne;have hr:=A2 hs hwl hw;have hi:=Cs hs hwl hw;have hm:=fun h=>AK hs (hW h)
 have hL:=ue s w;unfold wM;generalize oV s w=L at*;obtain⟨gs,vs,es⟩:=s;simp only[bQ.pv]at hr hi hm hL⊢;have l3:(es.map cG.pv).length=es.length:=List.length_map ..;have l4:(L.map PV.s).length=es.length:=by rw[List.length_map];exact hL
 simp only at ne;clear hs hW hw hwl;generalize rP (aS gs) vs w=b at*;cases b
 ·refine eW Tryz.call179 Tryz.func179 ?_;repeat' first|simp only[go_sem,seval]|refine cP hr ?_|refine cP hi ?_|refine sB ?_|(first|apply pX|apply bX)<;>intro hc|refine⟨oD,?_⟩|exact oD|fail
 have hm:=hm rfl;refine eW Tryz.call179 Tryz.func179 ?_;repeat' first|simp only[go_sem,seval,l3]|refine cP hr ?_|refine cP hi ?_|refine cP hm ?_|refine sB ?_|(first|apply pX|apply bX)<;>intro hc|refine⟨oD,?_⟩|exact oD|fail
 refine aj (α:=Nat) (fun i=>es.length-i) (fun i=>⟨[(2, .p 1000 0 0),(7, .v (.sl (L.map .s))),(31, .v (.sl (es.map cG.pv))),(32,E' es.length),(33,E' i)],[(1000,⟨0,[.v (.sl (gs.map dU)), .v (.sl (vs.map bV)), .v (.sl (es.map cG.pv))],false,none⟩)],_⟩) (fun i=>i≤es.length∧ ∀j,j<i→L.getD j []=(es.getD j gH).tgt) 0 (fun _=>Nat.le_refl _) ⟨Nat.zero_le _,fun j hj=>by omega⟩ ?_ ?_
 ·exact lE
 ·rintro i ⟨hi,hall⟩ R hR
  by_cases hlt:i<es.length
  ·have e1:=getD_map cG.pv es gH hlt;have e2:=getD_map PV.s L [] (i:=i) (by omega)
   have hgo:=fun h=>hR (i+1) ⟨by omega,h⟩ (by omega)
   have hnx:L.getD i []=(es.getD i gH).tgt→ ∀j,j<i+1→L.getD j []=(es.getD j gH).tgt:=fun h j hj=>by
    by_cases hji:j<i
    ·exact hall j hji
    ·obtain rfl:j=i:=by omega
     exact h
   have hbad: ¬L.getD i []=(es.getD i gH).tgt→decide (L=es.map (·.tgt))=false:=fun h=>decide_eq_false fun g=>h (by rw[g];simp[List.getD_eq_getElem?_getD,hlt])
   clear hR hall;generalize es.getD i gH=q at*;generalize L.getD i []=x at*;obtain⟨g,t,ts⟩:=q;simp only[cG.pv]at e1 hbad hnx
   by_cases hxt:x=t
   ·have hgo:=hgo (hnx hxt);have e3:(x==t)=true:=by simpa using hxt
    repeat' first|simp only[go_sem,seval,l3,l4,e1,e2,e3]|refine sB ?_|(first|apply pX|apply bX)<;>intro hc|refine⟨oD,?_⟩|exact oD|fail
    refine hgo _ ?_;exact lE
   ·have e3:(x==t)=false:=by simpa using hxt
    rw[hbad hxt];repeat' first|simp only[go_sem,seval,l3,l4,e1,e2,e3]|refine sB ?_|(first|apply pX|apply bX)<;>intro hc|refine⟨oD,?_⟩|exact oD|fail
  ·obtain rfl:i=es.length:=by omega
   rw[decide_eq_true (Io hL hall)];repeat' first|simp only[go_sem,seval]|refine sB ?_|(first|apply pX|apply bX)<;>intro hc|refine⟨oD,?_⟩|exact oD|fail
def lM (o c sl b:Bytes):Nat:=if b=[]then num o else qj c sl b
def lR (o c sl b:Bytes):Nat:=if b=[]then num o else Mj c sl b
def lP (o c sl b:Bytes):PV:= .agg [N (lM o c sl b),N (lR o c sl b)]
structure z9 (c sl:Bytes) (s:bQ):Prop where
 r:lJ c sl
 g:vH s
 m: ∀b∈s.vars,b=[]→num c≤num (aS s.groups)
theorem jC (b:Bytes):aB Tryz.prog 258 [bV b] (E (if b=[]then 0 else 1)):=by
 by_cases h:b=[]
 ·subst h;unfold bV;refine eW Tryz.call258 Tryz.func258 ?_;repeat' first|simp only[go_sem,seval,nn]|refine sB ?_|(first|apply pX|apply bX)<;>intro hc|refine⟨oD,?_⟩|exact oD|fail
 ·rw[if_neg h];exact GD h
theorem xN (c sl q b:Bytes):aB Tryz.prog 259 [.agg [.s c, .s sl, .s q], .s b] (.tup [.agg [.s q, .s q],E 0]):=by
 refine eW Tryz.call259 Tryz.func259 ?_;repeat' first|simp only[go_sem,seval]|refine sB ?_|(first|apply pX|apply bX)<;>intro hc|refine⟨oD,?_⟩|exact oD|fail
theorem Q2 (o c sl:Bytes):cC (lP o c sl) 2:=⟨fun _=>rfl,fun x y hy=>by simp[lP,PV.cells]at hy;rcases hy with rfl|rfl<;>rfl,fun h=>by omega,fun _ x=>rfl⟩
theorem qQ {c sl:Bytes} {s:bQ} (h:z9 c sl s):aB Tryz.prog 181 [.agg [.s c, .s sl],s.pv] (.tup [.sl (s.vars.map (lP (aS s.groups) c sl)),E 0]):=by
 obtain⟨hr,hs,hm⟩:=h;have hck:=AP hs.b;rw[hs.ck]at hck;have hor:=s8 s (by have:=hs.ng;omega)
 have hoV:=dc hs.g;have v1:=aF c;have v2:=aF sl;rw[hr.vc]at v1;rw[hr.vs]at v2;have c1:=Ei hr.vc;have c2:=Ei hr.vs;have d1: ∀ _:True,decide (aT (num c) 2<0)=false:=fun _=>decide_eq_false (fun g=>by have:=fE.1 g;have:=hr.c2;omega)
 have d2: ∀ _:True,decide (aT (num sl) 2<0)=false:=fun _=>decide_eq_false (fun g=>by have:=fE.1 g;have:=hr.s2;omega)
 have c3:=lW hr.vc hoV.1;generalize aT (num c) 2=cm1 at*;generalize aT (num sl) 2=cm2 at*;have hv:=hs.v;have nv:=hs.nv;obtain⟨gs,vs,es⟩:=s;simp only at hv hm nv hor hoV c3⊢;generalize aS gs=q at*;have d3: ∀b∈vs,b=[]→decide (aT (num c) (num q)>0)=false:=fun b hb h=>decide_eq_false fun g=>by
  have:=hm b hb h;unfold aT at g
  split at g
  ·omega
  ·split at g<;>omega
 generalize aT (num c) (num q)=cm3 at*;have eq:=dy hoV.1;have l2:(vs.map bV).length=vs.length:=List.length_map ..;clear hm hoV;unfold bQ.pv at*;simp only at*;refine eW Tryz.call181 Tryz.func181 ?_;repeat' first|simp only[go_sem,seval,d1 trivial,d2 trivial,l2]|refine cP v1 ?_|refine cP v2 ?_|refine cP hck ?_|refine cP Oc ?_|refine cP c1 ?_|refine cP c2 ?_|refine cP hor ?_|refine sB ?_|(first|apply pX|apply bX)<;>intro hc|refine⟨oD,?_⟩|exact oD|fail
 refine aj (α:=Nat) (fun i=>vs.length-i) (fun i=>⟨[(2, .p 1000 0 0),(3, .p 1001 0 0),(8, .p 1037 0 0),(50, .v (.sl (vs.map bV))),(51,E' vs.length),(52,E' i)],[(1000,⟨0,[.v (.s c), .v (.s sl)],false,none⟩),(1001,⟨0,[.v (.sl (gs.map dU)), .v (.sl (vs.map bV)), .v (.sl (es.map cG.pv))],false,none⟩),(1037,⟨0,[.v (.s c), .v (.s sl), .v (.s q)],false,some 298⟩)],_⟩) (fun i=>i≤vs.length) 0 (fun _=>Nat.le_refl _) (Nat.zero_le _) ?_ ?_
 ·exact lE
 ·intro i hi R hR
  by_cases hlt:i<vs.length
  ·have e1:=getD_map bV vs [] hlt;have hk:=jC (vs.getD i []);have d3:=d3 _ (au [] hlt);have hgo:=hR (i+1) (by omega) (by omega)
   clear hR;generalize vs.getD i []=b at*;simp only[bV]at e1 hk
   by_cases hb:b=[]
   ·rw[if_pos hb]at hk;have d3:=d3 hb;repeat' first|simp only[go_sem,seval,l2,e1,d3]|refine cP hk ?_|refine cP c3 ?_|refine sB ?_|(first|apply pX|apply bX)<;>intro hc|refine⟨oD,?_⟩|exact oD|fail
    refine hgo _ ?_;exact lE
   ·rw[if_neg hb]at hk;repeat' first|simp only[go_sem,seval,l2,e1]|refine cP hk ?_|refine sB ?_|(first|apply pX|apply bX)<;>intro hc|refine⟨oD,?_⟩|exact oD|fail
    refine hgo _ ?_;exact lE
  ·obtain rfl:i=vs.length:=by omega
   have hL:=Q2 q c sl;have row0: ∀{i:Nat},i<vs.length→aQ (lP q c sl) (vs.take (i+1))=aQ (lP q c sl) (vs.take i)++[.v (N (lM q c sl (vs.getD i []))), .v (N (lR q c sl (vs.getD i [])))]:=fun h=>by
    rw[aN [] h,bz];rfl
   clear hR d3 c1 c2 c3 d1 d2 hlt
   by_cases hpos:0<vs.length
   ·repeat' first|simp only[go_sem,seval,l2]|refine sB ?_|(first|apply pX|apply bX)<;>intro hc|refine⟨oD,?_⟩|exact oD|fail
    refine ae ?_;have e1:=getD_map bV vs [] hpos;have hk:=jC (vs.getD 0 []);have r1:=row0 hpos;have hcs:(vs.getD 0 []=[]∧aB Tryz.prog 259 [.agg [.s c, .s sl, .s q], .s (vs.getD 0 [])] (.tup [.agg [N (lM q c sl (vs.getD 0 [])),N (lR q c sl (vs.getD 0 []))],E 0]))∨(vs.getD 0 []≠[]∧aB Tryz.prog 260 [.agg [.s c, .s sl, .s q], .s (vs.getD 0 [])] (.tup [.agg [N (lM q c sl (vs.getD 0 [])),N (lR q c sl (vs.getD 0 []))],E 0])):=by
     by_cases h:vs.getD 0 []=[]
     ·refine .inl ⟨h,?_⟩;rw[h,lM,lR,if_pos rfl,if_pos rfl,eq];exact xN c sl q []
     ·obtain⟨k1,k3⟩:=hv _ (au [] hpos);refine .inr ⟨h,?_⟩;rw[lM,lR,if_neg h,if_neg h];exact mL (q:=q) hr k1 h k3
    generalize lM q c sl (vs.getD 0 [])=A at*;generalize lR q c sl (vs.getD 0 [])=B at*;generalize vs.getD 0 []=b at*;simp only[bV]at e1 hk;rcases hcs with⟨hb,hi1⟩|⟨hb,hi1⟩
    all_goals
     first|rw[if_pos hb]at hk|rw[if_neg hb]at hk
     repeat' first|simp only[go_sem,seval,l2,e1]|refine cP hk ?_|refine cP hi1 ?_|refine sB ?_|(first|apply pX|apply bX)<;>intro hc|refine⟨oD,?_⟩|exact oD|fail
     refine aj (α:=Nat) (fun j=>vs.length-(j+1)) (fun j=>⟨[(11, .p 1049 0 0),(12, .rs 1079 j 0 (j+1) 2),(74, .v (.sl (vs.map bV))),(75,E' vs.length),(76,E' (j+1))],[(1049,⟨0,[.fn (.func 259) [.v (.agg [.s c, .s sl, .s q])] [], .fn (.func 260) [.v (.agg [.s c, .s sl, .s q])] []],false,some 301⟩),(1079,⟨j,aQ (lP q c sl) (vs.take (j+1)),true,some 251⟩)],1083⟩) (fun j=>j+1≤vs.length) 0 (fun _=>Nat.le_of_ble_eq_true rfl) hpos ?_ ?_
     ·rw[Nat.zero_add,r1,List.take_zero,show aQ (lP q c sl) []=[]from rfl]
      exact lE
     ·clear e1 hk hi1 r1 hb;intro j hj R hR;have hj1:(vs.take (j+1)).length=j+1:=by rw[List.length_take];omega
      have q1:=a9 hL (vs.take (j+1));have q2:=a5 hL (vs.take (j+1));rw[hj1]at q1 q2
      by_cases hlt:j+1<vs.length
      ·have hgo:=hR (j+1) (by omega) (by omega)
       clear hR;have e1:=getD_map bV vs [] hlt;have hk:=jC (vs.getD (j+1) []);have r1:=row0 hlt;have hcs:(vs.getD (j+1) []=[]∧aB Tryz.prog 259 [.agg [.s c, .s sl, .s q], .s (vs.getD (j+1) [])] (.tup [.agg [N (lM q c sl (vs.getD (j+1) [])),N (lR q c sl (vs.getD (j+1) []))],E 0]))∨(vs.getD (j+1) []≠[]∧aB Tryz.prog 260 [.agg [.s c, .s sl, .s q], .s (vs.getD (j+1) [])] (.tup [.agg [N (lM q c sl (vs.getD (j+1) [])),N (lR q c sl (vs.getD (j+1) []))],E 0])):=by
        by_cases h:vs.getD (j+1) []=[]
        ·refine .inl ⟨h,?_⟩;rw[h,lM,lR,if_pos rfl,if_pos rfl,eq];exact xN c sl q []
        ·obtain⟨k1,k3⟩:=hv _ (au [] hlt);refine .inr ⟨h,?_⟩;rw[lM,lR,if_neg h,if_neg h];exact mL (q:=q) hr k1 h k3
       generalize lM q c sl (vs.getD (j+1) [])=A at*;generalize lR q c sl (vs.getD (j+1) [])=B at*;generalize vs.getD (j+1) []=b at*;simp only[bV]at e1 hk;rcases hcs with⟨hb,hi1⟩|⟨hb,hi1⟩
       all_goals
        first|rw[if_pos hb]at hk|rw[if_neg hb]at hk
        rw[r1]at hgo;repeat' first|simp only[go_sem,seval,l2,e1,q1,q2]|refine cP hk ?_|refine cP hi1 ?_|refine sB ?_|(first|apply pX|apply bX)<;>intro hc|refine⟨oD,?_⟩|exact oD|fail
        refine hgo _ ?_
        (refine AS.Le.of (by first|decide|omega) ?_ ?_<;>simp[bL,bK,aD,ai,AV.bd,AV.bd.bdL,u8,af,ah,ak])
        all_goals (intro c hc;rcases hc with h|h|h<;>first|exact cb h|(subst h;rfl))
      ·obtain hjv:j+1=vs.length:=by omega
       rw[hjv,List.take_length]at q1 q2;rw[hjv,List.take_length];have q3:=ct hL vs;have q4:=bj hL vs;repeat' first|simp only[go_sem,seval,l2,q1,q2,q3,q4,cj]|refine sB ?_|(first|apply pX|apply bX)<;>intro hc|refine⟨oD,?_⟩|exact oD|fail
       all_goals skip
   ·obtain rfl:vs=[]:=List.length_eq_zero_iff.1 (by omega)
    repeat' first|simp only[go_sem,seval,l2]|(refine ae ?_)|refine sB ?_|(first|apply pX|apply bX)<;>intro hc|refine⟨oD,?_⟩|exact oD|fail
theorem xz {c sl:Bytes} {s:bQ} (h:z9 c sl s):aB Tryz.prog 168 [.agg [.s c, .s sl],s.pv] (.tup [.sl (s.vars.map fun b=>N (lM (aS s.groups) c sl b)), .sl (s.vars.map fun b=>N (lR (aS s.groups) c sl b)),E 0]):=by
 have hb:=qQ h;have nv:=h.g.nv;obtain⟨gs,vs,es⟩:=s;simp only at hb nv⊢;clear h;generalize aS gs=o at*;have l2:(vs.map (lP o c sl)).length=vs.length:=List.length_map ..;unfold bQ.pv at*;simp only at*
 by_cases hpos:0<vs.length
 rotate_left
 ·obtain rfl:vs=[]:=List.length_eq_zero_iff.1 (by omega)
  refine eW Tryz.call168 Tryz.func168 ?_;repeat' first|simp only[go_sem,seval]|refine cP hb ?_|(refine ae ?_)|refine sB ?_|(first|apply pX|apply bX)<;>intro hc|refine⟨oD,?_⟩|exact oD|fail
 have hM:cC (fun b=>N (lM o c sl b)) 1:=⟨fun _=>rfl,fun _ y hy=>by cases List.mem_singleton.1 hy;rfl,fun _ _=>rfl,fun h=>absurd rfl h⟩
 have hR0:cC (fun b=>N (lR o c sl b)) 1:=⟨fun _=>rfl,fun _ y hy=>by cases List.mem_singleton.1 hy;rfl,fun _ _=>rfl,fun h=>absurd rfl h⟩
 have row1: ∀{i:Nat},i<vs.length→aQ (fun b=>N (lM o c sl b)) (vs.take (i+1))=aQ (fun b=>N (lM o c sl b)) (vs.take i)++[.v (N (lM o c sl (vs.getD i [])))]:=fun h=>by
  rw[aN [] h,bz];rfl
 have Nx: ∀{i:Nat},i<vs.length→aQ (fun b=>N (lR o c sl b)) (vs.take (i+1))=aQ (fun b=>N (lR o c sl b)) (vs.take i)++[.v (N (lR o c sl (vs.getD i [])))]:=fun h=>by
  rw[aN [] h,bz];rfl
 refine eW Tryz.call168 Tryz.func168 ?_;repeat' first|simp only[go_sem,seval,l2]|refine cP hb ?_|refine sB ?_|(first|apply pX|apply bX)<;>intro hc|refine⟨oD,?_⟩|exact oD|fail
 refine ae ?_;have e1:=getD_map (lP o c sl) vs [] hpos;have r1:=row1 hpos;have r2:=Nx hpos;simp only[lP]at e1;repeat' first|simp only[go_sem,seval,l2,e1]|refine sB ?_|(first|apply pX|apply bX)<;>intro hc|refine⟨oD,?_⟩|exact oD|fail
 refine aj (α:=Nat) (fun j=>vs.length-(j+1)) (fun j=>⟨[(9, .rs 1029 j 0 (j+1) 1),(10, .rs 1034 j 0 (j+1) 1),(22, .v (.sl (vs.map (lP o c sl)))),(23,E' vs.length),(24,E' (j+1))],[(1029,⟨j,aQ (fun b=>N (lM o c sl b)) (vs.take (j+1)),true,some 22⟩),(1034,⟨j,aQ (fun b=>N (lR o c sl b)) (vs.take (j+1)),true,some 22⟩)],1039⟩) (fun j=>j+1≤vs.length) 0 (fun _=>Nat.le_of_ble_eq_true rfl) hpos ?_ ?_
 ·rw[Nat.zero_add,r1,r2,List.take_zero,show aQ (fun b=>N (lM o c sl b)) []=[]from rfl,show aQ (fun b=>N (lR o c sl b)) []=[]from rfl]
  exact lE
 ·intro j hj R hR;have hj1:(vs.take (j+1)).length=j+1:=by rw[List.length_take];omega
  have q1:=a9 hM (vs.take (j+1));have q2:=a5 hM (vs.take (j+1));have q5:=a9 hR0 (vs.take (j+1));have q6:=a5 hR0 (vs.take (j+1));rw[hj1,Nat.mul_one]at q1 q2 q5 q6
  by_cases hlt:j+1<vs.length
  ·have e1:=getD_map (lP o c sl) vs [] hlt;have r1:=row1 hlt;have r2:=Nx hlt;simp only[lP]at e1;have hgo:=hR (j+1) (by omega) (by omega)
   rw[r1,r2]at hgo;clear hR;repeat' first|simp only[go_sem,seval,l2,e1,q1,q2,q5,q6]|refine sB ?_|(first|apply pX|apply bX)<;>intro hc|refine⟨oD,?_⟩|exact oD|fail
   refine hgo _ ?_
   (refine AS.Le.of (by first|decide|omega) ?_ ?_<;>simp[bL,bK,aD,ai,AV.bd,AV.bd.bdL,u8,af,ah,ak])
   all_goals (refine⟨?_,?_⟩<;>(intro c hc;rcases hc with h|h<;>first|exact cb h|(subst h;rfl)))
  ·obtain hjv:j+1=vs.length:=by omega
   rw[hjv,List.take_length]at q1 q2 q5 q6;rw[hjv,List.take_length];have q3:=ct hM vs;have q4:chunk 1 vs.length (List.flatMap (fun x=>[PV.s (aK (lM o c sl x))]) vs)=vs.map fun b=>N (lM o c sl b):=bj hM vs
   have q7:=ct hR0 vs;have q8:chunk 1 vs.length (List.flatMap (fun x=>[PV.s (aK (lR o c sl x))]) vs)=vs.map fun b=>N (lR o c sl b):=bj hR0 vs
   repeat' first|simp only[go_sem,seval,l2,q1,q2,q3,q4,q5,q6,q7,q8,cj]|refine sB ?_|(first|apply pX|apply bX)<;>intro hc|refine⟨oD,?_⟩|exact oD|fail
   all_goals skip
end Go.Proofs.YtmobkhegihemeaaGreatDoor
