/-
  Part of the proof, part KC34. Own work.
-/
import Derived.Test.YtmobkhegihemeaaGreatDoorKC33
import Derived.Test.YtmobkhegihemeaaGreatDoorKC31
set_option linter.all false
namespace Go.Proofs.YtmobkhegihemeaaGreatDoor
open Go Go.Dom Go.Num
set_option maxRecDepth 100000
set_option maxHeartbeats 16000000
theorem UW (l:List Int):(l.map lf).map eg=l.map Zp:=by rw[jE];rfl
theorem tS {w:List Int} (hw: ∀x∈w,x.natAbs<du):(w.map lf).all db=true:=by
 rw[bc];intro x hx;obtain⟨z,hz,rfl⟩:=a5.1 hx;exact r5 (hw z hz)
theorem NC {s:dy} (hs:Be s) {w:List (Bool×Bytes)} (hw:w.length<1000000):aD Tryz.prog 253 [s.pv, .sl (w.map eg)] (E (if !(w.all db)then 3 else if w.length≠s.vars.length then 6 else 0)):=by
 have hf:=J1 hs.b;have hc:=Fq hs.b;rw[hs.ck]at hc;rw[show nQ s=true from by have:=hs.ck;unfold JY at this;cases h:nQ s<;>simp_all]at hf
 have hcf:=fp w _ _ (by omega) NB
 rw[lr]at hcf;have l1:(w.map eg).length=w.length:=aH ..;obtain⟨gs,vs,es⟩:=s;have l2:(vs.map dC).length=vs.length:=aH ..;simp only[dy.pv,if_true]at hf hc⊢;generalize w.all db=b at*;cases b
 ·refine eW Tryz.call253 Tryz.func253 ?_;repeat' first|simp only[go_sem,seval,l1,l2]|refine cP hf ?_|refine cP hc ?_|refine cP hcf ?_|refine sB ?_|(first|apply pX|apply bX)<;>intro hc|refine⟨oD,?_⟩|exact oD|fail
 ·by_cases hl:w.length=vs.length
  ·have hI:((w.length:Int) !=vs.length)=false:=by rw[hl];simp
   rw[if_neg (by simp),if_neg (by simpa using hl)]
   refine eW Tryz.call253 Tryz.func253 ?_;repeat' first|simp only[go_sem,seval,l1,l2,hI]|refine cP hf ?_|refine cP hc ?_|refine cP hcf ?_|refine sB ?_|(first|apply pX|apply bX)<;>intro hc|refine⟨oD,?_⟩|exact oD|fail
  ·have hI:((w.length:Int) !=vs.length)=true:=by rw[bne_iff_ne];omega
   rw[if_neg (by simp),if_pos (by simpa using hl)]
   refine eW Tryz.call253 Tryz.func253 ?_;repeat' first|simp only[go_sem,seval,l1,l2,hI]|refine cP hf ?_|refine cP hc ?_|refine cP hcf ?_|refine sB ?_|(first|apply pX|apply bX)<;>intro hc|refine⟨oD,?_⟩|exact oD|fail
theorem Fz {s:dy} (hs:Be s) {w:List Int} (hwl:w.length=s.vars.length) (hw: ∀x∈w,x.natAbs<du):aD Tryz.prog 253 [s.pv, .sl (w.map Zp)] (E 0):=by
 have nv:=hs.nv;have:=NC hs (w:=w.map lf) (by rw[aH];omega)
 rwa[UW,tS hw,aH,if_neg (by simp),if_neg (by simpa using hwl)]at this
def WS (s:dy) (w:List Int):Prop:= ∀q∈s.eqs,WB q.terms w
theorem LY {s:dy} (hs:Be s) {w:List Int} (hwl:w.length=s.vars.length) (hw: ∀x∈w,x.natAbs<du) (hW:WS s w):aD Tryz.prog 183 [s.pv, .sl (w.map Zp)] (.tup [.sl ((vT s w).map .s),E 0]):=by
 have hr:=Fz hs hwl hw;have hi:=Fm hs hW;generalize vT s w=L at*;obtain⟨gs,vs,es⟩:=s;simp only[dy.pv]at hr hi⊢;refine eW Tryz.call183 Tryz.func183 ?_;repeat' first|simp only[go_sem,seval]|refine cP hr ?_|refine cP hi ?_|refine sB ?_|(first|apply pX|apply bX)<;>intro hc|refine⟨oD,?_⟩|exact oD|fail
def eS (o b:Bytes):Nat:=if b=[]then num o else num b
def jf (b:Bytes) (x:Int) (L:Nat):Bool:=decide (x.natAbs<L)&& !(decide (b=[])&&decide (x<0))
def zE (o:Bytes) (us:List Bytes) (w:List Int):Bool:=(List.range us.length).all fun i=>jf (us.getD i []) (w.getD i 0) (eS o (us.getD i []))
theorem ff {gs:List (Bytes×Bytes)} (h: ∀p∈gs,gE p.1 p.2=0∧p.1.length≤8∧p.2.length≤8):aa (bK gs)=true∧(bK gs).length≤8:=by
 induction gs with
 |nil=>exact⟨rfl,by simp[bK]⟩
 |cons g r ih=>
  rw[bK];obtain⟨g1,g2,g3⟩:=h g (q9 ..);split
  ·exact ih fun p hp=>h p (ja _ hp)
  ·exact⟨(jY g1).2.1,g3⟩
theorem Hf {s:dy} (hs:Be s) {w:List Int} (hwl:w.length=s.vars.length) (hw: ∀x∈w,x.natAbs<du):aD Tryz.prog 254 [s.pv, .sl (w.map Zp)] (.b (zE (bK s.groups) s.vars w)):=by
 have hv:=hs.v;have nv:=hs.nv;have hor:=yA s (by have:=hs.ng;omega)
 have hoV:=ff hs.g;obtain⟨gs,vs,es⟩:=s;simp only at hv hwl nv hor hoV⊢;have l2:(vs.map dC).length=vs.length:=aH ..;have l5:(w.map Zp).length=vs.length:=by rw[aH];exact hwl
 generalize bK gs=oq at*;unfold dy.pv at*;simp only at*;refine eW Tryz.call254 Tryz.func254 ?_;repeat' first|simp only[go_sem,seval,l2]|refine sB ?_|(first|apply pX|apply bX)<;>intro hc|refine⟨oD,?_⟩|exact oD|fail
 refine aj (α:=Nat) (fun i=>vs.length-i) (fun i=>⟨[(1, .v (.sl (w.map Zp))),(2, .p 1000 0 0),(9, .v (.sl (vs.map dC))),(10,E' vs.length),(11,E' i)],[(1000,⟨0,[.v (.sl (gs.map gG)), .v (.sl (vs.map dC)), .v (.sl (es.map eE.pv))],false,none⟩)],_⟩) (fun i=>i≤vs.length∧ ∀j,j<i→jf (vs.getD j []) (w.getD j 0) (eS oq (vs.getD j []))=true) 0 (fun _=>au _) ⟨aL _,fun j hj=>by omega⟩ ?_ ?_
 ·exact lE
 ·rintro i ⟨hi,hall⟩ R hR
  by_cases hlt:i<vs.length
  ·have e1:=getD_map dC vs [] hlt;have e2:=getD_map Zp w 0 (i:=i) (by omega)
   have kb:=hv _ (ay [] hlt);have kw:=hw _ (ay 0 (show i<w.length by omega))
   have hgo:=fun h=>hR (i+1) ⟨by omega,h⟩ (by omega)
   have hbad:=fun h: ¬jf (vs.getD i []) (w.getD i 0) (eS oq (vs.getD i []))=true=>ot (p:=fun i=>jf (vs.getD i []) (w.getD i 0) (eS oq (vs.getD i []))) hlt (fj.2 h)
   have hnx:jf (vs.getD i []) (w.getD i 0) (eS oq (vs.getD i []))=true→ ∀j,j<i+1→jf (vs.getD j []) (w.getD j 0) (eS oq (vs.getD j []))=true:=fun h j hj=>by
    by_cases hji:j<i
    ·exact hall j hji
    ·obtain rfl:j=i:=by omega
     exact h
   rw[←zE]at hbad;clear hR hall;generalize vs.getD i []=b at*;generalize w.getD i 0=x at*;have hz:=(r5 kw);simp only[lf,db,aZ]at hz;have hc:=qj hz.1 kb.1;have hc':=qj hz.1 hoV.1;simp only[zS]at hc hc';have hd: ∀L:Nat,decide (a6 x.natAbs L≥0)= !decide (x.natAbs<L):=fun L=>Pk _ _
   simp only[dC]at e1;simp only[Zp,eg,lf]at e2;simp only[jf,eS]at hbad hnx
   by_cases hb:b=[]
   ·subst hb;simp only[if_true,decide_true,bZ]at hbad hnx;have hzs:zs x=decide (x<0):=rfl;have h1:=hd (num oq);clear hd hc kb;generalize a6 x.natAbs (num oq)=cm at*;generalize decide (x.natAbs<num oq)=p at*;generalize hq:decide (x<0)=q at*;cases q
    ·cases p
     ·rw[hbad (by simp)]
      repeat' first|simp only[go_sem,seval,l2,l5,e1,e2,hzs,h1,nn]|refine cP hor ?_|refine cP hc' ?_|refine sB ?_|(first|apply pX|apply bX)<;>intro hc|refine⟨oD,?_⟩|exact oD|fail
     ·have hgo:=hgo (hnx (by simp))
      repeat' first|simp only[go_sem,seval,l2,l5,e1,e2,hzs,h1,nn]|refine cP hor ?_|refine cP hc' ?_|refine sB ?_|(first|apply pX|apply bX)<;>intro hc|refine⟨oD,?_⟩|exact oD|fail
      refine hgo _ ?_;exact lE
    ·rw[hbad (by simp)]
     repeat' first|simp only[go_sem,seval,l2,l5,e1,e2,hzs,h1,nn]|refine cP hor ?_|refine cP hc' ?_|refine sB ?_|(first|apply pX|apply bX)<;>intro hc|refine⟨oD,?_⟩|exact oD|fail
   ·have hbb:(b==[])=false:=by simpa using hb
    simp only[if_neg hb,decide_eq_false hb,ec,bR,kA]at hbad hnx;have h1:=hd (num b);clear hd hc' kb;generalize a6 x.natAbs (num b)=cm at*;generalize decide (x.natAbs<num b)=p at*;cases p
    ·rw[hbad (by simp)]
     repeat' first|simp only[go_sem,seval,l2,l5,e1,e2,hbb,h1]|refine cP hc ?_|refine sB ?_|(first|apply pX|apply bX)<;>intro hc|refine⟨oD,?_⟩|exact oD|fail
    ·have hgo:=hgo (hnx rfl);repeat' first|simp only[go_sem,seval,l2,l5,e1,e2,hbb,h1]|refine cP hc ?_|refine sB ?_|(first|apply pX|apply bX)<;>intro hc|refine⟨oD,?_⟩|exact oD|fail
     refine hgo _ ?_;exact lE
  ·obtain rfl:i=vs.length:=by omega
   have hg:zE oq vs w=true:=nT fun j hj=>hall j hj
   rw[hg];repeat' first|simp only[go_sem,seval]|refine sB ?_|(first|apply pX|apply bX)<;>intro hc|refine⟨oD,?_⟩|exact oD|fail
noncomputable def G7 (s:dy) (w:List Int):Bool:=decide (vT s w=s.eqs.map (·.tgt))
theorem He {s:dy} (hs:Be s) {w:List Int} (hwl:w.length=s.vars.length) (hw: ∀x∈w,x.natAbs<du) (hW:zE (bK s.groups) s.vars w=true→WS s w):aD Tryz.prog 179 [s.pv, .sl (w.map Zp)] (.tup [.b (zE (bK s.groups) s.vars w&&G7 s w),E 0]):=by
 have ne:=hs.ne;have hr:=Fz hs hwl hw;have hi:=Hf hs hwl hw;have hm:=fun h=>Fm hs (hW h)
 have hL:=zC s w;unfold G7;generalize vT s w=L at*;obtain⟨gs,vs,es⟩:=s;simp only[dy.pv]at hr hi hm hL⊢;have l3:(es.map eE.pv).length=es.length:=aH ..;have l4:(L.map PV.s).length=es.length:=by rw[aH];exact hL
 simp only at ne;clear hs hW hw hwl;generalize zE (bK gs) vs w=b at*;cases b
 ·refine eW Tryz.call179 Tryz.func179 ?_;repeat' first|simp only[go_sem,seval]|refine cP hr ?_|refine cP hi ?_|refine sB ?_|(first|apply pX|apply bX)<;>intro hc|refine⟨oD,?_⟩|exact oD|fail
 have hm:=hm rfl;refine eW Tryz.call179 Tryz.func179 ?_;repeat' first|simp only[go_sem,seval,l3]|refine cP hr ?_|refine cP hi ?_|refine cP hm ?_|refine sB ?_|(first|apply pX|apply bX)<;>intro hc|refine⟨oD,?_⟩|exact oD|fail
 refine aj (α:=Nat) (fun i=>es.length-i) (fun i=>⟨[(2, .p 1000 0 0),(7, .v (.sl (L.map .s))),(31, .v (.sl (es.map eE.pv))),(32,E' es.length),(33,E' i)],[(1000,⟨0,[.v (.sl (gs.map gG)), .v (.sl (vs.map dC)), .v (.sl (es.map eE.pv))],false,none⟩)],_⟩) (fun i=>i≤es.length∧ ∀j,j<i→L.getD j []=(es.getD j ku).tgt) 0 (fun _=>au _) ⟨aL _,fun j hj=>by omega⟩ ?_ ?_
 ·exact lE
 ·rintro i ⟨hi,hall⟩ R hR
  by_cases hlt:i<es.length
  ·have e1:=getD_map eE.pv es ku hlt;have e2:=getD_map PV.s L [] (i:=i) (by omega)
   have hgo:=fun h=>hR (i+1) ⟨by omega,h⟩ (by omega)
   have hnx:L.getD i []=(es.getD i ku).tgt→ ∀j,j<i+1→L.getD j []=(es.getD j ku).tgt:=fun h j hj=>by
    by_cases hji:j<i
    ·exact hall j hji
    ·obtain rfl:j=i:=by omega
     exact h
   have hbad: ¬L.getD i []=(es.getD i ku).tgt→decide (L=es.map (·.tgt))=false:=fun h=>decide_eq_false fun g=>h (by rw[g];simp[aX,hlt])
   clear hR hall;generalize es.getD i ku=q at*;generalize L.getD i []=x at*;obtain⟨g,t,ts⟩:=q;simp only[eE.pv]at e1 hbad hnx
   by_cases hxt:x=t
   ·have hgo:=hgo (hnx hxt);have e3:(x==t)=true:=by simpa using hxt
    repeat' first|simp only[go_sem,seval,l3,l4,e1,e2,e3]|refine sB ?_|(first|apply pX|apply bX)<;>intro hc|refine⟨oD,?_⟩|exact oD|fail
    refine hgo _ ?_;exact lE
   ·have e3:(x==t)=false:=by simpa using hxt
    rw[hbad hxt];repeat' first|simp only[go_sem,seval,l3,l4,e1,e2,e3]|refine sB ?_|(first|apply pX|apply bX)<;>intro hc|refine⟨oD,?_⟩|exact oD|fail
  ·obtain rfl:i=es.length:=by omega
   rw[decide_eq_true (Na hL hall)];repeat' first|simp only[go_sem,seval]|refine sB ?_|(first|apply pX|apply bX)<;>intro hc|refine⟨oD,?_⟩|exact oD|fail
def lM (o c sl b:Bytes):Nat:=if b=[]then num o else we c sl b
def lR (o c sl b:Bytes):Nat:=if b=[]then num o else Rc c sl b
def lP (o c sl b:Bytes):PV:= .agg [N (lM o c sl b),N (lR o c sl b)]
structure EJ (c sl:Bytes) (s:dy):Prop where
 r:pW c sl
 g:Be s
 m: ∀b∈s.vars,b=[]→num c≤num (bK s.groups)
theorem nj (b:Bytes):aD Tryz.prog 258 [dC b] (E (if b=[]then 0 else 1)):=by
 by_cases h:b=[]
 ·subst h;unfold dC;refine eW Tryz.call258 Tryz.func258 ?_;repeat' first|simp only[go_sem,seval,nn]|refine sB ?_|(first|apply pX|apply bX)<;>intro hc|refine⟨oD,?_⟩|exact oD|fail
 ·rw[if_neg h];exact Lh h
theorem CH (c sl q b:Bytes):aD Tryz.prog 259 [.agg [.s c, .s sl, .s q], .s b] (.tup [.agg [.s q, .s q],E 0]):=by
 refine eW Tryz.call259 Tryz.func259 ?_;repeat' first|simp only[go_sem,seval]|refine sB ?_|(first|apply pX|apply bX)<;>intro hc|refine⟨oD,?_⟩|exact oD|fail
theorem VT (o c sl:Bytes):eQ (lP o c sl) 2:=⟨fun _=>rfl,fun x y hy=>by simp[lP,PV.cells]at hy;rcases hy with rfl|rfl<;>rfl,fun h=>by omega,fun _ x=>rfl⟩
theorem xf {c sl:Bytes} {s:dy} (h:EJ c sl s):aD Tryz.prog 181 [.agg [.s c, .s sl],s.pv] (.tup [.sl (s.vars.map (lP (bK s.groups) c sl)),E 0]):=by
 obtain⟨hr,hs,hm⟩:=h;have hck:=Fq hs.b;rw[hs.ck]at hck;have hor:=yU s (by have:=hs.ng;omega)
 have hoV:=ff hs.g;have v1:=aM c;have v2:=aM sl;rw[hr.vc]at v1;rw[hr.vs]at v2;have c1:=Ja hr.vc;have c2:=Ja hr.vs;have d1: ∀ _:True,decide (a6 (num c) 2<0)=false:=fun _=>decide_eq_false (fun g=>by have:=fS.1 g;have:=hr.c2;omega)
 have d2: ∀ _:True,decide (a6 (num sl) 2<0)=false:=fun _=>decide_eq_false (fun g=>by have:=fS.1 g;have:=hr.s2;omega)
 have c3:=qj hr.vc hoV.1;generalize a6 (num c) 2=cm1 at*;generalize a6 (num sl) 2=cm2 at*;have hv:=hs.v;have nv:=hs.nv;obtain⟨gs,vs,es⟩:=s;simp only at hv hm nv hor hoV c3⊢;generalize bK gs=q at*;have d3: ∀b∈vs,b=[]→decide (a6 (num c) (num q)>0)=false:=fun b hb h=>decide_eq_false fun g=>by
  have:=hm b hb h;unfold a6 at g
  split at g
  ·omega
  ·split at g<;>omega
 generalize a6 (num c) (num q)=cm3 at*;have eq:=fq hoV.1;have l2:(vs.map dC).length=vs.length:=aH ..;clear hm hoV;unfold dy.pv at*;simp only at*;refine eW Tryz.call181 Tryz.func181 ?_;repeat' first|simp only[go_sem,seval,d1 trivial,d2 trivial,l2]|refine cP v1 ?_|refine cP v2 ?_|refine cP hck ?_|refine cP Ta ?_|refine cP c1 ?_|refine cP c2 ?_|refine cP hor ?_|refine sB ?_|(first|apply pX|apply bX)<;>intro hc|refine⟨oD,?_⟩|exact oD|fail
 refine aj (α:=Nat) (fun i=>vs.length-i) (fun i=>⟨[(2, .p 1000 0 0),(3, .p 1001 0 0),(8, .p 1037 0 0),(50, .v (.sl (vs.map dC))),(51,E' vs.length),(52,E' i)],[(1000,⟨0,[.v (.s c), .v (.s sl)],false,none⟩),(1001,⟨0,[.v (.sl (gs.map gG)), .v (.sl (vs.map dC)), .v (.sl (es.map eE.pv))],false,none⟩),(1037,⟨0,[.v (.s c), .v (.s sl), .v (.s q)],false,some 298⟩)],_⟩) (fun i=>i≤vs.length) 0 (fun _=>au _) (aL _) ?_ ?_
 ·exact lE
 ·intro i hi R hR
  by_cases hlt:i<vs.length
  ·have e1:=getD_map dC vs [] hlt;have hk:=nj (vs.getD i []);have d3:=d3 _ (ay [] hlt);have hgo:=hR (i+1) (by omega) (by omega)
   clear hR;generalize vs.getD i []=b at*;simp only[dC]at e1 hk
   by_cases hb:b=[]
   ·rw[if_pos hb]at hk;have d3:=d3 hb;repeat' first|simp only[go_sem,seval,l2,e1,d3]|refine cP hk ?_|refine cP c3 ?_|refine sB ?_|(first|apply pX|apply bX)<;>intro hc|refine⟨oD,?_⟩|exact oD|fail
    refine hgo _ ?_;exact lE
   ·rw[if_neg hb]at hk;repeat' first|simp only[go_sem,seval,l2,e1]|refine cP hk ?_|refine sB ?_|(first|apply pX|apply bX)<;>intro hc|refine⟨oD,?_⟩|exact oD|fail
    refine hgo _ ?_;exact lE
  ·obtain rfl:i=vs.length:=by omega
   have hL:=VT q c sl;have row0: ∀{i:Nat},i<vs.length→bJ (lP q c sl) (vs.take (i+1))=bJ (lP q c sl) (vs.take i)++[.v (N (lM q c sl (vs.getD i []))), .v (N (lR q c sl (vs.getD i [])))]:=fun h=>by
    rw[bj [] h,dM];rfl
   clear hR d3 c1 c2 c3 d1 d2 hlt
   by_cases hpos:0<vs.length
   ·repeat' first|simp only[go_sem,seval,l2]|refine sB ?_|(first|apply pX|apply bX)<;>intro hc|refine⟨oD,?_⟩|exact oD|fail
    refine ae ?_;have e1:=getD_map dC vs [] hpos;have hk:=nj (vs.getD 0 []);have r1:=row0 hpos;have hcs:(vs.getD 0 []=[]∧aD Tryz.prog 259 [.agg [.s c, .s sl, .s q], .s (vs.getD 0 [])] (.tup [.agg [N (lM q c sl (vs.getD 0 [])),N (lR q c sl (vs.getD 0 []))],E 0]))∨(vs.getD 0 []≠[]∧aD Tryz.prog 260 [.agg [.s c, .s sl, .s q], .s (vs.getD 0 [])] (.tup [.agg [N (lM q c sl (vs.getD 0 [])),N (lR q c sl (vs.getD 0 []))],E 0])):=by
     by_cases h:vs.getD 0 []=[]
     ·refine .inl ⟨h,?_⟩;rw[h,lM,lR,if_pos rfl,if_pos rfl,eq];exact CH c sl q []
     ·obtain⟨k1,k3⟩:=hv _ (ay [] hpos);refine .inr ⟨h,?_⟩;rw[lM,lR,if_neg h,if_neg h];exact qP (q:=q) hr k1 h k3
    generalize lM q c sl (vs.getD 0 [])=A at*;generalize lR q c sl (vs.getD 0 [])=B at*;generalize vs.getD 0 []=b at*;simp only[dC]at e1 hk;rcases hcs with⟨hb,hi1⟩|⟨hb,hi1⟩
    all_goals
     first|rw[if_pos hb]at hk|rw[if_neg hb]at hk
     repeat' first|simp only[go_sem,seval,l2,e1]|refine cP hk ?_|refine cP hi1 ?_|refine sB ?_|(first|apply pX|apply bX)<;>intro hc|refine⟨oD,?_⟩|exact oD|fail
     refine aj (α:=Nat) (fun j=>vs.length-(j+1)) (fun j=>⟨[(11, .p 1049 0 0),(12, .rs 1079 j 0 (j+1) 2),(74, .v (.sl (vs.map dC))),(75,E' vs.length),(76,E' (j+1))],[(1049,⟨0,[.fn (.func 259) [.v (.agg [.s c, .s sl, .s q])] [], .fn (.func 260) [.v (.agg [.s c, .s sl, .s q])] []],false,some 301⟩),(1079,⟨j,bJ (lP q c sl) (vs.take (j+1)),true,some 251⟩)],1083⟩) (fun j=>j+1≤vs.length) 0 (fun _=>bQ rfl) hpos ?_ ?_
     ·rw[cW,r1,List.take_zero,show bJ (lP q c sl) []=[]from rfl]
      exact lE
     ·clear e1 hk hi1 r1 hb;intro j hj R hR;have hj1:(vs.take (j+1)).length=j+1:=by rw[cG];omega
      have q1:=dI hL (vs.take (j+1));have q2:=dT hL (vs.take (j+1));rw[hj1]at q1 q2
      by_cases hlt:j+1<vs.length
      ·have hgo:=hR (j+1) (by omega) (by omega)
       clear hR;have e1:=getD_map dC vs [] hlt;have hk:=nj (vs.getD (j+1) []);have r1:=row0 hlt;have hcs:(vs.getD (j+1) []=[]∧aD Tryz.prog 259 [.agg [.s c, .s sl, .s q], .s (vs.getD (j+1) [])] (.tup [.agg [N (lM q c sl (vs.getD (j+1) [])),N (lR q c sl (vs.getD (j+1) []))],E 0]))∨(vs.getD (j+1) []≠[]∧aD Tryz.prog 260 [.agg [.s c, .s sl, .s q], .s (vs.getD (j+1) [])] (.tup [.agg [N (lM q c sl (vs.getD (j+1) [])),N (lR q c sl (vs.getD (j+1) []))],E 0])):=by
        by_cases h:vs.getD (j+1) []=[]
        ·refine .inl ⟨h,?_⟩;rw[h,lM,lR,if_pos rfl,if_pos rfl,eq];exact CH c sl q []
        ·obtain⟨k1,k3⟩:=hv _ (ay [] hlt);refine .inr ⟨h,?_⟩;rw[lM,lR,if_neg h,if_neg h];exact qP (q:=q) hr k1 h k3
       generalize lM q c sl (vs.getD (j+1) [])=A at*;generalize lR q c sl (vs.getD (j+1) [])=B at*;generalize vs.getD (j+1) []=b at*;simp only[dC]at e1 hk;rcases hcs with⟨hb,hi1⟩|⟨hb,hi1⟩
       all_goals
        first|rw[if_pos hb]at hk|rw[if_neg hb]at hk
        rw[r1]at hgo;repeat' first|simp only[go_sem,seval,l2,e1,q1,q2]|refine cP hk ?_|refine cP hi1 ?_|refine sB ?_|(first|apply pX|apply bX)<;>intro hc|refine⟨oD,?_⟩|exact oD|fail
        refine hgo _ ?_
        (refine AS.Le.of (by first|decide|omega) ?_ ?_<;>simp[cl,cj,aF,ar,AV.bd,AV.bd.bdL,u8,ah,ai,aq])
        all_goals (intro c hc;rcases hc with h|h|h<;>first|exact ey h|(subst h;rfl))
      ·obtain hjv:j+1=vs.length:=by omega
       rw[hjv,cM]at q1 q2;rw[hjv,cM];have q3:=fx hL vs;have q4:=dL hL vs;repeat' first|simp only[go_sem,seval,l2,q1,q2,q3,q4,fy]|refine sB ?_|(first|apply pX|apply bX)<;>intro hc|refine⟨oD,?_⟩|exact oD|fail
       all_goals skip
   ·obtain rfl:vs=[]:=jz.1 (by omega)
    repeat' first|simp only[go_sem,seval,l2]|(refine ae ?_)|refine sB ?_|(first|apply pX|apply bX)<;>intro hc|refine⟨oD,?_⟩|exact oD|fail
theorem Cu {c sl:Bytes} {s:dy} (h:EJ c sl s):aD Tryz.prog 168 [.agg [.s c, .s sl],s.pv] (.tup [.sl (s.vars.map fun b=>N (lM (bK s.groups) c sl b)), .sl (s.vars.map fun b=>N (lR (bK s.groups) c sl b)),E 0]):=by
 have hb:=xf h;have nv:=h.g.nv;obtain⟨gs,vs,es⟩:=s;simp only at hb nv⊢;clear h;generalize bK gs=o at*;have l2:(vs.map (lP o c sl)).length=vs.length:=aH ..;unfold dy.pv at*;simp only at*
 by_cases hpos:0<vs.length
 rotate_left
 ·obtain rfl:vs=[]:=jz.1 (by omega)
  refine eW Tryz.call168 Tryz.func168 ?_;repeat' first|simp only[go_sem,seval]|refine cP hb ?_|(refine ae ?_)|refine sB ?_|(first|apply pX|apply bX)<;>intro hc|refine⟨oD,?_⟩|exact oD|fail
 have hM:eQ (fun b=>N (lM o c sl b)) 1:=⟨fun _=>rfl,fun _ y hy=>by cases cO.1 hy;rfl,fun _ _=>rfl,fun h=>absurd rfl h⟩
 have hR0:eQ (fun b=>N (lR o c sl b)) 1:=⟨fun _=>rfl,fun _ y hy=>by cases cO.1 hy;rfl,fun _ _=>rfl,fun h=>absurd rfl h⟩
 have row1: ∀{i:Nat},i<vs.length→bJ (fun b=>N (lM o c sl b)) (vs.take (i+1))=bJ (fun b=>N (lM o c sl b)) (vs.take i)++[.v (N (lM o c sl (vs.getD i [])))]:=fun h=>by
  rw[bj [] h,dM];rfl
 have Ss: ∀{i:Nat},i<vs.length→bJ (fun b=>N (lR o c sl b)) (vs.take (i+1))=bJ (fun b=>N (lR o c sl b)) (vs.take i)++[.v (N (lR o c sl (vs.getD i [])))]:=fun h=>by
  rw[bj [] h,dM];rfl
 refine eW Tryz.call168 Tryz.func168 ?_;repeat' first|simp only[go_sem,seval,l2]|refine cP hb ?_|refine sB ?_|(first|apply pX|apply bX)<;>intro hc|refine⟨oD,?_⟩|exact oD|fail
 refine ae ?_;have e1:=getD_map (lP o c sl) vs [] hpos;have r1:=row1 hpos;have r2:=Ss hpos;simp only[lP]at e1;repeat' first|simp only[go_sem,seval,l2,e1]|refine sB ?_|(first|apply pX|apply bX)<;>intro hc|refine⟨oD,?_⟩|exact oD|fail
 refine aj (α:=Nat) (fun j=>vs.length-(j+1)) (fun j=>⟨[(9, .rs 1029 j 0 (j+1) 1),(10, .rs 1034 j 0 (j+1) 1),(22, .v (.sl (vs.map (lP o c sl)))),(23,E' vs.length),(24,E' (j+1))],[(1029,⟨j,bJ (fun b=>N (lM o c sl b)) (vs.take (j+1)),true,some 22⟩),(1034,⟨j,bJ (fun b=>N (lR o c sl b)) (vs.take (j+1)),true,some 22⟩)],1039⟩) (fun j=>j+1≤vs.length) 0 (fun _=>bQ rfl) hpos ?_ ?_
 ·rw[cW,r1,r2,List.take_zero,show bJ (fun b=>N (lM o c sl b)) []=[]from rfl,show bJ (fun b=>N (lR o c sl b)) []=[]from rfl]
  exact lE
 ·intro j hj R hR;have hj1:(vs.take (j+1)).length=j+1:=by rw[cG];omega
  have q1:=dI hM (vs.take (j+1));have q2:=dT hM (vs.take (j+1));have q5:=dI hR0 (vs.take (j+1));have q6:=dT hR0 (vs.take (j+1));rw[hj1,dP]at q1 q2 q5 q6
  by_cases hlt:j+1<vs.length
  ·have e1:=getD_map (lP o c sl) vs [] hlt;have r1:=row1 hlt;have r2:=Ss hlt;simp only[lP]at e1;have hgo:=hR (j+1) (by omega) (by omega)
   rw[r1,r2]at hgo;clear hR;repeat' first|simp only[go_sem,seval,l2,e1,q1,q2,q5,q6]|refine sB ?_|(first|apply pX|apply bX)<;>intro hc|refine⟨oD,?_⟩|exact oD|fail
   refine hgo _ ?_
   (refine AS.Le.of (by first|decide|omega) ?_ ?_<;>simp[cl,cj,aF,ar,AV.bd,AV.bd.bdL,u8,ah,ai,aq])
   all_goals (refine⟨?_,?_⟩<;>(intro c hc;rcases hc with h|h<;>first|exact ey h|(subst h;rfl)))
  ·obtain hjv:j+1=vs.length:=by omega
   rw[hjv,cM]at q1 q2 q5 q6;rw[hjv,cM];have q3:=fx hM vs;have q4:chunk 1 vs.length (List.flatMap (fun x=>[PV.s (aP (lM o c sl x))]) vs)=vs.map fun b=>N (lM o c sl b):=dL hM vs
   have q7:=fx hR0 vs;have q8:chunk 1 vs.length (List.flatMap (fun x=>[PV.s (aP (lR o c sl x))]) vs)=vs.map fun b=>N (lR o c sl b):=dL hR0 vs
   repeat' first|simp only[go_sem,seval,l2,q1,q2,q3,q4,q5,q6,q7,q8,fy]|refine sB ?_|(first|apply pX|apply bX)<;>intro hc|refine⟨oD,?_⟩|exact oD|fail
   all_goals skip
end Go.Proofs.YtmobkhegihemeaaGreatDoor
