/- Part of the proof. -/
import Derived.OrdersIn
import Derived.RangeFuncOwn
import Derived.Test.YtkmahpcpmgedkaaGreatDoorFB7
set_option linter.all false
namespace Go.Dom
open Go.RowKit
variable {P:Program}
def fQ (rd:Rd) (w w':World):Rd:=fun b o=>if b<w.heap.size then rd b o else w'.cell? ⟨b,o,none⟩
def Enters (P:Program) (f g:FuncId):Prop:= ∀(args:Array Value) (w:World),(callFunc f args).run P w= .ok (.enter g args) w
def ry (P:Program) [cu P] (f:FuncId) (args:List PV) (r:PV):Prop:=
 ∃g,Enters P f g/\ ∀(w:World) (rd:Rd) (vs:List Value),(∀b o v,TR P b o=some v->rd b o=some v)->(∀b o v,rd b o=some v->w.cell? ⟨b,o,none⟩=some v)->bI (PR rd) args vs->
  Calls P g vs.toArray w fun e w'=> ∃v,e= .returned v/\Below w.heap.size w w'/\PR (fQ rd w w') r v
structure Env (P:Program) [cu P] where
 w0:World
 rd0:Rd
 wr:Nat->Prop
 nt:Nat
 C0:Cx
 df:List Deferred
 lo: ∀n,C0.al n->n<1000
 gl: ∀b o v,TR P b o=some v->C0.rd b o=some v
 fr:Nat
 pin:List (Nat×Obj)
 ro:Option Nat
 Ce:Cx
 frl:w0.heap.size<=fr
 mkw: ∀p∈pin,¬wr p.1
 ln:List Nat
 lnf: ∀b∈ln,b<fr/\ ¬wr b
theorem Env.Fi [cu P] (E:Env P) {b:Nat} (h:b<E.w0.heap.size\/b∈E.ln):b<E.fr:=h.elim (fun h=>bH h E.frl) fun h=>(E.lnf b h).1
structure TV {P:Program} [cu P] (E:Env P) (w:World):Prop where
 wf:Wf E.wr E.w0 w
 fr:E.fr<=w.heap.size
 pn: ∀p∈E.pin,w.heap[p.1]?=some p.2
theorem TV.trans [cu P] {E:Env P} {w w':World} (h:TV E w) (k:Wf E.wr w w'):TV E w':=
 ⟨h.wf.trans k,fZ h.fr k.size,fun p hp=>(k.blk p.1 (j5.1 (h.pn p hp)).1 (E.mkw p hp)).trans (h.pn p hp)⟩
theorem TV.size [cu P] {E:Env P} {w:World} (h:TV E w):E.w0.heap.size<=w.heap.size:=h.wf.size
structure Wx {P:Program} [cu P] (E:Env P) (C:Cx):Prop where
 c0:E.C0.Le C
 ce:E.Ce.Le C
theorem Wx.trans [cu P] {E:Env P} {C D:Cx} (h:Wx E C) (k:C.Le D):Wx E D:=⟨h.c0.trans k,h.ce.trans k⟩
theorem Wx.rd [cu P] {E:Env P} {C:Cx} (h:Wx E C) (b o:Nat) (v:Value) (hv:E.C0.rd b o=some v):C.rd b o=some v:=h.c0.rd b o v hv
def SR {P:Program} [cu P] (E:Env P) (al:Nat->Prop) (tf:Nat->AV) (hf:Nat->Option aF) (a:Act) (w:World):Prop:=
 ∃C:Cx,(∀n,C.al n↔al n)/\HR C hf E.wr w/\(∀b,b<E.w0.heap.size\/b∈E.ln->C.rd b=E.rd0 b)/\(TV E w/\Wx E C/\ ∀n ob,hf n=some ob->(E.C0.al n/\C.mu n=E.C0.mu n)\/E.w0.heap.size<=C.mu n)/\a.defers=E.df/\a.tmps.size=E.nt/\ ∀k,AR C (tf k) (a.tmps.getD k undef)
def pf (tf:Nat->AV) (d:Option Nat) (v:AV):Nat->AV:=
 match d with
 |some d=>fun k=>if k=d then v else tf k
 |none=>tf
def GL (g:Option (Nat×Bool)) (tf:Nat->AV):Option Bool:=
 match g with
 |none=>some true
 |some (t,want)=>match tf t with
  | .v (.b x)=>some (x==want)
  | .v (.tup [])=>some false
  | _=>none
def EM (fv:AV) (avs:List AV):Option (FuncId×List AV):=
 match fv.nz with
 | .v (.fn (.func f))=>some (f,avs)
 | .fn (.func f) a c=>some (f,a++(avs++c))
 | _=>none
def og (l:List AV):Option (List PV):=
 bz (fun x=>match x with
  | .agg l=>if l.all AV.one then(bz AV.B8 l).map .agg else none
  |x=>x.B8) l
def mw (P:Program) [cu P] (f:FuncId) (nm:Nat) (hs:List (Nat×aF)) (avs:List AV) (v:AV) (up:List (Nat×Option aF)):Prop:=
 ∃g,Enters P f g/\ ∀(C:Cx) (hf:Nat->Option aF) (wr:Nat->Prop) (w:World) (base:Nat) (vs:List Value),(∀b o v,TR P b o=some v->C.rd b o=some v)->HR C hf wr w->(∀b,base<=b->wr b)->base<=w.heap.size->(∀p∈hs,hf p.1=some p.2)-> ¬C.al nm->bI (AR C) avs vs->
  Calls P g vs.toArray w fun e w'=> ∃val C',e= .returned val/\AR C' v val/\HR C' (fT hf up) wr w'/\C.Le C'/\(∀n,C'.al n↔C.al n\/n=nm)/\Wf wr w w'/\(∀b,b<base->C'.rd b=C.rd b)/\Cy base C C' hf (fT hf up)
def Zr (P:Program) (f:FuncId):Prop:= ∀(v:Value) (w:World),(callFunc f #[v]).run P w= .ok (.value v) w
def Zs (P:Program) (f:FuncId) (args:List PV) (r:PV):Prop:= ∀(rd:Rd) (vs:List Value) (w:World),bI (PR rd) args vs-> ∃v,(callFunc f vs.toArray).run P w= .ok (.value v) w/\PR rd r v
inductive ml (P:Program) [cu P] (nm:Nat) (hf:Nat->Option aF) (fv:AV) (as:List AV):AO->Prop where
 |pure (f:FuncId) (avs:List AV) (pvs:List PV) (r:PV) (hfv:EM fv as=some (f,avs)) (hargs:og avs=some pvs) (he:ry P f pvs r):ml P nm hf fv as ⟨.v r,True,[],[]⟩
 |view (f:FuncId) (avs:List AV) (pvs:List PV) (r:PV) (hfv:EM fv as=some (f,avs)) (hargs:bz (view hf 9) avs=some pvs) (hr:r.flat=true) (he:ry P f pvs r):ml P nm hf fv as ⟨.v r,True,avs.flatMap (aV hf 9),[]⟩
 |kN (f:FuncId) (avs:List AV) (pvs:List PV) (r:PV) (hfv:EM fv as=some (f,avs)) (hargs:bz (view hf 9) avs=some pvs) (hlo: ∀n∈avs.flatMap (aV hf 9),1000<=n) (he:ry P f pvs r):ml P nm hf fv as ⟨.v r,True,avs.flatMap (aV hf 9),(avs.flatMap (aV hf 9)).map fun n=>(n,none)⟩
 |eff (f:FuncId) (avs:List AV) (hs:List (Nat×aF)) (v:AV) (up:List (Nat×Option aF)) (hfv:EM fv as=some (f,avs)) (hhs: ∀p∈hs,hf p.1=some p.2) (he:mw P f nm hs avs v up):ml P nm hf fv as ⟨v,True,hs.map (·.1),up⟩
 |same (f:FuncId) (v:AV) (hfv:EM fv as=some (f,[v])) (he:Zr P f):ml P nm hf fv as ⟨v,True,[],[]⟩
 |ext (f:FuncId) (avs:List AV) (pvs:List PV) (r:PV) (hfv:EM fv as=some (f,avs)) (hargs:og avs=some pvs) (he:Zs P f pvs r):ml P nm hf fv as ⟨.v r,True,[],[]⟩
def S2 (P:Program) [cu P] (nm:Nat) (o:SO) (tf:Nat->AV) (hf:Nat->Option aF) (ao:AO):Prop:=
 match o with
 | .call f args=>ml P nm hf (f.ev tf) (args.map (SX.ev tf)) ao
 |o=>fm nm o tf hf=some ao/\ao.pre
def mO (P:Program) [cu P] (nx k:Nat) (so:kA) (tf:Nat->AV) (hf:Nat->Option aF) (tf':Nat->AV) (hf':Nat->Option aF) (rs ws:List Nat):Prop:=
 (GL so.g tf=some false/\tf'=pf tf so.d (.v (.tup []))/\hf'=hf/\rs=[]/\ws=[])\/
 (GL so.g tf=some true/\ ∃ao,S2 P (nx+k) so.o tf hf ao/\tf'=pf tf so.d ao.v/\hf'=fT hf ao.up/\rs=ao.rs/\ws=ao.up.map (·.1))
section
variable {P:Program} [cu P] {E:Env P} {al:Nat->Prop} {tf:Nat->AV} {hf:Nat->Option aF} {a:Act} {w:World}
variable {wr:Nat->Prop}
theorem sj {C:Cx} {d:Option Nat} {v:AV} {val:Value} (hd: ∀k,d=some k->k<a.tmps.size) (h: ∀k,AR C (tf k) (a.tmps.getD k undef)) (hv:AR C v val): ∀k,AR C (pf tf d v k) ((a.put d val).tmps.getD k undef):=by
 intro k
 cases d with
 |none=>exact h k
 |some d=>
  have hlt:=hd d rfl;simp only[pf,Act.put]
  by_cases e:k=d
  ·subst e;rw[ah rfl];simpa[iT,hlt]using hv
  ·rw[ae e];have:=h k;simpa[iT,yx (nT e)]using this
theorem mW (a:Act) (d:Option Nat) (v:Value):(a.put d v).tmps.size=a.tmps.size:=by cases d<;>simp[Act.put]
theorem put_defers (a:Act) (d:Option Nat) (v:Value):(a.put d v).defers=a.defers:=by cases d<;>rfl
theorem mY {C D:Cx} (hle:C.Le D) (h: ∀k,AR C (tf k) (a.tmps.getD k undef)): ∀k,AR D (tf k) (a.tmps.getD k undef):=fun k=>(h k).mono hle
theorem Tg {C:Cx} {ops:Array Oper} {o:Oper} {g:Option (Nat×Bool)} (hg:o.guard.map (fun p=>(((ops[p.1]?).bind (·.dst)),p.2))=g.map fun p=>(some p.1,p.2)) (hlt: ∀p,g=some p->p.1<a.tmps.size) (h: ∀k,AR C (tf k) (a.tmps.getD k undef)) {b:Bool} (hb:GL g tf=some b):
  Region.wanted o (yielded ops a.tmps)=b:=by
 cases g with
 |none=>
  simp only[Option.map_none,Option.map_eq_none_iff]at hg;simp only[GL,aj]at hb;simp[Region.wanted,hg,hb]
 |some p=>
  obtain⟨t,want⟩:=p;simp only[Option.map_some,eL,dU]at hg;obtain⟨⟨j,want'⟩,hgo,hd,rfl⟩:=hg;have ht:=h t;have hlt':=hlt _ rfl;simp only[GL]at hb;simp only at hd hlt';have az:a.tmps[t]?=some (a.tmps.getD t undef):=by simp[iT,hlt']
  split at hb
  ·rename_i x hx;rw[hx]at ht;simp only[aj]at hb;simp only[Region.wanted,hgo,yielded,hd,Option.bind_some,az,zB ht];rw[<-hb]
   cases x<;>cases want'<;>rfl
  ·rename_i hx;rw[hx]at ht;simp only[aj]at hb;have hu:a.tmps.getD t undef= .tuple #[]:=by
    generalize a.tmps.getD t undef=u at ht
    cases ht with
    |v ht=>cases ht with
     |tup l vs hl _=>
      have:vs=[]:=kX (by simpa using hl.symm)
      subst this;rfl
   simp only[Region.wanted,hgo,yielded,hd,Option.bind_some,az,hu];rw[<-hb];rfl
  ·cases hb
theorem Ob {C:Cx} {l:List AV} {ys:List PV} {vs:List Value} (h:bI (AR C) l vs) (hl:og l=some ys):bI (PR C.rd) ys vs:=by
 unfold og at hl;obtain⟨m1,m2⟩:=cK hl;refine⟨by rw[<-m1];exact h.1,fun k y v hy hv=> ?_⟩
 have hk:k<l.length:=by have:=(cC.1 hy).1;omega
 have hx:l[k]?=some l[k]:=by simp[hk]
 have hxy:=m2 k _ y hx hy;have hxv:=h.2 k _ v hx hv;generalize l[k]=x at hxy hxv
 by_cases hag: ∃m,x= .agg m
 ·obtain⟨m,rfl⟩:=hag;simp only at hxy
  split at hxy
  ·rename_i hall;simp only[eL]at hxy;obtain⟨zs,hzs,rfl⟩:=hxy
   cases hxv with
   |agg _ us hl' h'=>
    obtain⟨p1,p2⟩:=Oc ⟨hl',h'⟩ hzs hall;exact .agg zs us p2 p1.1 p1.2
  ·cases hxy
 ·have hxy':x.B8=some y:=by
   cases x<;>first|exact hxy|exact aW ⟨_,rfl⟩ hag
  exact Hc hxv hxy'
def Cx.after (C:Cx) (w w':World) (nm:Nat):Cx:={C with rd:=fQ C.rd w w',al:=fun n=>C.al n\/n=nm}
theorem Cx.zI {C:Cx} (h:HR C hf wr w) (w':World) (nm:Nat):C.Le (C.after w w' nm):=by
 refine⟨fun b o v hv=> ?_,fun _ h=> .inl h,fun _ _ d h=>⟨d,h,ay _,fun _=>⟨rfl,rfl⟩⟩,fun _ _=>⟨rfl,fun _=>rfl⟩⟩
 have:=jc (h.rdw _ _ _ hv);simp[Cx.after,fQ,this,hv]
theorem HR.after {C:Cx} (h:HR C hf wr w) {w':World} (hb:Below w.heap.size w w') (nm:Nat):HR (C.after w w' nm) hf wr w':=by
 have hle:=Cx.zI h w' nm;refine⟨?_,?_,h.dead,?_,h.inj,h.wr,?_,?_,?_⟩
 ·intro b o v hv;simp only[Cx.after,fQ]at hv
  split at hv
  ·rename_i hlt;rw[kV (hb.block b hlt)];exact h.rdw _ _ _ hv
  ·exact hv
 ·exact fun n ob hn=>⟨.inl (h.live n ob hn).1,(h.live n ob hn).2⟩
 ·intro n ob hn k;have:=h.fS hn;simp only[Cx.after,fQ,this,au];exact h.sep n ob hn k
 ·intro n ob hn hk;obtain⟨cs,el,h1,h2,h3,h4,h5⟩:=h.obj n ob hn hk;exact⟨cs,el,(hb.block _ (h.fS hn)).trans h1,h2,h3,h4,fun k x v hx hv=>(h5 k x v hx hv).mono hle⟩
 ·intro n ob hn hk t ht;obtain⟨cs,h1⟩:=h.typ n ob hn hk t ht;exact⟨cs,(hb.block _ (h.fS hn)).trans h1⟩
 ·intro n ob hn hk;obtain⟨es,clk,h1,h2⟩:=h.mp n ob hn hk;exact⟨es,clk,(hb.block _ (h.fS hn)).trans h1,h2.mono hle.rd⟩
theorem Wf.below {w w':World} (hb:Below w.heap.size w w'):Wf wr w w':=⟨hb.os,hb.tape,hb.output,hb.size,fun b hlt _=>hb.block b hlt⟩
def cQ (C:Cx) (hf:Nat->Option aF) (w:World) [∀b,Decidable (∃n ob,hf n=some ob/\C.mu n=b)]:Rd:=fun b o=>if(∃n ob,hf n=some ob/\C.mu n=b)then w.cell? ⟨b,o,none⟩else C.rd b o
theorem JQ (z n:Nat) (l:List PV):(chunk z n l).length=n:=by
 induction n generalizing l with
 |zero=>rfl
 |succ n ih=>simp[chunk,ih]
theorem Mu (z:Nat): ∀(n:Nat) (l:List PV),l.length=n*z->(∀c∈l,c.one=true)->(chunk z n l).flatMap PV.cells=l/\ ∀x∈chunk z n l,x.cells.length=z:=by
 intro n
 induction n with
 |zero=>intro l hl _;simp at hl;subst hl;simp[chunk]
 |succ n ih=>
  intro l hl h1;have hl':l.length=n*z+z:=by rw[hl,iN]
  obtain⟨i1,i2⟩:=ih (l.drop z) (by simp;omega) fun c hc=>h1 c (pH hc)
  have hhead: ∀x,x=(if z=1 then(l.headD .fn0)else .agg (l.take z))->x.cells=l.take z/\x.cells.length=z:=by
   intro x hx
   by_cases hz:z=1
   ·rw[ah hz]at hx;subst hz
    cases l with
    |nil=>simp at hl'
    |cons c l=>
     have hx:x=c:=hx;rw[hx];have hc:c.one=true:=h1 c (by simp)
     have:c.cells=[c]:=by cases c<;>first|rfl|(simp[PV.one]at hc)
     simp[this]
   ·rw[ae hz]at hx;subst hx;refine⟨rfl,?_⟩;show(l.take z).length=z;simp;omega
  obtain⟨e1,e2⟩:=hhead _ rfl;simp only[chunk,eD];rw[i1,e1];refine⟨uK _ _,fun x hx=> ?_⟩
  rcases cr.1 hx with rfl|hx
  ·exact e2
  ·exact i2 x hx
theorem Pe {fu:Nat} {x:AV} {y:PV} (hx:view hf fu x=some y) (h1:x.one=true):y.one=true:=by
 cases fu with
 |zero=>simp[view]at hx
 |succ fu=>
  cases x<;>simp only[view,AV.one,bm,aj,reduceCtorEq]at hx h1
  case v=>subst hx;exact h1
  case fs=>subst hx;rfl
  case sn=>subst hx;rfl
  case pp=>subst hx;rfl
  case p n ver o=>
   split at hx
   ·split at hx
    ·simp only[eL]at hx;obtain⟨cs,-,rfl⟩:=hx;rfl
    ·cases hx
   ·cases hx
  case rs n ver o len z=>
   split at hx
   ·split at hx
    ·simp only[eL]at hx;obtain⟨cs,-,rfl⟩:=hx;rfl
    ·cases hx
   ·cases hx
  case fn f b c=>exact zS hx
theorem qT {C:Cx} (h:HR C hf wr w) [∀b,Decidable (∃n ob,hf n=some ob/\C.mu n=b)]: ∀(fu:Nat) (x:AV) (y:PV) (v:Value),AR C x v->view hf fu x=some y->PR (cQ C hf w) y v:=by
 have hle: ∀b o v,C.rd b o=some v->cQ C hf w b o=some v:=by
  intro b o v hv;unfold cQ;split
  ·exact h.rdw _ _ _ hv
  ·exact hv
 intro fu
 induction fu with
 |zero=>intro x y v _ hx;simp[view]at hx
 |succ fu ih=>
  have ihL: ∀(l:List AV) (ys:List PV) (vs:List Value),bI (AR C) l vs->bz (view hf fu) l=some ys->bI (PR (cQ C hf w)) ys vs:=by
   intro l ys vs hr hl;obtain⟨m1,m2⟩:=cK hl;refine⟨by rw[<-m1];exact hr.1,fun k y v hy hv=> ?_⟩
   have hk:k<l.length:=by have:=(cC.1 hy).1;omega
   exact ih l[k] y v (hr.2 k _ v (by simp[hk]) hv) (m2 k _ y (by simp[hk]) hy)
  have ihOne: ∀(l:List AV) (ys:List PV),bz (view hf fu) l=some ys->l.all AV.one=true-> ∀y∈ys,y.one=true:=by
   intro l ys hl h1 y hy;obtain⟨m1,m2⟩:=cK hl;obtain⟨k,hk,rfl⟩:=ik hy;have hk':k<l.length:=by omega
   rw[bM]at h1;exact Pe (m2 k l[k] ys[k] (by simp[hk']) (by simp[hk])) (h1 _ (j9 hk'))
  intro x y v hxv hx
  cases hxv with
  |v hp=>simp only[view,aj]at hx;subst hx;exact hp.mono hle
  |fs l q hp=>simp only[view,aj]at hx;subst hx;exact hp.mono hle
  |sn=>simp only[view,aj]at hx;subst hx;exact .sl0
  |mp n b ha hk h=>simp[view]at hx
  |p n ver o b hal hm hcur=>
   simp only[view]at hx
   split at hx
   ·rename_i ob hn
    split at hx
    ·rename_i hcond;obtain⟨hver,hall⟩:=hcond;simp only[eL]at hx;obtain⟨cs,hcs,rfl⟩:=hx;obtain⟨-,hc2⟩:=hcur _ (h.live n ob hn).2;obtain rfl:=hc2 hver.symm;obtain⟨ws,el,g1,g2,g3,g4,g5⟩:=h.obj n ob hn hm;have hr:bI (AR C) ob.cells (ws.toList.take ob.cells.length):=by
      refine⟨by simp;omega,fun k x v hx hv=>g5 k x v hx ?_⟩
      rw[fB]at hv
      split at hv
      ·simpa using hv
      ·cases hv
     have hrp:=ihL _ cs _ hr hcs;have hone:=ihOne _ cs hcs hall;have:=PR.pt (rd:=cQ C hf w) (.agg cs) o (ws.toList.take ob.cells.length) (C.mu n) 0 hone hrp.1 (by
      intro k v hv;have hex: ∃m oc,hf m=some oc/\C.mu m=C.mu n:=⟨n,ob,hn,rfl⟩;simp only[cQ,hex,au];rw[cell_of_heap g1,dq];rw[fB]at hv
      split at hv
      ·simpa using hv
      ·cases hv) hrp.2
     rw[dq]at this;exact this
    ·cases hx
   ·cases hx
  |pp x o vs bk of h1 hl hr hp=>simp only[view,aj]at hx;subst hx;exact .pt x o vs bk of h1 hl (fun k v hv=>hle _ _ _ (hr k v hv)) fun k y v hy hv=>(hp k y v hy hv).mono hle
  |ub=>simp[view]at hx
  |u=>simp[view]at hx
  |agg l vs hl hr=>
   simp only[view]at hx
   split at hx
   ·rename_i hall;simp only[eL]at hx;obtain⟨ys,hys,rfl⟩:=hx;have:=ihL l ys vs ⟨hl,hr⟩ hys;exact .agg ys vs (ihOne l ys hys hall) this.1 this.2
   ·cases hx
  |tup l vs hl hr=>
   simp only[view,eL]at hx;obtain⟨ys,hys,rfl⟩:=hx;have:=ihL l ys vs ⟨hl,hr⟩ hys;exact .tup ys vs this.1 this.2
  |fn f b c va vc hla hlc ha hc=>
   simp only[view]at hx;exact IV hx (fun a' h'=>ihL _ _ _ ⟨hla,ha⟩ h') (fun c' h'=>ihL _ _ _ ⟨hlc,hc⟩ h')
  |rs n ver o len z b o' cap hal hm hcap ho hcur=>
   simp only[view]at hx
   split at hx
   ·rename_i ob hn
    split at hx
    ·rename_i hcond;obtain⟨hver,hlen,hall⟩:=hcond;simp only[eL]at hx;obtain⟨cs,hcs,rfl⟩:=hx;obtain⟨-,hc2⟩:=hcur _ (h.live n ob hn).2;obtain⟨rfl,-⟩:=hc2 hver.symm;obtain⟨ws,el,g1,g2,g3,g4,g5⟩:=h.obj n ob hn hm;have hr:bI (AR C) ob.cells (ws.toList.take ob.cells.length):=by
      refine⟨by simp;omega,fun k x v hx hv=>g5 k x v hx ?_⟩
      rw[fB]at hv
      split at hv
      ·simpa using hv
      ·cases hv
     have hr2:=(hr.drop o).take (len*z);have hrp:=ihL _ cs _ hr2 hcs;have hone:=ihOne _ cs hcs hall;have hcl:cs.length=len*z:=by
      rw[hrp.1];simp;omega
     obtain⟨k1,k2⟩:=Mu z len cs hcl hone;have hchl:=JQ z len cs
     by_cases hl0:len=0
     ·subst hl0;have e:chunk z 0 cs=[]:=rfl;rw[e];exact .sl [] 0 [] (C.mu n) o' cap (by simp) (by simp) (by simp) (by simp) (by simp) (by simp)
     ·have ho':o'=o:=by rcases ho with ho|ho<;>omega
      subst ho';have:=PR.sl (rd:=cQ C hf w) (chunk z len cs) z (((ws.toList.take ob.cells.length).drop o').take (len*z)) (C.mu n) o' cap (by rw[hchl];exact hcap) k2 (by rw[k1];exact hone) (by rw[k1];exact hrp.1)
       (by
        intro k v hv;have hex: ∃m oc,hf m=some oc/\C.mu m=C.mu n:=⟨n,ob,hn,rfl⟩;simp only[cQ,hex,au];rw[cell_of_heap g1];rw[fB]at hv
        split at hv
        ·rw[lC,fB]at hv
         split at hv
         ·simpa using hv
         ·cases hv
        ·cases hv)
       (by rw[k1];exact hrp.2)
      rw[hchl]at this;exact this
    ·cases hx
   ·cases hx
theorem PR.EL {rd rd':Rd} {x:PV} {v:Value} (h:PR rd x v):x.flat=true->PR rd' x v:=by
 have hall: ∀(l:List PV),PV.flat.flatL l=true-> ∀(k:Nat) (y:PV),l[k]?=some y->y.flat=true:=by
  intro l
  induction l with
  |nil=>intro _ k y hy;simp at hy
  |cons x l ih=>
   intro hl k y hy;simp only[PV.flat.flatL,aZ]at hl
   cases k with
   |zero=>simp at hy;subst hy;exact hl.1
   |succ k=>exact ih hl.2 k y (by simpa using hy)
 induction h with
 |b x=>intro _;exact .b x
 |i k n=>intro _;exact .i k n
 |s x=>intro _;exact .s x
 |agg l vs h1 hl _ ih=>intro hf;exact .agg l vs h1 hl fun k x v hx hv=>ih k x v hx hv (hall l hf k x hx)
 |tup l vs hl _ ih=>intro hf;exact .tup l vs hl fun k x v hx hv=>ih k x v hx hv (hall l hf k x hx)
 |sl0=>intro hf;simp[PV.flat]at hf
 |sl=>intro hf;simp[PV.flat]at hf
 |sle=>intro hf;simp[PV.flat]at hf
 |fn f=>intro _;exact .fn f
 |fn0=>intro _;exact .fn0
 |p0=>intro _;exact .p0
 |if0=>intro _;exact .if0
 |ifc t x v _ ih=>intro hf;exact .ifc t x v (ih hf)
 |pt=>intro hf;simp[PV.flat]at hf
 |fc=>intro hf;simp[PV.flat]at hf
end
variable {hf:Nat->Option aF}
theorem iu {α β:Type} {g g':α->Option β} {l:List α} (h: ∀x∈l,g x=g' x):bz g l=bz g' l:=by
 induction l with
 |nil=>rfl
 |cons x l ih=>simp only[bz,h x (by simp),ih fun y hy=>h y (by simp[hy])]
theorem fa {α β:Type} {g g':α->List β} {l:List α} (h: ∀x∈l,g x=g' x):l.flatMap g=l.flatMap g':=by
 induction l with
 |nil=>rfl
 |cons x l ih=>simp only[eD,h x (by simp),ih fun y hy=>h y (by simp[hy])]
theorem uj {hf':Nat->Option aF}: ∀(f:Nat) (x:AV),(∀n∈aV hf f x,hf' n=hf n)->view hf' f x=view hf f x/\aV hf' f x=aV hf f x:=by
 intro f
 induction f with
 |zero=>intro x _;cases x<;>exact⟨rfl,rfl⟩
 |succ f ih=>
  intro x h;cases x
  case agg l=>
   simp only[aV]at h;have hl: ∀x∈l,view hf' f x=view hf f x/\aV hf' f x=aV hf f x:=fun x hx=>ih x fun n hn=>h n (kj.2 ⟨x,hx,hn⟩)
   simp only[view,aV];rw[iu fun x hx=>(hl x hx).1,fa fun x hx=>(hl x hx).2]
   exact⟨rfl,rfl⟩
  case tup l=>
   simp only[aV]at h;have hl: ∀x∈l,view hf' f x=view hf f x/\aV hf' f x=aV hf f x:=fun x hx=>ih x fun n hn=>h n (kj.2 ⟨x,hx,hn⟩)
   simp only[view,aV];rw[iu fun x hx=>(hl x hx).1,fa fun x hx=>(hl x hx).2]
   exact⟨rfl,rfl⟩
  case rs n ver o len z=>
   simp only[aV]at h;have h0:hf' n=hf n:=h n (by simp)
   simp only[view,aV,h0]
   cases hn:hf n with
   |none=>exact⟨rfl,rfl⟩
   |some ob=>
    simp only[hn]at h;have hl: ∀x∈(ob.cells.drop o).take (len*z),view hf' f x=view hf f x/\aV hf' f x=aV hf f x:=fun x hx=>ih x fun n hn=>h n (ka _ (kj.2 ⟨x,hx,hn⟩))
    simp only;rw[iu fun x hx=>(hl x hx).1,fa fun x hx=>(hl x hx).2]
    exact⟨rfl,rfl⟩
  case fn g b c=>
   simp only[aV]at h;have hb: ∀x∈b,view hf' f x=view hf f x/\aV hf' f x=aV hf f x:=fun x hx=>ih x fun n hn=>h n (il.2 (.inl (kj.2 ⟨x,hx,hn⟩)))
   have hc: ∀x∈c,view hf' f x=view hf f x/\aV hf' f x=aV hf f x:=fun x hx=>ih x fun n hn=>h n (il.2 (.inr (kj.2 ⟨x,hx,hn⟩)))
   simp only[view,aV];rw[iu fun x hx=>(hb x hx).1,iu fun x hx=>(hc x hx).1,fa fun x hx=>(hb x hx).2,fa fun x hx=>(hc x hx).2]
   exact⟨rfl,rfl⟩
  case p n ver o=>
   simp only[aV]at h;have h0:hf' n=hf n:=h n (by simp)
   simp only[view,aV,h0]
   cases hn:hf n with
   |none=>exact⟨rfl,rfl⟩
   |some ob=>
    simp only[hn]at h;have hl: ∀x∈ob.cells,view hf' f x=view hf f x/\aV hf' f x=aV hf f x:=fun x hx=>ih x fun n hn=>h n (ka _ (kj.2 ⟨x,hx,hn⟩))
    simp only;rw[iu fun x hx=>(hl x hx).1,fa fun x hx=>(hl x hx).2]
    exact⟨rfl,rfl⟩
  all_goals exact⟨rfl,rfl⟩
def Cx.only (C:Cx) (ns:List Nat):Cx:={C with cur:=fun n=>if n∈ns then C.cur n else none}
def fG (hf:Nat->Option aF) (ns:List Nat):Nat->Option aF:=fun n=>if n∈ns then hf n else none
theorem Cx.xI (C:Cx) (ns:List Nat):C.Le (C.only ns):=by
 refine⟨fun _ _ _ h=>h,fun _ h=>h,fun n _ d h=> ?_,fun _ _=>⟨rfl,fun _=>rfl⟩⟩
 simp only[Cx.only]at h
 split at h
 ·exact⟨d,h,ay _,fun _=>⟨rfl,rfl⟩⟩
 ·cases h
theorem HR.only {C:Cx} {wr:Nat->Prop} {w:World} (h:HR C hf wr w) (ns:List Nat):HR (C.only ns) (fG hf ns) wr w:=by
 have key: ∀n ob,fG hf ns n=some ob->n∈ns/\hf n=some ob:=by
  intro n ob hn;simp only[fG]at hn
  split at hn
  ·rename_i hm;exact⟨hm,hn⟩
  ·cases hn
 refine⟨h.rdw,?_,?_,?_,?_,?_,?_,?_,fun n ob hn=>h.mp n ob (key n ob hn).2⟩
 ·intro n ob hn;obtain⟨hm,hn⟩:=key n ob hn;obtain⟨h1,h2⟩:=h.live n ob hn;exact⟨h1,by simp only[Cx.only,hm,au];exact h2⟩
 ·intro n hn;simp only[Cx.only];split
  ·rename_i hm;simp only[fG,hm,au]at hn;exact h.dead n hn
  ·rfl
 ·intro n ob hn k;exact h.sep n ob (key n ob hn).2 k
 ·intro n m ob oc hn hm he;exact h.inj n m ob oc (key n ob hn).2 (key m oc hm).2 he
 ·intro n ob hn;exact h.wr n ob (key n ob hn).2
 ·intro n ob hn hk;obtain⟨cs,el,h1,h2,h3,h4,h5⟩:=h.obj n ob (key n ob hn).2 hk;exact⟨cs,el,h1,h2,h3,h4,fun k x v hx hv=>(h5 k x v hx hv).mono (C.xI ns)⟩
 ·intro n ob hn hk t ht;exact h.typ n ob (key n ob hn).2 hk t ht
theorem jN (ns:List Nat): ∀(hf:Nat->Option aF) (n:Nat),fT hf (ns.map fun n=>(n,none)) n=if n∈ns then none else hf n:=by
 induction ns with
 |nil=>intro hf n;simp
 |cons m ns ih=>
  intro hf n;simp only[br,fT,ih,cr]
  by_cases h1:n∈ns
  ·simp[h1]
  ·by_cases h2:n=m<;>simp[h1,h2]
def Cx.o5 (C:Cx) (rd:Rd) (w w':World) (ns:List Nat) (nm:Nat):Cx:={C with rd:=fQ rd w w',al:=fun n=>C.al n\/n=nm,cur:=fun n=>if n∈ns then none else C.cur n}
theorem HR.o5 {C:Cx} {wr:Nat->Prop} {w w':World} (h:HR C hf wr w) (hb:Below w.heap.size w w') (ns:List Nat) (nm:Nat) [∀b,Decidable (∃n ob,fG hf ns n=some ob/\(C.only ns).mu n=b)]:
  C.Le (C.o5 (cQ (C.only ns) (fG hf ns) w) w w' ns nm)/\HR (C.o5 (cQ (C.only ns) (fG hf ns) w) w w' ns nm) (fT hf (ns.map fun n=>(n,none))) wr w':=by
 have key: ∀n ob,fT hf (ns.map fun n=>(n,none)) n=some ob->n∉ns/\hf n=some ob:=by
  intro n ob hn;rw[jN]at hn
  split at hn
  ·cases hn
  ·rename_i hm;exact⟨hm,hn⟩
 have hle:C.Le (C.o5 (cQ (C.only ns) (fG hf ns) w) w w' ns nm):=by
  refine⟨fun b o v hv=> ?_,fun _ h=> .inl h,fun n _ d hd=> ?_,fun _ _=>⟨rfl,fun _=>rfl⟩⟩
  ·have hlt:=jc (h.rdw _ _ _ hv);simp only[Cx.o5,fQ,hlt,au,cQ];split
   ·exact h.rdw _ _ _ hv
   ·exact hv
  ·simp only[Cx.o5]at hd
   split at hd
   ·cases hd
   ·exact⟨d,hd,ay _,fun _=>⟨rfl,rfl⟩⟩
 refine⟨hle,?_,?_,?_,?_,?_,?_,?_,?_,?_⟩
 ·intro b o v hv;simp only[Cx.o5,fQ]at hv
  split at hv
  ·rename_i hlt;rw[kV (hb.block b hlt)];simp only[cQ]at hv
   split at hv
   ·exact hv
   ·exact h.rdw _ _ _ hv
  ·exact hv
 ·intro n ob hn;obtain⟨hm,hn⟩:=key n ob hn;obtain⟨h1,h2⟩:=h.live n ob hn;exact⟨.inl h1,by simp only[Cx.o5,hm,an];exact h2⟩
 ·intro n hn;simp only[Cx.o5];split
  ·rfl
  ·rename_i hm;rw[jN,ae hm]at hn;exact h.dead n hn
 ·intro n ob hn k;obtain⟨hm,hn⟩:=key n ob hn;have hlt:=h.fS hn;show fQ (cQ (C.only ns) (fG hf ns) w) w w' (C.mu n) k=none;simp only[fQ,hlt,au,cQ];split
  ·rename_i hex;obtain⟨m,oc,hmm,hmu⟩:=hex
   exfalso
   simp only[fG]at hmm
   split at hmm
   ·rename_i hmem;have:m=n:=h.inj m n oc ob hmm hn hmu;subst this;exact hm hmem
   ·cases hmm
  ·exact h.sep n ob hn k
 ·intro n m ob oc hn hm he;exact h.inj n m ob oc (key n ob hn).2 (key m oc hm).2 he
 ·intro n ob hn;exact h.wr n ob (key n ob hn).2
 ·intro n ob hn hk;have hn:=(key n ob hn).2;obtain⟨cs,el,h1,h2,h3,h4,h5⟩:=h.obj n ob hn hk;exact⟨cs,el,(hb.block _ (h.fS hn)).trans h1,h2,h3,h4,fun k x v hx hv=>(h5 k x v hx hv).mono hle⟩
 ·intro n ob hn hk t ht;have hn:=(key n ob hn).2;obtain⟨cs,h1⟩:=h.typ n ob hn hk t ht;exact⟨cs,(hb.block _ (h.fS hn)).trans h1⟩
 ·intro n ob hn hk;have hn:=(key n ob hn).2;obtain⟨es,clk,h1,h2⟩:=h.mp n ob hn hk;exact⟨es,clk,(hb.block _ (h.fS hn)).trans h1,h2.mono hle.rd⟩
