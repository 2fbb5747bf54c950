/- Part of the proof. -/
import Derived.OrdersIn
import Derived.RangeFuncOwn
import Derived.Test.YtipbhapfacgabaaGreatDoorUH7
set_option linter.all false
namespace Go.Dom
open Go.RowKit
variable {P:Program}
def fW (rd:Rd) (w w':World):Rd:=fun b o=>if b<w.heap.size then rd b o else w'.cell? ⟨b,o,none⟩
def Enters (P:Program) (f g:FuncId):Prop:= ∀(args:Array Value) (w:World),(callFunc f args).run P w= .ok (.enter g args) w
def qO (P:Program) [ct P] (f:FuncId) (args:List PV) (r:PV):Prop:=
 ∃g,Enters P f g/\ ∀(w:World) (rd:Rd) (vs:List Value),(∀b o v,TR P b o=some v->rd b o=some v)->(∀b o v,rd b o=some v->w.cell? ⟨b,o,none⟩=some v)->bC (PR rd) args vs->
  Calls P g vs.toArray w fun e w'=> ∃v,e= .returned v/\Below w.heap.size w w'/\PR (fW rd w w') r v
structure Env (P:Program) [ct P] where
 w0:World
 rd0:Rd
 wr:Nat->Prop
 nt:Nat
 C0:Cx
 df:List Deferred
 lo: ∀n,C0.al n->n<1000
 gl: ∀b o v,TR P b o=some v->C0.rd b o=some v
 fr:Nat
 pin:List (Nat×Obj)
 ro:Option Nat
 Ce:Cx
 frl:w0.heap.size<=fr
 mkw: ∀p∈pin,¬wr p.1
 ln:List Nat
 lnf: ∀b∈ln,b<fr/\ ¬wr b
theorem Env.EU [ct P] (E:Env P) {b:Nat} (h:b<E.w0.heap.size\/b∈E.ln):b<E.fr:=h.elim (fun h=>ba h E.frl) fun h=>(E.lnf b h).1
structure Tq {P:Program} [ct P] (E:Env P) (w:World):Prop where
 wf:Wf E.wr E.w0 w
 fr:E.fr<=w.heap.size
 pn: ∀p∈E.pin,w.heap[p.1]?=some p.2
theorem Tq.trans [ct P] {E:Env P} {w w':World} (h:Tq E w) (k:Wf E.wr w w'):Tq E w':=
 ⟨h.wf.trans k,fV h.fr k.size,fun p hp=>(k.blk p.1 (mI.1 (h.pn p hp)).1 (E.mkw p hp)).trans (h.pn p hp)⟩
theorem Tq.size [ct P] {E:Env P} {w:World} (h:Tq E w):E.w0.heap.size<=w.heap.size:=h.wf.size
structure Wq {P:Program} [ct P] (E:Env P) (C:Cx):Prop where
 c0:E.C0.Le C
 ce:E.Ce.Le C
theorem Wq.trans [ct P] {E:Env P} {C D:Cx} (h:Wq E C) (k:C.Le D):Wq E D:=⟨h.c0.trans k,h.ce.trans k⟩
theorem Wq.rd [ct P] {E:Env P} {C:Cx} (h:Wq E C) (b o:Nat) (v:Value) (hv:E.C0.rd b o=some v):C.rd b o=some v:=h.c0.rd b o v hv
def SR {P:Program} [ct P] (E:Env P) (al:Nat->Prop) (tf:Nat->AV) (hf:Nat->Option aC) (a:Act) (w:World):Prop:=
 ∃C:Cx,(∀n,C.al n↔al n)/\HR C hf E.wr w/\(∀b,b<E.w0.heap.size\/b∈E.ln->C.rd b=E.rd0 b)/\(Tq E w/\Wq E C/\ ∀n ob,hf n=some ob->(E.C0.al n/\C.mu n=E.C0.mu n)\/E.w0.heap.size<=C.mu n)/\a.defers=E.df/\a.tmps.size=E.nt/\ ∀k,AR C (tf k) (a.tmps.getD k undef)
def oL (tf:Nat->AV) (d:Option Nat) (v:AV):Nat->AV:=
 match d with
 |some d=>fun k=>if k=d then v else tf k
 |none=>tf
def Gs (g:Option (Nat×Bool)) (tf:Nat->AV):Option Bool:=
 match g with
 |none=>some true
 |some (t,want)=>match tf t with
  | .v (.b x)=>some (x==want)
  | .v (.tup [])=>some false
  | _=>none
def Ew (fv:AV) (avs:List AV):Option (FuncId×List AV):=
 match fv.nz with
 | .v (.fn (.func f))=>some (f,avs)
 | .fn (.func f) a c=>some (f,a++(avs++c))
 | _=>none
def mF (l:List AV):Option (List PV):=
 aU (fun x=>match x with
  | .agg l=>if l.all AV.one then(aU AV.DR l).map .agg else none
  |x=>x.DR) l
def jU (P:Program) [ct P] (f:FuncId) (nm:Nat) (hs:List (Nat×aC)) (avs:List AV) (v:AV) (up:List (Nat×Option aC)):Prop:=
 ∃g,Enters P f g/\ ∀(C:Cx) (hf:Nat->Option aC) (wr:Nat->Prop) (w:World) (base:Nat) (vs:List Value),(∀b o v,TR P b o=some v->C.rd b o=some v)->HR C hf wr w->(∀b,base<=b->wr b)->base<=w.heap.size->(∀p∈hs,hf p.1=some p.2)-> ¬C.al nm->bC (AR C) avs vs->
  Calls P g vs.toArray w fun e w'=> ∃val C',e= .returned val/\AR C' v val/\HR C' (fY hf up) wr w'/\C.Le C'/\(∀n,C'.al n↔C.al n\/n=nm)/\Wf wr w w'/\(∀b,b<base->C'.rd b=C.rd b)/\BI base C C' hf (fY hf up)
def Zf (P:Program) (f:FuncId):Prop:= ∀(v:Value) (w:World),(callFunc f #[v]).run P w= .ok (.value v) w
def Zg (P:Program) (f:FuncId) (args:List PV) (r:PV):Prop:= ∀(rd:Rd) (vs:List Value) (w:World),bC (PR rd) args vs-> ∃v,(callFunc f vs.toArray).run P w= .ok (.value v) w/\PR rd r v
inductive lB (P:Program) [ct P] (nm:Nat) (hf:Nat->Option aC) (fv:AV) (as:List AV):AO->Prop where
 |pure (f:FuncId) (avs:List AV) (pvs:List PV) (r:PV) (hfv:Ew fv as=some (f,avs)) (hargs:mF avs=some pvs) (he:qO P f pvs r):lB P nm hf fv as ⟨.v r,True,[],[]⟩
 |view (f:FuncId) (avs:List AV) (pvs:List PV) (r:PV) (hfv:Ew fv as=some (f,avs)) (hargs:aU (view hf 9) avs=some pvs) (hr:r.flat=true) (he:qO P f pvs r):lB P nm hf fv as ⟨.v r,True,avs.flatMap (aX hf 9),[]⟩
 |give (f:FuncId) (avs:List AV) (pvs:List PV) (r:PV) (hfv:Ew fv as=some (f,avs)) (hargs:aU (view hf 9) avs=some pvs) (hlo: ∀n∈avs.flatMap (aX hf 9),1000<=n) (he:qO P f pvs r):lB P nm hf fv as ⟨.v r,True,avs.flatMap (aX hf 9),(avs.flatMap (aX hf 9)).map fun n=>(n,none)⟩
 |eff (f:FuncId) (avs:List AV) (hs:List (Nat×aC)) (v:AV) (up:List (Nat×Option aC)) (hfv:Ew fv as=some (f,avs)) (hhs: ∀p∈hs,hf p.1=some p.2) (he:jU P f nm hs avs v up):lB P nm hf fv as ⟨v,True,hs.map (·.1),up⟩
 |same (f:FuncId) (v:AV) (hfv:Ew fv as=some (f,[v])) (he:Zf P f):lB P nm hf fv as ⟨v,True,[],[]⟩
 |ext (f:FuncId) (avs:List AV) (pvs:List PV) (r:PV) (hfv:Ew fv as=some (f,avs)) (hargs:mF avs=some pvs) (he:Zg P f pvs r):lB P nm hf fv as ⟨.v r,True,[],[]⟩
def Sv (P:Program) [ct P] (nm:Nat) (o:SO) (tf:Nat->AV) (hf:Nat->Option aC) (ao:AO):Prop:=
 match o with
 | .call f args=>lB P nm hf (f.ev tf) (args.map (SX.ev tf)) ao
 |o=>fe nm o tf hf=some ao/\ao.pre
def lZ (P:Program) [ct P] (nx k:Nat) (so:jV) (tf:Nat->AV) (hf:Nat->Option aC) (tf':Nat->AV) (hf':Nat->Option aC) (rs ws:List Nat):Prop:=
 (Gs so.g tf=some false/\tf'=oL tf so.d (.v (.tup []))/\hf'=hf/\rs=[]/\ws=[])\/
 (Gs so.g tf=some true/\ ∃ao,Sv P (nx+k) so.o tf hf ao/\tf'=oL tf so.d ao.v/\hf'=fY hf ao.up/\rs=ao.rs/\ws=ao.up.map (·.1))
section
variable {P:Program} [ct P] {E:Env P} {al:Nat->Prop} {tf:Nat->AV} {hf:Nat->Option aC} {a:Act} {w:World}
variable {wr:Nat->Prop}
theorem rF {C:Cx} {d:Option Nat} {v:AV} {val:Value} (hd: ∀k,d=some k->k<a.tmps.size) (h: ∀k,AR C (tf k) (a.tmps.getD k undef)) (hv:AR C v val): ∀k,AR C (oL tf d v k) ((a.put d val).tmps.getD k undef):=by
 intro k
 cases d with
 |none=>exact h k
 |some d=>
  have hlt:=hd d rfl;simp only[oL,Act.put]
  by_cases e:k=d
  ·subst e;rw[ah rfl];simpa[ja,hlt]using hv
  ·rw[af e];have:=h k;simpa[ja,wZ (kA e)]using this
theorem mE (a:Act) (d:Option Nat) (v:Value):(a.put d v).tmps.size=a.tmps.size:=by cases d<;>simp[Act.put]
theorem put_defers (a:Act) (d:Option Nat) (v:Value):(a.put d v).defers=a.defers:=by cases d<;>rfl
theorem mG {C D:Cx} (hle:C.Le D) (h: ∀k,AR C (tf k) (a.tmps.getD k undef)): ∀k,AR D (tf k) (a.tmps.getD k undef):=fun k=>(h k).mono hle
theorem SJ {C:Cx} {ops:Array Oper} {o:Oper} {g:Option (Nat×Bool)} (hg:o.guard.map (fun p=>(((ops[p.1]?).bind (·.dst)),p.2))=g.map fun p=>(some p.1,p.2)) (hlt: ∀p,g=some p->p.1<a.tmps.size) (h: ∀k,AR C (tf k) (a.tmps.getD k undef)) {b:Bool} (hb:Gs g tf=some b):
  Region.wanted o (yielded ops a.tmps)=b:=by
 cases g with
 |none=>
  simp only[Option.map_none,Option.map_eq_none_iff]at hg;simp only[Gs,ai]at hb;simp[Region.wanted,hg,hb]
 |some p=>
  obtain⟨t,want⟩:=p;simp only[Option.map_some,dM,dJ]at hg;obtain⟨⟨j,want'⟩,hgo,hd,rfl⟩:=hg;have ht:=h t;have hlt':=hlt _ rfl;simp only[Gs]at hb;simp only at hd hlt';have hget:a.tmps[t]?=some (a.tmps.getD t undef):=by simp[ja,hlt']
  split at hb
  ·rename_i x hx;rw[hx]at ht;simp only[ai]at hb;simp only[Region.wanted,hgo,yielded,hd,Option.bind_some,hget,yp ht];rw[<-hb]
   cases x<;>cases want'<;>rfl
  ·rename_i hx;rw[hx]at ht;simp only[ai]at hb;have hu:a.tmps.getD t undef= .tuple #[]:=by
    generalize a.tmps.getD t undef=u at ht
    cases ht with
    |v ht=>cases ht with
     |tup l vs hl _=>
      have:vs=[]:=kD (by simpa using hl.symm)
      subst this;rfl
   simp only[Region.wanted,hgo,yielded,hd,Option.bind_some,hget,hu];rw[<-hb];rfl
  ·cases hb
theorem N5 {C:Cx} {l:List AV} {ys:List PV} {vs:List Value} (h:bC (AR C) l vs) (hl:mF l=some ys):bC (PR C.rd) ys vs:=by
 unfold mF at hl;obtain⟨m1,m2⟩:=cC hl;refine⟨by rw[<-m1];exact h.1,fun k y v hy hv=> ?_⟩
 have hk:k<l.length:=by have:=(cv.1 hy).1;omega
 have hx:l[k]?=some l[k]:=by simp[hk]
 have hxy:=m2 k _ y hx hy;have hxv:=h.2 k _ v hx hv;generalize l[k]=x at hxy hxv
 by_cases hag: ∃m,x= .agg m
 ·obtain⟨m,rfl⟩:=hag;simp only at hxy
  split at hxy
  ·rename_i hall;simp only[dM]at hxy;obtain⟨zs,hzs,rfl⟩:=hxy
   cases hxv with
   |agg _ us hl' h'=>
    obtain⟨p1,p2⟩:=N6 ⟨hl',h'⟩ hzs hall;exact .agg zs us p2 p1.1 p1.2
  ·cases hxy
 ·have hxy':x.DR=some y:=by
   cases x<;>first|exact hxy|exact aJ ⟨_,rfl⟩ hag
  exact GX hxv hxy'
def Cx.after (C:Cx) (w w':World) (nm:Nat):Cx:={C with rd:=fW C.rd w w',al:=fun n=>C.al n\/n=nm}
theorem Cx.yx {C:Cx} (h:HR C hf wr w) (w':World) (nm:Nat):C.Le (C.after w w' nm):=by
 refine⟨fun b o v hv=> ?_,fun _ h=> .inl h,fun _ _ d h=>⟨d,h,aB _,fun _=>⟨rfl,rfl⟩⟩,fun _ _=>⟨rfl,fun _=>rfl⟩⟩
 have:=jh (h.rdw _ _ _ hv);simp[Cx.after,fW,this,hv]
theorem HR.after {C:Cx} (h:HR C hf wr w) {w':World} (hb:Below w.heap.size w w') (nm:Nat):HR (C.after w w' nm) hf wr w':=by
 have hle:=Cx.yx h w' nm;refine⟨?_,?_,h.dead,?_,h.inj,h.wr,?_,?_,?_⟩
 ·intro b o v hv;simp only[Cx.after,fW]at hv
  split at hv
  ·rename_i hlt;rw[kF (hb.block b hlt)];exact h.rdw _ _ _ hv
  ·exact hv
 ·exact fun n ob hn=>⟨.inl (h.live n ob hn).1,(h.live n ob hn).2⟩
 ·intro n ob hn k;have:=h.fX hn;simp only[Cx.after,fW,this,aA];exact h.sep n ob hn k
 ·intro n ob hn hk;obtain⟨cs,el,h1,h2,h3,h4,h5⟩:=h.obj n ob hn hk;exact⟨cs,el,(hb.block _ (h.fX hn)).trans h1,h2,h3,h4,fun k x v hx hv=>(h5 k x v hx hv).mono hle⟩
 ·intro n ob hn hk t ht;obtain⟨cs,h1⟩:=h.typ n ob hn hk t ht;exact⟨cs,(hb.block _ (h.fX hn)).trans h1⟩
 ·intro n ob hn hk;obtain⟨es,clk,h1,h2⟩:=h.mp n ob hn hk;exact⟨es,clk,(hb.block _ (h.fX hn)).trans h1,h2.mono hle.rd⟩
theorem Wf.below {w w':World} (hb:Below w.heap.size w w'):Wf wr w w':=⟨hb.os,hb.tape,hb.output,hb.size,fun b hlt _=>hb.block b hlt⟩
def cj (C:Cx) (hf:Nat->Option aC) (w:World) [∀b,Decidable (∃n ob,hf n=some ob/\C.mu n=b)]:Rd:=fun b o=>if(∃n ob,hf n=some ob/\C.mu n=b)then w.cell? ⟨b,o,none⟩else C.rd b o
theorem JM (z n:Nat) (l:List PV):(chunk z n l).length=n:=by
 induction n generalizing l with
 |zero=>rfl
 |succ n ih=>simp[chunk,ih]
theorem Mt (z:Nat): ∀(n:Nat) (l:List PV),l.length=n*z->(∀c∈l,c.one=true)->(chunk z n l).flatMap PV.cells=l/\ ∀x∈chunk z n l,x.cells.length=z:=by
 intro n
 induction n with
 |zero=>intro l hl _;simp at hl;subst hl;simp[chunk]
 |succ n ih=>
  intro l hl h1;have hl':l.length=n*z+z:=by rw[hl,kz]
  obtain⟨i1,i2⟩:=ih (l.drop z) (by simp;omega) fun c hc=>h1 c (pd hc)
  have hhead: ∀x,x=(if z=1 then(l.headD .fn0)else .agg (l.take z))->x.cells=l.take z/\x.cells.length=z:=by
   intro x hx
   by_cases hz:z=1
   ·rw[ah hz]at hx;subst hz
    cases l with
    |nil=>simp at hl'
    |cons c l=>
     have hx:x=c:=hx;rw[hx];have hc:c.one=true:=h1 c (by simp)
     have:c.cells=[c]:=by cases c<;>first|rfl|(simp[PV.one]at hc)
     simp[this]
   ·rw[af hz]at hx;subst hx;refine⟨rfl,?_⟩;show(l.take z).length=z;simp;omega
  obtain⟨e1,e2⟩:=hhead _ rfl;simp only[chunk,fP];rw[i1,e1];refine⟨tN _ _,fun x hx=> ?_⟩
  rcases bV.1 hx with rfl|hx
  ·exact e2
  ·exact i2 x hx
theorem OV {fu:Nat} {x:AV} {y:PV} (hx:view hf fu x=some y) (h1:x.one=true):y.one=true:=by
 cases fu with
 |zero=>simp[view]at hx
 |succ fu=>
  cases x<;>simp only[view,AV.one,bQ,ai,reduceCtorEq]at hx h1
  case v=>subst hx;exact h1
  case fs=>subst hx;rfl
  case sn=>subst hx;rfl
  case pp=>subst hx;rfl
  case p n ver o=>
   split at hx
   ·split at hx
    ·simp only[dM]at hx;obtain⟨cs,-,rfl⟩:=hx;rfl
    ·cases hx
   ·cases hx
  case rs n ver o len z=>
   split at hx
   ·split at hx
    ·simp only[dM]at hx;obtain⟨cs,-,rfl⟩:=hx;rfl
    ·cases hx
   ·cases hx
  case fn f b c=>exact yI hx
theorem qo {C:Cx} (h:HR C hf wr w) [∀b,Decidable (∃n ob,hf n=some ob/\C.mu n=b)]: ∀(fu:Nat) (x:AV) (y:PV) (v:Value),AR C x v->view hf fu x=some y->PR (cj C hf w) y v:=by
 have hle: ∀b o v,C.rd b o=some v->cj C hf w b o=some v:=by
  intro b o v hv;unfold cj;split
  ·exact h.rdw _ _ _ hv
  ·exact hv
 intro fu
 induction fu with
 |zero=>intro x y v _ hx;simp[view]at hx
 |succ fu ih=>
  have ihL: ∀(l:List AV) (ys:List PV) (vs:List Value),bC (AR C) l vs->aU (view hf fu) l=some ys->bC (PR (cj C hf w)) ys vs:=by
   intro l ys vs hr hl;obtain⟨m1,m2⟩:=cC hl;refine⟨by rw[<-m1];exact hr.1,fun k y v hy hv=> ?_⟩
   have hk:k<l.length:=by have:=(cv.1 hy).1;omega
   exact ih l[k] y v (hr.2 k _ v (by simp[hk]) hv) (m2 k _ y (by simp[hk]) hy)
  have ihOne: ∀(l:List AV) (ys:List PV),aU (view hf fu) l=some ys->l.all AV.one=true-> ∀y∈ys,y.one=true:=by
   intro l ys hl h1 y hy;obtain⟨m1,m2⟩:=cC hl;obtain⟨k,hk,rfl⟩:=iv hy;have hk':k<l.length:=by omega
   rw[bJ]at h1;exact OV (m2 k l[k] ys[k] (by simp[hk']) (by simp[hk])) (h1 _ (jQ hk'))
  intro x y v hxv hx
  cases hxv with
  |v hp=>simp only[view,ai]at hx;subst hx;exact hp.mono hle
  |fs l q hp=>simp only[view,ai]at hx;subst hx;exact hp.mono hle
  |sn=>simp only[view,ai]at hx;subst hx;exact .sl0
  |mp n b ha hk h=>simp[view]at hx
  |p n ver o b hal hm hcur=>
   simp only[view]at hx
   split at hx
   ·rename_i ob hn
    split at hx
    ·rename_i hcond;obtain⟨hver,hall⟩:=hcond;simp only[dM]at hx;obtain⟨cs,hcs,rfl⟩:=hx;obtain⟨-,hc2⟩:=hcur _ (h.live n ob hn).2;obtain rfl:=hc2 hver.symm;obtain⟨ws,el,g1,g2,g3,g4,g5⟩:=h.obj n ob hn hm;have hr:bC (AR C) ob.cells (ws.toList.take ob.cells.length):=by
      refine⟨by simp;omega,fun k x v hx hv=>g5 k x v hx ?_⟩
      rw[fU]at hv
      split at hv
      ·simpa using hv
      ·cases hv
     have hrp:=ihL _ cs _ hr hcs;have hone:=ihOne _ cs hcs hall;have:=PR.pt (rd:=cj C hf w) (.agg cs) o (ws.toList.take ob.cells.length) (C.mu n) 0 hone hrp.1 (by
      intro k v hv;have hex: ∃m oc,hf m=some oc/\C.mu m=C.mu n:=⟨n,ob,hn,rfl⟩;simp only[cj,hex,aA];rw[cell_of_heap g1,fG];rw[fU]at hv
      split at hv
      ·simpa using hv
      ·cases hv) hrp.2
     rw[fG]at this;exact this
    ·cases hx
   ·cases hx
  |pp x o vs bk of h1 hl hr hp=>simp only[view,ai]at hx;subst hx;exact .pt x o vs bk of h1 hl (fun k v hv=>hle _ _ _ (hr k v hv)) fun k y v hy hv=>(hp k y v hy hv).mono hle
  |ub=>simp[view]at hx
  |u=>simp[view]at hx
  |agg l vs hl hr=>
   simp only[view]at hx
   split at hx
   ·rename_i hall;simp only[dM]at hx;obtain⟨ys,hys,rfl⟩:=hx;have:=ihL l ys vs ⟨hl,hr⟩ hys;exact .agg ys vs (ihOne l ys hys hall) this.1 this.2
   ·cases hx
  |tup l vs hl hr=>
   simp only[view,dM]at hx;obtain⟨ys,hys,rfl⟩:=hx;have:=ihL l ys vs ⟨hl,hr⟩ hys;exact .tup ys vs this.1 this.2
  |fn f b c va vc hla hlc ha hc=>
   simp only[view]at hx;exact Iu hx (fun a' h'=>ihL _ _ _ ⟨hla,ha⟩ h') (fun c' h'=>ihL _ _ _ ⟨hlc,hc⟩ h')
  |rs n ver o len z b o' cap hal hm hcap ho hcur=>
   simp only[view]at hx
   split at hx
   ·rename_i ob hn
    split at hx
    ·rename_i hcond;obtain⟨hver,hlen,hall⟩:=hcond;simp only[dM]at hx;obtain⟨cs,hcs,rfl⟩:=hx;obtain⟨-,hc2⟩:=hcur _ (h.live n ob hn).2;obtain⟨rfl,-⟩:=hc2 hver.symm;obtain⟨ws,el,g1,g2,g3,g4,g5⟩:=h.obj n ob hn hm;have hr:bC (AR C) ob.cells (ws.toList.take ob.cells.length):=by
      refine⟨by simp;omega,fun k x v hx hv=>g5 k x v hx ?_⟩
      rw[fU]at hv
      split at hv
      ·simpa using hv
      ·cases hv
     have hr2:=(hr.drop o).take (len*z);have hrp:=ihL _ cs _ hr2 hcs;have hone:=ihOne _ cs hcs hall;have hcl:cs.length=len*z:=by
      rw[hrp.1];simp;omega
     obtain⟨k1,k2⟩:=Mt z len cs hcl hone;have hchl:=JM z len cs
     by_cases hl0:len=0
     ·subst hl0;have e:chunk z 0 cs=[]:=rfl;rw[e];exact .sl [] 0 [] (C.mu n) o' cap (by simp) (by simp) (by simp) (by simp) (by simp) (by simp)
     ·have ho':o'=o:=by rcases ho with ho|ho<;>omega
      subst ho';have:=PR.sl (rd:=cj C hf w) (chunk z len cs) z (((ws.toList.take ob.cells.length).drop o').take (len*z)) (C.mu n) o' cap (by rw[hchl];exact hcap) k2 (by rw[k1];exact hone) (by rw[k1];exact hrp.1)
       (by
        intro k v hv;have hex: ∃m oc,hf m=some oc/\C.mu m=C.mu n:=⟨n,ob,hn,rfl⟩;simp only[cj,hex,aA];rw[cell_of_heap g1];rw[fU]at hv
        split at hv
        ·rw[kM,fU]at hv
         split at hv
         ·simpa using hv
         ·cases hv
        ·cases hv)
       (by rw[k1];exact hrp.2)
      rw[hchl]at this;exact this
    ·cases hx
   ·cases hx
theorem PR.Ev {rd rd':Rd} {x:PV} {v:Value} (h:PR rd x v):x.flat=true->PR rd' x v:=by
 have hall: ∀(l:List PV),PV.flat.flatL l=true-> ∀(k:Nat) (y:PV),l[k]?=some y->y.flat=true:=by
  intro l
  induction l with
  |nil=>intro _ k y hy;simp at hy
  |cons x l ih=>
   intro hl k y hy;simp only[PV.flat.flatL,aV]at hl
   cases k with
   |zero=>simp at hy;subst hy;exact hl.1
   |succ k=>exact ih hl.2 k y (by simpa using hy)
 induction h with
 |b x=>intro _;exact .b x
 |i k n=>intro _;exact .i k n
 |s x=>intro _;exact .s x
 |agg l vs h1 hl _ ih=>intro hf;exact .agg l vs h1 hl fun k x v hx hv=>ih k x v hx hv (hall l hf k x hx)
 |tup l vs hl _ ih=>intro hf;exact .tup l vs hl fun k x v hx hv=>ih k x v hx hv (hall l hf k x hx)
 |sl0=>intro hf;simp[PV.flat]at hf
 |sl=>intro hf;simp[PV.flat]at hf
 |sle=>intro hf;simp[PV.flat]at hf
 |fn f=>intro _;exact .fn f
 |fn0=>intro _;exact .fn0
 |p0=>intro _;exact .p0
 |if0=>intro _;exact .if0
 |ifc t x v _ ih=>intro hf;exact .ifc t x v (ih hf)
 |pt=>intro hf;simp[PV.flat]at hf
 |fc=>intro hf;simp[PV.flat]at hf
end
variable {hf:Nat->Option aC}
theorem iH {α β:Type} {g g':α->Option β} {l:List α} (h: ∀x∈l,g x=g' x):aU g l=aU g' l:=by
 induction l with
 |nil=>rfl
 |cons x l ih=>simp only[aU,h x (by simp),ih fun y hy=>h y (by simp[hy])]
theorem eV {α β:Type} {g g':α->List β} {l:List α} (h: ∀x∈l,g x=g' x):l.flatMap g=l.flatMap g':=by
 induction l with
 |nil=>rfl
 |cons x l ih=>simp only[fP,h x (by simp),ih fun y hy=>h y (by simp[hy])]
theorem tj {hf':Nat->Option aC}: ∀(f:Nat) (x:AV),(∀n∈aX hf f x,hf' n=hf n)->view hf' f x=view hf f x/\aX hf' f x=aX hf f x:=by
 intro f
 induction f with
 |zero=>intro x _;cases x<;>exact⟨rfl,rfl⟩
 |succ f ih=>
  intro x h;cases x
  case agg l=>
   simp only[aX]at h;have hl: ∀x∈l,view hf' f x=view hf f x/\aX hf' f x=aX hf f x:=fun x hx=>ih x fun n hn=>h n (jS.2 ⟨x,hx,hn⟩)
   simp only[view,aX];rw[iH fun x hx=>(hl x hx).1,eV fun x hx=>(hl x hx).2]
   exact⟨rfl,rfl⟩
  case tup l=>
   simp only[aX]at h;have hl: ∀x∈l,view hf' f x=view hf f x/\aX hf' f x=aX hf f x:=fun x hx=>ih x fun n hn=>h n (jS.2 ⟨x,hx,hn⟩)
   simp only[view,aX];rw[iH fun x hx=>(hl x hx).1,eV fun x hx=>(hl x hx).2]
   exact⟨rfl,rfl⟩
  case rs n ver o len z=>
   simp only[aX]at h;have h0:hf' n=hf n:=h n (by simp)
   simp only[view,aX,h0]
   cases hn:hf n with
   |none=>exact⟨rfl,rfl⟩
   |some ob=>
    simp only[hn]at h;have hl: ∀x∈(ob.cells.drop o).take (len*z),view hf' f x=view hf f x/\aX hf' f x=aX hf f x:=fun x hx=>ih x fun n hn=>h n (jR _ (jS.2 ⟨x,hx,hn⟩))
    simp only;rw[iH fun x hx=>(hl x hx).1,eV fun x hx=>(hl x hx).2]
    exact⟨rfl,rfl⟩
  case fn g b c=>
   simp only[aX]at h;have hb: ∀x∈b,view hf' f x=view hf f x/\aX hf' f x=aX hf f x:=fun x hx=>ih x fun n hn=>h n (iM.2 (.inl (jS.2 ⟨x,hx,hn⟩)))
   have hc: ∀x∈c,view hf' f x=view hf f x/\aX hf' f x=aX hf f x:=fun x hx=>ih x fun n hn=>h n (iM.2 (.inr (jS.2 ⟨x,hx,hn⟩)))
   simp only[view,aX];rw[iH fun x hx=>(hb x hx).1,iH fun x hx=>(hc x hx).1,eV fun x hx=>(hb x hx).2,eV fun x hx=>(hc x hx).2]
   exact⟨rfl,rfl⟩
  case p n ver o=>
   simp only[aX]at h;have h0:hf' n=hf n:=h n (by simp)
   simp only[view,aX,h0]
   cases hn:hf n with
   |none=>exact⟨rfl,rfl⟩
   |some ob=>
    simp only[hn]at h;have hl: ∀x∈ob.cells,view hf' f x=view hf f x/\aX hf' f x=aX hf f x:=fun x hx=>ih x fun n hn=>h n (jR _ (jS.2 ⟨x,hx,hn⟩))
    simp only;rw[iH fun x hx=>(hl x hx).1,eV fun x hx=>(hl x hx).2]
    exact⟨rfl,rfl⟩
  all_goals exact⟨rfl,rfl⟩
def Cx.only (C:Cx) (ns:List Nat):Cx:={C with cur:=fun n=>if n∈ns then C.cur n else none}
def eL (hf:Nat->Option aC) (ns:List Nat):Nat->Option aC:=fun n=>if n∈ns then hf n else none
theorem Cx.wE (C:Cx) (ns:List Nat):C.Le (C.only ns):=by
 refine⟨fun _ _ _ h=>h,fun _ h=>h,fun n _ d h=> ?_,fun _ _=>⟨rfl,fun _=>rfl⟩⟩
 simp only[Cx.only]at h
 split at h
 ·exact⟨d,h,aB _,fun _=>⟨rfl,rfl⟩⟩
 ·cases h
theorem HR.only {C:Cx} {wr:Nat->Prop} {w:World} (h:HR C hf wr w) (ns:List Nat):HR (C.only ns) (eL hf ns) wr w:=by
 have key: ∀n ob,eL hf ns n=some ob->n∈ns/\hf n=some ob:=by
  intro n ob hn;simp only[eL]at hn
  split at hn
  ·rename_i hm;exact⟨hm,hn⟩
  ·cases hn
 refine⟨h.rdw,?_,?_,?_,?_,?_,?_,?_,fun n ob hn=>h.mp n ob (key n ob hn).2⟩
 ·intro n ob hn;obtain⟨hm,hn⟩:=key n ob hn;obtain⟨h1,h2⟩:=h.live n ob hn;exact⟨h1,by simp only[Cx.only,hm,aA];exact h2⟩
 ·intro n hn;simp only[Cx.only];split
  ·rename_i hm;simp only[eL,hm,aA]at hn;exact h.dead n hn
  ·rfl
 ·intro n ob hn k;exact h.sep n ob (key n ob hn).2 k
 ·intro n m ob oc hn hm he;exact h.inj n m ob oc (key n ob hn).2 (key m oc hm).2 he
 ·intro n ob hn;exact h.wr n ob (key n ob hn).2
 ·intro n ob hn hk;obtain⟨cs,el,h1,h2,h3,h4,h5⟩:=h.obj n ob (key n ob hn).2 hk;exact⟨cs,el,h1,h2,h3,h4,fun k x v hx hv=>(h5 k x v hx hv).mono (C.wE ns)⟩
 ·intro n ob hn hk t ht;exact h.typ n ob (key n ob hn).2 hk t ht
theorem jy (ns:List Nat): ∀(hf:Nat->Option aC) (n:Nat),fY hf (ns.map fun n=>(n,none)) n=if n∈ns then none else hf n:=by
 induction ns with
 |nil=>intro hf n;simp
 |cons m ns ih=>
  intro hf n;simp only[br,fY,ih,bV]
  by_cases h1:n∈ns
  ·simp[h1]
  ·by_cases h2:n=m<;>simp[h1,h2]
def Cx.gave (C:Cx) (rd:Rd) (w w':World) (ns:List Nat) (nm:Nat):Cx:={C with rd:=fW rd w w',al:=fun n=>C.al n\/n=nm,cur:=fun n=>if n∈ns then none else C.cur n}
theorem HR.gave {C:Cx} {wr:Nat->Prop} {w w':World} (h:HR C hf wr w) (hb:Below w.heap.size w w') (ns:List Nat) (nm:Nat) [∀b,Decidable (∃n ob,eL hf ns n=some ob/\(C.only ns).mu n=b)]:
  C.Le (C.gave (cj (C.only ns) (eL hf ns) w) w w' ns nm)/\HR (C.gave (cj (C.only ns) (eL hf ns) w) w w' ns nm) (fY hf (ns.map fun n=>(n,none))) wr w':=by
 have key: ∀n ob,fY hf (ns.map fun n=>(n,none)) n=some ob->n∉ns/\hf n=some ob:=by
  intro n ob hn;rw[jy]at hn
  split at hn
  ·cases hn
  ·rename_i hm;exact⟨hm,hn⟩
 have hle:C.Le (C.gave (cj (C.only ns) (eL hf ns) w) w w' ns nm):=by
  refine⟨fun b o v hv=> ?_,fun _ h=> .inl h,fun n _ d hd=> ?_,fun _ _=>⟨rfl,fun _=>rfl⟩⟩
  ·have hlt:=jh (h.rdw _ _ _ hv);simp only[Cx.gave,fW,hlt,aA,cj];split
   ·exact h.rdw _ _ _ hv
   ·exact hv
  ·simp only[Cx.gave]at hd
   split at hd
   ·cases hd
   ·exact⟨d,hd,aB _,fun _=>⟨rfl,rfl⟩⟩
 refine⟨hle,?_,?_,?_,?_,?_,?_,?_,?_,?_⟩
 ·intro b o v hv;simp only[Cx.gave,fW]at hv
  split at hv
  ·rename_i hlt;rw[kF (hb.block b hlt)];simp only[cj]at hv
   split at hv
   ·exact hv
   ·exact h.rdw _ _ _ hv
  ·exact hv
 ·intro n ob hn;obtain⟨hm,hn⟩:=key n ob hn;obtain⟨h1,h2⟩:=h.live n ob hn;exact⟨.inl h1,by simp only[Cx.gave,hm,ak];exact h2⟩
 ·intro n hn;simp only[Cx.gave];split
  ·rfl
  ·rename_i hm;rw[jy,af hm]at hn;exact h.dead n hn
 ·intro n ob hn k;obtain⟨hm,hn⟩:=key n ob hn;have hlt:=h.fX hn;show fW (cj (C.only ns) (eL hf ns) w) w w' (C.mu n) k=none;simp only[fW,hlt,aA,cj];split
  ·rename_i hex;obtain⟨m,oc,hmm,hmu⟩:=hex
   exfalso
   simp only[eL]at hmm
   split at hmm
   ·rename_i hmem;have:m=n:=h.inj m n oc ob hmm hn hmu;subst this;exact hm hmem
   ·cases hmm
  ·exact h.sep n ob hn k
 ·intro n m ob oc hn hm he;exact h.inj n m ob oc (key n ob hn).2 (key m oc hm).2 he
 ·intro n ob hn;exact h.wr n ob (key n ob hn).2
 ·intro n ob hn hk;have hn:=(key n ob hn).2;obtain⟨cs,el,h1,h2,h3,h4,h5⟩:=h.obj n ob hn hk;exact⟨cs,el,(hb.block _ (h.fX hn)).trans h1,h2,h3,h4,fun k x v hx hv=>(h5 k x v hx hv).mono hle⟩
 ·intro n ob hn hk t ht;have hn:=(key n ob hn).2;obtain⟨cs,h1⟩:=h.typ n ob hn hk t ht;exact⟨cs,(hb.block _ (h.fX hn)).trans h1⟩
 ·intro n ob hn hk;have hn:=(key n ob hn).2;obtain⟨es,clk,h1,h2⟩:=h.mp n ob hn hk;exact⟨es,clk,(hb.block _ (h.fX hn)).trans h1,h2.mono hle.rd⟩
