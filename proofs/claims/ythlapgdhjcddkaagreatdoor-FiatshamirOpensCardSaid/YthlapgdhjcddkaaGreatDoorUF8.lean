/- Part of the proof. -/
import Derived.OrdersIn
import Derived.RangeFuncOwn
import Derived.Test.YthlapgdhjcddkaaGreatDoorUF7
set_option linter.all false
namespace Go.Dom
open Go.RowKit
variable {P:Program}
def gK (rd:Rd) (w w':World):Rd:=fun b o=>if b<w.heap.size then rd b o else w'.cell? ⟨b,o,none⟩
def Enters (P:Program) (f g:FuncId):Prop:= ∀(args:Array Value) (w:World),(callFunc f args).run P w= .ok (.enter g args) w
def qG (P:Program) [cW P] (f:FuncId) (args:List PV) (r:PV):Prop:=
 ∃g,Enters P f g/\ ∀(w:World) (rd:Rd) (vs:List Value),(∀b o v,TR P b o=some v->rd b o=some v)->(∀b o v,rd b o=some v->w.cell? ⟨b,o,none⟩=some v)->cq (PR rd) args vs->
  Calls P g vs.toArray w fun e w'=> ∃v,e= .returned v/\Below w.heap.size w w'/\PR (gK rd w w') r v
structure Env (P:Program) [cW P] where
 w0:World
 rd0:Rd
 wr:Nat->Prop
 nt:Nat
 C0:Cx
 df:List Deferred
 lo: ∀n,C0.al n->n<1000
 gl: ∀b o v,TR P b o=some v->C0.rd b o=some v
 fr:Nat
 pin:List (Nat×Obj)
 ro:Option Nat
 Ce:Cx
 frl:w0.heap.size<=fr
 mkw: ∀p∈pin,¬wr p.1
 ln:List Nat
 lnf: ∀b∈ln,b<fr/\ ¬wr b
theorem Env.Gj [cW P] (E:Env P) {b:Nat} (h:b<E.w0.heap.size\/b∈E.ln):b<E.fr:=h.elim (fun h=>bM h E.frl) fun h=>(E.lnf b h).1
structure VA {P:Program} [cW P] (E:Env P) (w:World):Prop where
 wf:Wf E.wr E.w0 w
 fr:E.fr<=w.heap.size
 pn: ∀p∈E.pin,w.heap[p.1]?=some p.2
theorem VA.trans [cW P] {E:Env P} {w w':World} (h:VA E w) (k:Wf E.wr w w'):VA E w':=
 ⟨h.wf.trans k,fw h.fr k.size,fun p hp=>(k.blk p.1 (kL.1 (h.pn p hp)).1 (E.mkw p hp)).trans (h.pn p hp)⟩
theorem VA.size [cW P] {E:Env P} {w:World} (h:VA E w):E.w0.heap.size<=w.heap.size:=h.wf.size
structure YN {P:Program} [cW P] (E:Env P) (C:Cx):Prop where
 c0:E.C0.Le C
 ce:E.Ce.Le C
theorem YN.trans [cW P] {E:Env P} {C D:Cx} (h:YN E C) (k:C.Le D):YN E D:=⟨h.c0.trans k,h.ce.trans k⟩
theorem YN.rd [cW P] {E:Env P} {C:Cx} (h:YN E C) (b o:Nat) (v:Value) (hv:E.C0.rd b o=some v):C.rd b o=some v:=h.c0.rd b o v hv
def SR {P:Program} [cW P] (E:Env P) (al:Nat->Prop) (tf:Nat->AV) (hf:Nat->Option aI) (a:Act) (w:World):Prop:=
 ∃C:Cx,(∀n,C.al n↔al n)/\HR C hf E.wr w/\(∀b,b<E.w0.heap.size\/b∈E.ln->C.rd b=E.rd0 b)/\(VA E w/\YN E C/\ ∀n ob,hf n=some ob->(E.C0.al n/\C.mu n=E.C0.mu n)\/E.w0.heap.size<=C.mu n)/\a.defers=E.df/\a.tmps.size=E.nt/\ ∀k,AR C (tf k) (a.tmps.getD k undef)
def qd (tf:Nat->AV) (d:Option Nat) (v:AV):Nat->AV:=
 match d with
 |some d=>fun k=>if k=d then v else tf k
 |none=>tf
def HI (g:Option (Nat×Bool)) (tf:Nat->AV):Option Bool:=
 match g with
 |none=>some true
 |some (t,want)=>match tf t with
  | .v (.b x)=>some (x==want)
  | .v (.tup [])=>some false
  | _=>none
def FC (fv:AV) (avs:List AV):Option (FuncId×List AV):=
 match fv.nz with
 | .v (.fn (.func f))=>some (f,avs)
 | .fn (.func f) a c=>some (f,a++(avs++c))
 | _=>none
def o7 (l:List AV):Option (List PV):=
 bA (fun x=>match x with
  | .agg l=>if l.all AV.one then(bA AV.AZ l).map .agg else none
  |x=>x.AZ) l
def jS (P:Program) [cW P] (f:FuncId) (nm:Nat) (hs:List (Nat×aI)) (avs:List AV) (v:AV) (up:List (Nat×Option aI)):Prop:=
 ∃g,Enters P f g/\ ∀(C:Cx) (hf:Nat->Option aI) (wr:Nat->Prop) (w:World) (base:Nat) (vs:List Value),(∀b o v,TR P b o=some v->C.rd b o=some v)->HR C hf wr w->(∀b,base<=b->wr b)->base<=w.heap.size->(∀p∈hs,hf p.1=some p.2)-> ¬C.al nm->cq (AR C) avs vs->
  Calls P g vs.toArray w fun e w'=> ∃val C',e= .returned val/\AR C' v val/\HR C' (gQ hf up) wr w'/\C.Le C'/\(∀n,C'.al n↔C.al n\/n=nm)/\Wf wr w w'/\(∀b,b<base->C'.rd b=C.rd b)/\Db base C C' hf (gQ hf up)
def EvS (P:Program) (f:FuncId):Prop:= ∀(v:Value) (w:World),(callFunc f #[v]).run P w= .ok (.value v) w
def EvX (P:Program) (f:FuncId) (args:List PV) (r:PV):Prop:= ∀(rd:Rd) (vs:List Value) (w:World),cq (PR rd) args vs-> ∃v,(callFunc f vs.toArray).run P w= .ok (.value v) w/\PR rd r v
inductive mL (P:Program) [cW P] (nm:Nat) (hf:Nat->Option aI) (fv:AV) (as:List AV):AO->Prop where
 |pure (f:FuncId) (avs:List AV) (pvs:List PV) (r:PV) (hfv:FC fv as=some (f,avs)) (hargs:o7 avs=some pvs) (he:qG P f pvs r):mL P nm hf fv as ⟨.v r,True,[],[]⟩
 |view (f:FuncId) (avs:List AV) (pvs:List PV) (r:PV) (hfv:FC fv as=some (f,avs)) (hargs:bA (view hf 9) avs=some pvs) (hr:r.flat=true) (he:qG P f pvs r):mL P nm hf fv as ⟨.v r,True,avs.flatMap (aW hf 9),[]⟩
 |k9 (f:FuncId) (avs:List AV) (pvs:List PV) (r:PV) (hfv:FC fv as=some (f,avs)) (hargs:bA (view hf 9) avs=some pvs) (hlo: ∀n∈avs.flatMap (aW hf 9),1000<=n) (he:qG P f pvs r):mL P nm hf fv as ⟨.v r,True,avs.flatMap (aW hf 9),(avs.flatMap (aW hf 9)).map fun n=>(n,none)⟩
 |eff (f:FuncId) (avs:List AV) (hs:List (Nat×aI)) (v:AV) (up:List (Nat×Option aI)) (hfv:FC fv as=some (f,avs)) (hhs: ∀p∈hs,hf p.1=some p.2) (he:jS P f nm hs avs v up):mL P nm hf fv as ⟨v,True,hs.map (·.1),up⟩
 |same (f:FuncId) (v:AV) (hfv:FC fv as=some (f,[v])) (he:EvS P f):mL P nm hf fv as ⟨v,True,[],[]⟩
 |ext (f:FuncId) (avs:List AV) (pvs:List PV) (r:PV) (hfv:FC fv as=some (f,avs)) (hargs:o7 avs=some pvs) (he:EvX P f pvs r):mL P nm hf fv as ⟨.v r,True,[],[]⟩
def UA (P:Program) [cW P] (nm:Nat) (o:SO) (tf:Nat->AV) (hf:Nat->Option aI) (ao:AO):Prop:=
 match o with
 | .call f args=>mL P nm hf (f.ev tf) (args.map (SX.ev tf)) ao
 |o=>fE nm o tf hf=some ao/\ao.pre
def np (P:Program) [cW P] (nx k:Nat) (so:j9) (tf:Nat->AV) (hf:Nat->Option aI) (tf':Nat->AV) (hf':Nat->Option aI) (rs ws:List Nat):Prop:=
 (HI so.g tf=some false/\tf'=qd tf so.d (.v (.tup []))/\hf'=hf/\rs=[]/\ws=[])\/
 (HI so.g tf=some true/\ ∃ao,UA P (nx+k) so.o tf hf ao/\tf'=qd tf so.d ao.v/\hf'=gQ hf ao.up/\rs=ao.rs/\ws=ao.up.map (·.1))
section
variable {P:Program} [cW P] {E:Env P} {al:Nat->Prop} {tf:Nat->AV} {hf:Nat->Option aI} {a:Act} {w:World}
variable {wr:Nat->Prop}
theorem tH {C:Cx} {d:Option Nat} {v:AV} {val:Value} (hd: ∀k,d=some k->k<a.tmps.size) (h: ∀k,AR C (tf k) (a.tmps.getD k undef)) (hv:AR C v val): ∀k,AR C (qd tf d v k) ((a.put d val).tmps.getD k undef):=by
 intro k
 cases d with
 |none=>exact h k
 |some d=>
  have hlt:=hd d rfl;simp only[qd,Act.put]
  by_cases e:k=d
  ·subst e;rw[af rfl];simpa[jw,hlt]using hv
  ·rw[aa e];have:=h k;simpa[jw,yJ (aY e)]using this
theorem nL (a:Act) (d:Option Nat) (v:Value):(a.put d v).tmps.size=a.tmps.size:=by cases d<;>simp[Act.put]
theorem put_defers (a:Act) (d:Option Nat) (v:Value):(a.put d v).defers=a.defers:=by cases d<;>rfl
theorem nO {C D:Cx} (hle:C.Le D) (h: ∀k,AR C (tf k) (a.tmps.getD k undef)): ∀k,AR D (tf k) (a.tmps.getD k undef):=fun k=>(h k).mono hle
theorem US {C:Cx} {ops:Array Oper} {o:Oper} {g:Option (Nat×Bool)} (hg:o.guard.map (fun p=>(((ops[p.1]?).bind (·.dst)),p.2))=g.map fun p=>(some p.1,p.2)) (hlt: ∀p,g=some p->p.1<a.tmps.size) (h: ∀k,AR C (tf k) (a.tmps.getD k undef)) {b:Bool} (hb:HI g tf=some b):
  Region.wanted o (yielded ops a.tmps)=b:=by
 cases g with
 |none=>
  simp only[Option.map_none,Option.map_eq_none_iff]at hg;simp only[HI,ar]at hb;simp[Region.wanted,hg,hb]
 |some p=>
  obtain⟨t,want⟩:=p;simp only[Option.map_some,eP,eJ]at hg;obtain⟨⟨j,want'⟩,hgo,hd,rfl⟩:=hg;have ht:=h t;have hlt':=hlt _ rfl;simp only[HI]at hb;simp only at hd hlt';have az:a.tmps[t]?=some (a.tmps.getD t undef):=by simp[jw,hlt']
  split at hb
  ·rename_i x hx;rw[hx]at ht;simp only[ar]at hb;simp only[Region.wanted,hgo,yielded,hd,Option.bind_some,az,Ak ht];rw[<-hb]
   cases x<;>cases want'<;>rfl
  ·rename_i hx;rw[hx]at ht;simp only[ar]at hb;have hu:a.tmps.getD t undef= .tuple #[]:=by
    generalize a.tmps.getD t undef=u at ht
    cases ht with
    |v ht=>cases ht with
     |tup l vs hl _=>
      have:vs=[]:=lL (by simpa using hl.symm)
      subst this;rfl
   simp only[Region.wanted,hgo,yielded,hd,Option.bind_some,az,hu];rw[<-hb];rfl
  ·cases hb
theorem Ps {C:Cx} {l:List AV} {ys:List PV} {vs:List Value} (h:cq (AR C) l vs) (hl:o7 l=some ys):cq (PR C.rd) ys vs:=by
 unfold o7 at hl;obtain⟨m1,m2⟩:=dC hl;refine⟨by rw[<-m1];exact h.1,fun k y v hy hv=> ?_⟩
 have hk:k<l.length:=by have:=(dc.1 hy).1;omega
 have hx:l[k]?=some l[k]:=by simp[hk]
 have hxy:=m2 k _ y hx hy;have hxv:=h.2 k _ v hx hv;generalize l[k]=x at hxy hxv
 by_cases hag: ∃m,x= .agg m
 ·obtain⟨m,rfl⟩:=hag;simp only at hxy
  split at hxy
  ·rename_i hall;simp only[eP]at hxy;obtain⟨zs,hzs,rfl⟩:=hxy
   cases hxv with
   |agg _ us hl' h'=>
    obtain⟨p1,p2⟩:=Pt ⟨hl',h'⟩ hzs hall;exact .agg zs us p2 p1.1 p1.2
  ·cases hxy
 ·have hxy':x.AZ=some y:=by
   cases x<;>first|exact hxy|exact aJ ⟨_,rfl⟩ hag
  exact H7 hxv hxy'
def Cx.after (C:Cx) (w w':World) (nm:Nat):Cx:={C with rd:=gK C.rd w w',al:=fun n=>C.al n\/n=nm}
theorem Cx.Aq {C:Cx} (h:HR C hf wr w) (w':World) (nm:Nat):C.Le (C.after w w' nm):=by
 refine⟨fun b o v hv=> ?_,fun _ h=> .inl h,fun _ _ d h=>⟨d,h,aA _,fun _=>⟨rfl,rfl⟩⟩,fun _ _=>⟨rfl,fun _=>rfl⟩⟩
 have:=jI (h.rdw _ _ _ hv);simp[Cx.after,gK,this,hv]
theorem HR.after {C:Cx} (h:HR C hf wr w) {w':World} (hb:Below w.heap.size w w') (nm:Nat):HR (C.after w w' nm) hf wr w':=by
 have hle:=Cx.Aq h w' nm;refine⟨?_,?_,h.dead,?_,h.inj,h.wr,?_,?_,?_⟩
 ·intro b o v hv;simp only[Cx.after,gK]at hv
  split at hv
  ·rename_i hlt;rw[lC (hb.block b hlt)];exact h.rdw _ _ _ hv
  ·exact hv
 ·exact fun n ob hn=>⟨.inl (h.live n ob hn).1,(h.live n ob hn).2⟩
 ·intro n ob hn k;have:=h.gL hn;simp only[Cx.after,gK,this,aC];exact h.sep n ob hn k
 ·intro n ob hn hk;obtain⟨cs,el,h1,h2,h3,h4,h5⟩:=h.obj n ob hn hk;exact⟨cs,el,(hb.block _ (h.gL hn)).trans h1,h2,h3,h4,fun k x v hx hv=>(h5 k x v hx hv).mono hle⟩
 ·intro n ob hn hk t ht;obtain⟨cs,h1⟩:=h.typ n ob hn hk t ht;exact⟨cs,(hb.block _ (h.gL hn)).trans h1⟩
 ·intro n ob hn hk;obtain⟨es,clk,h1,h2⟩:=h.mp n ob hn hk;exact⟨es,clk,(hb.block _ (h.gL hn)).trans h1,h2.mono hle.rd⟩
theorem Wf.below {w w':World} (hb:Below w.heap.size w w'):Wf wr w w':=⟨hb.os,hb.tape,hb.output,hb.size,fun b hlt _=>hb.block b hlt⟩
def da (C:Cx) (hf:Nat->Option aI) (w:World) [∀b,Decidable (∃n ob,hf n=some ob/\C.mu n=b)]:Rd:=fun b o=>if(∃n ob,hf n=some ob/\C.mu n=b)then w.cell? ⟨b,o,none⟩else C.rd b o
theorem Ku (z n:Nat) (l:List PV):(chunk z n l).length=n:=by
 induction n generalizing l with
 |zero=>rfl
 |succ n ih=>simp[chunk,ih]
theorem Ng (z:Nat): ∀(n:Nat) (l:List PV),l.length=n*z->(∀c∈l,c.one=true)->(chunk z n l).flatMap PV.cells=l/\ ∀x∈chunk z n l,x.cells.length=z:=by
 intro n
 induction n with
 |zero=>intro l hl _;simp at hl;subst hl;simp[chunk]
 |succ n ih=>
  intro l hl h1;have hl':l.length=n*z+z:=by rw[hl,lJ]
  obtain⟨i1,i2⟩:=ih (l.drop z) (by simp;omega) fun c hc=>h1 c (qu hc)
  have hhead: ∀x,x=(if z=1 then(l.headD .fn0)else .agg (l.take z))->x.cells=l.take z/\x.cells.length=z:=by
   intro x hx
   by_cases hz:z=1
   ·rw[af hz]at hx;subst hz
    cases l with
    |nil=>simp at hl'
    |cons c l=>
     have hx:x=c:=hx;rw[hx];have hc:c.one=true:=h1 c (by simp)
     have:c.cells=[c]:=by cases c<;>first|rfl|(simp[PV.one]at hc)
     simp[this]
   ·rw[aa hz]at hx;subst hx;refine⟨rfl,?_⟩;show(l.take z).length=z;simp;omega
  obtain⟨e1,e2⟩:=hhead _ rfl;simp only[chunk,ft];rw[i1,e1];refine⟨vT _ _,fun x hx=> ?_⟩
  rcases cM.1 hx with rfl|hx
  ·exact e2
  ·exact i2 x hx
theorem QB {fu:Nat} {x:AV} {y:PV} (hx:view hf fu x=some y) (h1:x.one=true):y.one=true:=by
 cases fu with
 |zero=>simp[view]at hx
 |succ fu=>
  cases x<;>simp only[view,AV.one,cE,ar,reduceCtorEq]at hx h1
  case v=>subst hx;exact h1
  case fs=>subst hx;rfl
  case sn=>subst hx;rfl
  case pp=>subst hx;rfl
  case p n ver o=>
   split at hx
   ·split at hx
    ·simp only[eP]at hx;obtain⟨cs,-,rfl⟩:=hx;rfl
    ·cases hx
   ·cases hx
  case rs n ver o len z=>
   split at hx
   ·split at hx
    ·simp only[eP]at hx;obtain⟨cs,-,rfl⟩:=hx;rfl
    ·cases hx
   ·cases hx
  case fn f b c=>exact Ay hx
theorem r5 {C:Cx} (h:HR C hf wr w) [∀b,Decidable (∃n ob,hf n=some ob/\C.mu n=b)]: ∀(fu:Nat) (x:AV) (y:PV) (v:Value),AR C x v->view hf fu x=some y->PR (da C hf w) y v:=by
 have hle: ∀b o v,C.rd b o=some v->da C hf w b o=some v:=by
  intro b o v hv;unfold da;split
  ·exact h.rdw _ _ _ hv
  ·exact hv
 intro fu
 induction fu with
 |zero=>intro x y v _ hx;simp[view]at hx
 |succ fu ih=>
  have ihL: ∀(l:List AV) (ys:List PV) (vs:List Value),cq (AR C) l vs->bA (view hf fu) l=some ys->cq (PR (da C hf w)) ys vs:=by
   intro l ys vs hr hl;obtain⟨m1,m2⟩:=dC hl;refine⟨by rw[<-m1];exact hr.1,fun k y v hy hv=> ?_⟩
   have hk:k<l.length:=by have:=(dc.1 hy).1;omega
   exact ih l[k] y v (hr.2 k _ v (by simp[hk]) hv) (m2 k _ y (by simp[hk]) hy)
  have ihOne: ∀(l:List AV) (ys:List PV),bA (view hf fu) l=some ys->l.all AV.one=true-> ∀y∈ys,y.one=true:=by
   intro l ys hl h1 y hy;obtain⟨m1,m2⟩:=dC hl;obtain⟨k,hk,rfl⟩:=fU hy;have hk':k<l.length:=by omega
   rw[bz]at h1;exact QB (m2 k l[k] ys[k] (by simp[hk']) (by simp[hk])) (h1 _ (j7 hk'))
  intro x y v hxv hx
  cases hxv with
  |v hp=>simp only[view,ar]at hx;subst hx;exact hp.mono hle
  |fs l q hp=>simp only[view,ar]at hx;subst hx;exact hp.mono hle
  |sn=>simp only[view,ar]at hx;subst hx;exact .sl0
  |mp n b ha hk h=>simp[view]at hx
  |p n ver o b hal hm hcur=>
   simp only[view]at hx
   split at hx
   ·rename_i ob hn
    split at hx
    ·rename_i hcond;obtain⟨hver,hall⟩:=hcond;simp only[eP]at hx;obtain⟨cs,hcs,rfl⟩:=hx;obtain⟨-,hc2⟩:=hcur _ (h.live n ob hn).2;obtain rfl:=hc2 hver.symm;obtain⟨ws,el,g1,g2,g3,g4,g5⟩:=h.obj n ob hn hm;have hr:cq (AR C) ob.cells (ws.toList.take ob.cells.length):=by
      refine⟨by simp;omega,fun k x v hx hv=>g5 k x v hx ?_⟩
      rw[eS]at hv
      split at hv
      ·simpa using hv
      ·cases hv
     have hrp:=ihL _ cs _ hr hcs;have hone:=ihOne _ cs hcs hall;have:=PR.pt (rd:=da C hf w) (.agg cs) o (ws.toList.take ob.cells.length) (C.mu n) 0 hone hrp.1 (by
      intro k v hv;have hex: ∃m oc,hf m=some oc/\C.mu m=C.mu n:=⟨n,ob,hn,rfl⟩;simp only[da,hex,aC];rw[cell_of_heap g1,eX];rw[eS]at hv
      split at hv
      ·simpa using hv
      ·cases hv) hrp.2
     rw[eX]at this;exact this
    ·cases hx
   ·cases hx
  |pp x o vs bk of h1 hl hr hp=>simp only[view,ar]at hx;subst hx;exact .pt x o vs bk of h1 hl (fun k v hv=>hle _ _ _ (hr k v hv)) fun k y v hy hv=>(hp k y v hy hv).mono hle
  |ub=>simp[view]at hx
  |u=>simp[view]at hx
  |agg l vs hl hr=>
   simp only[view]at hx
   split at hx
   ·rename_i hall;simp only[eP]at hx;obtain⟨ys,hys,rfl⟩:=hx;have:=ihL l ys vs ⟨hl,hr⟩ hys;exact .agg ys vs (ihOne l ys hys hall) this.1 this.2
   ·cases hx
  |tup l vs hl hr=>
   simp only[view,eP]at hx;obtain⟨ys,hys,rfl⟩:=hx;have:=ihL l ys vs ⟨hl,hr⟩ hys;exact .tup ys vs this.1 this.2
  |fn f b c va vc hla hlc ha hc=>
   simp only[view]at hx;exact JC hx (fun a' h'=>ihL _ _ _ ⟨hla,ha⟩ h') (fun c' h'=>ihL _ _ _ ⟨hlc,hc⟩ h')
  |rs n ver o len z b o' cap hal hm hcap ho hcur=>
   simp only[view]at hx
   split at hx
   ·rename_i ob hn
    split at hx
    ·rename_i hcond;obtain⟨hver,hlen,hall⟩:=hcond;simp only[eP]at hx;obtain⟨cs,hcs,rfl⟩:=hx;obtain⟨-,hc2⟩:=hcur _ (h.live n ob hn).2;obtain⟨rfl,-⟩:=hc2 hver.symm;obtain⟨ws,el,g1,g2,g3,g4,g5⟩:=h.obj n ob hn hm;have hr:cq (AR C) ob.cells (ws.toList.take ob.cells.length):=by
      refine⟨by simp;omega,fun k x v hx hv=>g5 k x v hx ?_⟩
      rw[eS]at hv
      split at hv
      ·simpa using hv
      ·cases hv
     have hr2:=(hr.drop o).take (len*z);have hrp:=ihL _ cs _ hr2 hcs;have hone:=ihOne _ cs hcs hall;have hcl:cs.length=len*z:=by
      rw[hrp.1];simp;omega
     obtain⟨k1,k2⟩:=Ng z len cs hcl hone;have hchl:=Ku z len cs
     by_cases hl0:len=0
     ·subst hl0;have e:chunk z 0 cs=[]:=rfl;rw[e];exact .sl [] 0 [] (C.mu n) o' cap (by simp) (by simp) (by simp) (by simp) (by simp) (by simp)
     ·have ho':o'=o:=by rcases ho with ho|ho<;>omega
      subst ho';have:=PR.sl (rd:=da C hf w) (chunk z len cs) z (((ws.toList.take ob.cells.length).drop o').take (len*z)) (C.mu n) o' cap (by rw[hchl];exact hcap) k2 (by rw[k1];exact hone) (by rw[k1];exact hrp.1)
       (by
        intro k v hv;have hex: ∃m oc,hf m=some oc/\C.mu m=C.mu n:=⟨n,ob,hn,rfl⟩;simp only[da,hex,aC];rw[cell_of_heap g1];rw[eS]at hv
        split at hv
        ·rw[mb,eS]at hv
         split at hv
         ·simpa using hv
         ·cases hv
        ·cases hv)
       (by rw[k1];exact hrp.2)
      rw[hchl]at this;exact this
    ·cases hx
   ·cases hx
theorem PR.FB {rd rd':Rd} {x:PV} {v:Value} (h:PR rd x v):x.flat=true->PR rd' x v:=by
 have hall: ∀(l:List PV),PV.flat.flatL l=true-> ∀(k:Nat) (y:PV),l[k]?=some y->y.flat=true:=by
  intro l
  induction l with
  |nil=>intro _ k y hy;simp at hy
  |cons x l ih=>
   intro hl k y hy;simp only[PV.flat.flatL,bc]at hl
   cases k with
   |zero=>simp at hy;subst hy;exact hl.1
   |succ k=>exact ih hl.2 k y (by simpa using hy)
 induction h with
 |b x=>intro _;exact .b x
 |i k n=>intro _;exact .i k n
 |s x=>intro _;exact .s x
 |agg l vs h1 hl _ ih=>intro hf;exact .agg l vs h1 hl fun k x v hx hv=>ih k x v hx hv (hall l hf k x hx)
 |tup l vs hl _ ih=>intro hf;exact .tup l vs hl fun k x v hx hv=>ih k x v hx hv (hall l hf k x hx)
 |sl0=>intro hf;simp[PV.flat]at hf
 |sl=>intro hf;simp[PV.flat]at hf
 |sle=>intro hf;simp[PV.flat]at hf
 |fn f=>intro _;exact .fn f
 |fn0=>intro _;exact .fn0
 |p0=>intro _;exact .p0
 |if0=>intro _;exact .if0
 |ifc t x v _ ih=>intro hf;exact .ifc t x v (ih hf)
 |pt=>intro hf;simp[PV.flat]at hf
 |fc=>intro hf;simp[PV.flat]at hf
end
variable {hf:Nat->Option aI}
theorem iV {α β:Type} {g g':α->Option β} {l:List α} (h: ∀x∈l,g x=g' x):bA g l=bA g' l:=by
 induction l with
 |nil=>rfl
 |cons x l ih=>simp only[bA,h x (by simp),ih fun y hy=>h y (by simp[hy])]
theorem fm {α β:Type} {g g':α->List β} {l:List α} (h: ∀x∈l,g x=g' x):l.flatMap g=l.flatMap g':=by
 induction l with
 |nil=>rfl
 |cons x l ih=>simp only[ft,h x (by simp),ih fun y hy=>h y (by simp[hy])]
theorem vi {hf':Nat->Option aI}: ∀(f:Nat) (x:AV),(∀n∈aW hf f x,hf' n=hf n)->view hf' f x=view hf f x/\aW hf' f x=aW hf f x:=by
 intro f
 induction f with
 |zero=>intro x _;cases x<;>exact⟨rfl,rfl⟩
 |succ f ih=>
  intro x h;cases x
  case agg l=>
   simp only[aW]at h;have hl: ∀x∈l,view hf' f x=view hf f x/\aW hf' f x=aW hf f x:=fun x hx=>ih x fun n hn=>h n (jy.2 ⟨x,hx,hn⟩)
   simp only[view,aW];rw[iV fun x hx=>(hl x hx).1,fm fun x hx=>(hl x hx).2]
   exact⟨rfl,rfl⟩
  case tup l=>
   simp only[aW]at h;have hl: ∀x∈l,view hf' f x=view hf f x/\aW hf' f x=aW hf f x:=fun x hx=>ih x fun n hn=>h n (jy.2 ⟨x,hx,hn⟩)
   simp only[view,aW];rw[iV fun x hx=>(hl x hx).1,fm fun x hx=>(hl x hx).2]
   exact⟨rfl,rfl⟩
  case rs n ver o len z=>
   simp only[aW]at h;have h0:hf' n=hf n:=h n (by simp)
   simp only[view,aW,h0]
   cases hn:hf n with
   |none=>exact⟨rfl,rfl⟩
   |some ob=>
    simp only[hn]at h;have hl: ∀x∈(ob.cells.drop o).take (len*z),view hf' f x=view hf f x/\aW hf' f x=aW hf f x:=fun x hx=>ih x fun n hn=>h n (ju _ (jy.2 ⟨x,hx,hn⟩))
    simp only;rw[iV fun x hx=>(hl x hx).1,fm fun x hx=>(hl x hx).2]
    exact⟨rfl,rfl⟩
  case fn g b c=>
   simp only[aW]at h;have hb: ∀x∈b,view hf' f x=view hf f x/\aW hf' f x=aW hf f x:=fun x hx=>ih x fun n hn=>h n (iA.2 (.inl (jy.2 ⟨x,hx,hn⟩)))
   have hc: ∀x∈c,view hf' f x=view hf f x/\aW hf' f x=aW hf f x:=fun x hx=>ih x fun n hn=>h n (iA.2 (.inr (jy.2 ⟨x,hx,hn⟩)))
   simp only[view,aW];rw[iV fun x hx=>(hb x hx).1,iV fun x hx=>(hc x hx).1,fm fun x hx=>(hb x hx).2,fm fun x hx=>(hc x hx).2]
   exact⟨rfl,rfl⟩
  case p n ver o=>
   simp only[aW]at h;have h0:hf' n=hf n:=h n (by simp)
   simp only[view,aW,h0]
   cases hn:hf n with
   |none=>exact⟨rfl,rfl⟩
   |some ob=>
    simp only[hn]at h;have hl: ∀x∈ob.cells,view hf' f x=view hf f x/\aW hf' f x=aW hf f x:=fun x hx=>ih x fun n hn=>h n (ju _ (jy.2 ⟨x,hx,hn⟩))
    simp only;rw[iV fun x hx=>(hl x hx).1,fm fun x hx=>(hl x hx).2]
    exact⟨rfl,rfl⟩
  all_goals exact⟨rfl,rfl⟩
def Cx.only (C:Cx) (ns:List Nat):Cx:={C with cur:=fun n=>if n∈ns then C.cur n else none}
def fg (hf:Nat->Option aI) (ns:List Nat):Nat->Option aI:=fun n=>if n∈ns then hf n else none
theorem Cx.yw (C:Cx) (ns:List Nat):C.Le (C.only ns):=by
 refine⟨fun _ _ _ h=>h,fun _ h=>h,fun n _ d h=> ?_,fun _ _=>⟨rfl,fun _=>rfl⟩⟩
 simp only[Cx.only]at h
 split at h
 ·exact⟨d,h,aA _,fun _=>⟨rfl,rfl⟩⟩
 ·cases h
theorem HR.only {C:Cx} {wr:Nat->Prop} {w:World} (h:HR C hf wr w) (ns:List Nat):HR (C.only ns) (fg hf ns) wr w:=by
 have key: ∀n ob,fg hf ns n=some ob->n∈ns/\hf n=some ob:=by
  intro n ob hn;simp only[fg]at hn
  split at hn
  ·rename_i hm;exact⟨hm,hn⟩
  ·cases hn
 refine⟨h.rdw,?_,?_,?_,?_,?_,?_,?_,fun n ob hn=>h.mp n ob (key n ob hn).2⟩
 ·intro n ob hn;obtain⟨hm,hn⟩:=key n ob hn;obtain⟨h1,h2⟩:=h.live n ob hn;exact⟨h1,by simp only[Cx.only,hm,aC];exact h2⟩
 ·intro n hn;simp only[Cx.only];split
  ·rename_i hm;simp only[fg,hm,aC]at hn;exact h.dead n hn
  ·rfl
 ·intro n ob hn k;exact h.sep n ob (key n ob hn).2 k
 ·intro n m ob oc hn hm he;exact h.inj n m ob oc (key n ob hn).2 (key m oc hm).2 he
 ·intro n ob hn;exact h.wr n ob (key n ob hn).2
 ·intro n ob hn hk;obtain⟨cs,el,h1,h2,h3,h4,h5⟩:=h.obj n ob (key n ob hn).2 hk;exact⟨cs,el,h1,h2,h3,h4,fun k x v hx hv=>(h5 k x v hx hv).mono (C.yw ns)⟩
 ·intro n ob hn hk t ht;exact h.typ n ob (key n ob hn).2 hk t ht
theorem kz (ns:List Nat): ∀(hf:Nat->Option aI) (n:Nat),gQ hf (ns.map fun n=>(n,none)) n=if n∈ns then none else hf n:=by
 induction ns with
 |nil=>intro hf n;simp
 |cons m ns ih=>
  intro hf n;simp only[b8,gQ,ih,cM]
  by_cases h1:n∈ns
  ·simp[h1]
  ·by_cases h2:n=m<;>simp[h1,h2]
def Cx.mN (C:Cx) (rd:Rd) (w w':World) (ns:List Nat) (nm:Nat):Cx:={C with rd:=gK rd w w',al:=fun n=>C.al n\/n=nm,cur:=fun n=>if n∈ns then none else C.cur n}
theorem HR.mN {C:Cx} {wr:Nat->Prop} {w w':World} (h:HR C hf wr w) (hb:Below w.heap.size w w') (ns:List Nat) (nm:Nat) [∀b,Decidable (∃n ob,fg hf ns n=some ob/\(C.only ns).mu n=b)]:
  C.Le (C.mN (da (C.only ns) (fg hf ns) w) w w' ns nm)/\HR (C.mN (da (C.only ns) (fg hf ns) w) w w' ns nm) (gQ hf (ns.map fun n=>(n,none))) wr w':=by
 have key: ∀n ob,gQ hf (ns.map fun n=>(n,none)) n=some ob->n∉ns/\hf n=some ob:=by
  intro n ob hn;rw[kz]at hn
  split at hn
  ·cases hn
  ·rename_i hm;exact⟨hm,hn⟩
 have hle:C.Le (C.mN (da (C.only ns) (fg hf ns) w) w w' ns nm):=by
  refine⟨fun b o v hv=> ?_,fun _ h=> .inl h,fun n _ d hd=> ?_,fun _ _=>⟨rfl,fun _=>rfl⟩⟩
  ·have hlt:=jI (h.rdw _ _ _ hv);simp only[Cx.mN,gK,hlt,aC,da];split
   ·exact h.rdw _ _ _ hv
   ·exact hv
  ·simp only[Cx.mN]at hd
   split at hd
   ·cases hd
   ·exact⟨d,hd,aA _,fun _=>⟨rfl,rfl⟩⟩
 refine⟨hle,?_,?_,?_,?_,?_,?_,?_,?_,?_⟩
 ·intro b o v hv;simp only[Cx.mN,gK]at hv
  split at hv
  ·rename_i hlt;rw[lC (hb.block b hlt)];simp only[da]at hv
   split at hv
   ·exact hv
   ·exact h.rdw _ _ _ hv
  ·exact hv
 ·intro n ob hn;obtain⟨hm,hn⟩:=key n ob hn;obtain⟨h1,h2⟩:=h.live n ob hn;exact⟨.inl h1,by simp only[Cx.mN,hm,aB];exact h2⟩
 ·intro n hn;simp only[Cx.mN];split
  ·rfl
  ·rename_i hm;rw[kz,aa hm]at hn;exact h.dead n hn
 ·intro n ob hn k;obtain⟨hm,hn⟩:=key n ob hn;have hlt:=h.gL hn;show gK (da (C.only ns) (fg hf ns) w) w w' (C.mu n) k=none;simp only[gK,hlt,aC,da];split
  ·rename_i hex;obtain⟨m,oc,hmm,hmu⟩:=hex
   exfalso
   simp only[fg]at hmm
   split at hmm
   ·rename_i hmem;have:m=n:=h.inj m n oc ob hmm hn hmu;subst this;exact hm hmem
   ·cases hmm
  ·exact h.sep n ob hn k
 ·intro n m ob oc hn hm he;exact h.inj n m ob oc (key n ob hn).2 (key m oc hm).2 he
 ·intro n ob hn;exact h.wr n ob (key n ob hn).2
 ·intro n ob hn hk;have hn:=(key n ob hn).2;obtain⟨cs,el,h1,h2,h3,h4,h5⟩:=h.obj n ob hn hk;exact⟨cs,el,(hb.block _ (h.gL hn)).trans h1,h2,h3,h4,fun k x v hx hv=>(h5 k x v hx hv).mono hle⟩
 ·intro n ob hn hk t ht;have hn:=(key n ob hn).2;obtain⟨cs,h1⟩:=h.typ n ob hn hk t ht;exact⟨cs,(hb.block _ (h.gL hn)).trans h1⟩
 ·intro n ob hn hk;have hn:=(key n ob hn).2;obtain⟨es,clk,h1,h2⟩:=h.mp n ob hn hk;exact⟨es,clk,(hb.block _ (h.gL hn)).trans h1,h2.mono hle.rd⟩
end Go.Dom
namespace Go.Dom
open Go.RowKit
structure YO (P:Program) [cW P] (nt:Nat) (ops:Array Oper) (o:Oper) (so:j9):Prop where
 op:tq P o=some so.o
 dst:o.dst=so.d
 dlt: ∀d,so.d=some d->d<nt
 gd:o.guard.map (fun p=>(((ops[p.1]?).bind (·.dst)),p.2))=so.g.map fun p=>(some p.1,p.2)
 glt: ∀p,so.g=some p->p.1<nt
section
variable {P:Program} [cW P] {E:Env P} {al:Nat->Prop} {tf:Nat->AV} {hf:Nat->Option aI} {a:Act} {w:World}
variable {K:Act->World->Prop} {Q:Exit->Act->World->Prop} {f:FuncId} {o:Oper} {ro:Option Nat}
theorem GO {C0 C C':Cx} {base:Nat} {hf':Nat->Option aI} (h: ∀n ob,hf n=some ob->(C0.al n/\C.mu n=C0.mu n)\/base<=C.mu n) (hs:Db base C C' hf hf'): ∀n ob,hf' n=some ob->(C0.al n/\C'.mu n=C0.mu n)\/base<=C'.mu n:=by
 intro n ob hn;rcases hs n ob hn with⟨ob0,h0,hm⟩|hb
 ·rw[hm];exact h n ob0 h0
 ·exact .inr hb
theorem Bf {c:Call} (ho:o.op= .call c) {x:Operand} (hc:c.callee= .value x) {g:FuncId} {va vc:List Value} (hx:a.eval x= .func (.func f) va.toArray vc.toArray) (he:Enters P f g):
  (execOp a.eval o).run P w= .ok (.enter g (va++(c.args.toList.map a.eval++vc)).toArray) w:=by
 simp only[execOp,ho,resolve,hc,hx,Deferred.ofValue,bI,Sem.run_pure,Result.andThen,invoke];have:=he (va++(c.args.toList.map a.eval++vc)).toArray w;have e:va.toArray++c.args.map a.eval++vc.toArray=(va++(c.args.toList.map a.eval++vc)).toArray:=fF (by simp)
 rw[e];exact this
theorem cq.app {α:Type} {R:α->Value->Prop} {l m:List α} {vs us:List Value} (h:cq R l vs) (k:cq R m us):cq R (l++m) (vs++us):=by
 refine⟨by simp[h.1,k.1],fun j x v hx hv=> ?_⟩
 by_cases hj:j<l.length
 ·rw[sr hj]at hx;rw[sr (by rw[<-h.1];exact hj)]at hv
  exact h.2 j x v hx hv
 ·rw[r9 (by omega)]at hx
  rw[r9 (by rw[<-h.1];omega)]at hv
  rw[<-h.1]at hv;exact k.2 _ x v hx hv
theorem rI {C:Cx} {fv:AV} {v:Value} {as avs:List AV} {vs:List Value} (h:FC fv as=some (f,avs)) (hv:AR C fv v) (hr:cq (AR C) as vs):
  ∃va vc:List Value,v= .func (.func f) va.toArray vc.toArray/\cq (AR C) avs (va++(vs++vc)):=by
 unfold FC at h
 replace hv:=hv.nz
 generalize fv.nz=fv at hv h
 split at h
 ·simp only[ar,eJ]at h;obtain⟨rfl,rfl⟩:=h
  cases hv with|v hv=>cases hv;exact⟨[],[],rfl,by simpa using hr⟩
 ·simp only[ar,eJ]at h;obtain⟨rfl,rfl⟩:=h
  cases hv with
  |fn f a c va vc hla hlc ha hc=>exact⟨va,vc,rfl,cq.app ⟨hla,ha⟩ (hr.app ⟨hlc,hc⟩)⟩
 ·cases h
theorem xo {C:Cx} {wr:Nat->Prop} {w:World} (h:HR C hf wr w) [∀b,Decidable (∃n ob,hf n=some ob/\C.mu n=b)] {b o:Nat} {v:Value} (hv:C.rd b o=some v):da C hf w b o=some v:=by
 unfold da;split
 ·exact h.rdw _ _ _ hv
 ·exact hv
theorem Ky {f:SX} {args:List SX} (h:tq P o=some (.call f args)): ∃c x,o.op= .call c/\c.callee= .value x/\sx P x=some f/\bA (sx P) c.args.toList=some args:=by
 unfold tq at h
 split at h
 case h_20 c ho=>
  unfold zU at h
  split at h
  ·rename_i x hx;simp only[Option.bind_eq_bind,b9,ar,SO.call.injEq]at h;obtain⟨f',hf',as,has,rfl,rfl⟩:=h;exact⟨c,x,ho,hx,hf',has⟩
  ·exfalso
   split at h
   ·split at h<;>simp[b9]at h
   ·split at h<;>simp[b9]at h
   ·split at h<;>simp[b9]at h
   ·split at h<;>simp[b9]at h
   ·simp[b9]at h
   ·simp[b9]at h
   ·simp[b9]at h
   ·split at h
    ·split at h
     ·simp[b9]at h
     ·cases h
    ·cases h
   ·cases h
  ·cases h
 all_goals exfalso
 all_goals first
  |(simp[b9]at h;done)
  |(split at h<;>simp[b9]at h;done)
  |(split at h<;>first|(simp[b9]at h;done)|(split at h<;>first|(simp[b9]at h;done)|(split at h<;>simp[b9]at h)))
  |cases h
def FR (ro:Option Nat):Fence:={Fence.wide with round:=ro}
theorem MZ {n:Nat} {args:Array Value} {w:World} {R:Ending->World->Prop} (h:Calls P f args w R):CallsIn (FR ro) n P f args w R:=
 (callsIn_wide.2 h:CallsIn Fence.wide n P f args w R)
theorem tU {args:Array Value} {w1:World} (hnd: ∀c,o.op≠ .defer c) (hrun:(execOp a.eval o).run P w= .ok (.enter f args) w1)
  (h:Calls P f args w1 fun
   | .returned v,w''=>K (a.put o.dst v) w''
   | .panicked chain,w''=>Q (.panic chain) a w''
   | .outgrown,_=>LetsOut Q):o.wpIn (FR ro) 0 P a w K Q:=by
 refine⟨fun _ _=>trivial,?_⟩
 rw[Oper.semAt_eq _ _ _ hnd,hrun,Oper.uponIn_enter];exact⟨fun h=>(by cases h),MZ h⟩
theorem tV {v:Value} {w1:World} (hnd: ∀c,o.op≠ .defer c) (hrun:(execOp a.eval o).run P w= .ok (.value v) w1) (h:K (a.put o.dst v) w1):o.wpIn (FR ro) 0 P a w K Q:=by
 refine⟨fun _ _=>trivial,?_⟩
 rw[Oper.semAt_eq _ _ _ hnd,hrun,Oper.uponIn_value];exact h
theorem QI {w1:World} (hnd: ∀c,o.op≠ .defer c) (hrun:(execOp a.eval o).run P w= .ok .skip w1) (h:K (a.put o.dst undef) w1):o.wpIn (FR ro) 0 P a w K Q:=by
 refine⟨fun _ _=>trivial,?_⟩
 rw[Oper.semAt_eq _ _ _ hnd,hrun,Oper.uponIn_skip];exact h
theorem GQ {nx k:Nat} {ops:Array Oper} {so:j9} {tf':Nat->AV} {hf':Nat->Option aI} {rs ws:List Nat}
  (hok:YO P E.nt ops o so) (hwr: ∀b,E.fr<=b->E.wr b) (hst:np P nx k so tf hf tf' hf' rs ws) (hsr:SR E al tf hf a w) (hnm: ¬al (nx+k))
  (hK: ∀a' w',SR E (fun n=>al n\/n=nx+k) tf' hf' a' w'->K a' w'):
  (if Region.wanted o (yielded ops a.tmps)then o.wpIn (FR E.ro) 0 P a w K Q else(∀f,o.about P w a.eval=some f->(FR E.ro).fn f)/\K (a.put o.dst undef) w):=by
 have hnd: ∀c,o.op≠ .defer c:=fun c hc=>by have:=hok.op;simp[tq,hc]at this
 obtain⟨C,hal,hh,hrd,⟨hwf,hC0,hst0⟩,hdf,hsz,htm⟩:=hsr;have hdlt: ∀d,so.d=some d->d<a.tmps.size:=fun d hd=>by rw[hsz];exact hok.dlt d hd
 have hglt: ∀p,so.g=some p->p.1<a.tmps.size:=fun p hp=>by rw[hsz];exact hok.glt p hp
 rcases hst with⟨hg,rfl,rfl,-,-⟩|⟨hg,ao,hop,rfl,rfl,-,-⟩
 ·have hwant:=US hok.gd hglt htm hg;rw[hwant];simp only[cE,aB];refine⟨fun _ _=>trivial,hK _ _ ⟨C.k9 (nx+k),?_,hh.k9 _,hrd,⟨hwf,hC0.trans (C.lU _),hst0⟩,?_,?_,?_⟩⟩
  ·intro n;simp only[Cx.k9,hal]
  ·rw[put_defers];exact hdf
  ·rw[nL];exact hsz
  ·rw[hok.dst];refine tH hdlt (nO (C.lU _) htm) ?_;exact .v (.tup [] [] rfl (fun k x v hx=>by simp at hx))
 ·have hwant:=US hok.gd hglt htm hg;rw[hwant];simp only[aC];unfold UA at hop
  split at hop
  ·rename_i f args hso;have hcomp:=hok.op;rw[hso]at hcomp;obtain⟨c,x,ho,hc,hx,has⟩:=Ky hcomp;have hcall0:=ho;have htr: ∀b o v,TR P b o=some v->C.rd b o=some v:=fun b o v hv=>hC0.rd _ _ _ (E.gl _ _ _ hv)
   have hfv:=cA hx ⟨htr,htm⟩;have hav:=Ec has ⟨htr,htm⟩;have fin: ∀(r:PV) (g:FuncId) (f0:FuncId) (va vc:List Value),a.eval x= .func (.func f0) va.toArray vc.toArray->Enters P f0 g->
     Calls P g (va++(c.args.toList.map a.eval++vc)).toArray w (fun e w'=> ∃v,e= .returned v/\Below w.heap.size w w'/\PR (gK C.rd w w') r v)->
     (∀a' w',SR E (fun n=>al n\/n=nx+k) (qd tf so.d (.v r)) hf a' w'->K a' w')->o.wpIn (FR E.ro) 0 P a w K Q:=by
    intro r g f0 va vc hxe he hcall hK;have hrun:=Bf (P:=P) (w:=w) ho hc hxe he;refine tU hnd hrun ?_;refine hcall.mono ?_;rintro e w' ⟨v,rfl,hb,hpr⟩;refine hK _ _ ⟨C.after w w' (nx+k),?_,hh.after hb _,?_,⟨hwf.trans (Wf.below hb),hC0.trans (Cx.Aq hh w' _),hst0⟩,?_,?_,?_⟩
    ·intro n;simp only[Cx.after,hal]
    ·intro b hlt;rw[<-hrd b hlt]
     funext q
     have:b<w.heap.size:=bM (E.Gj hlt) hwf.fr;simp[Cx.after,gK,this]
    ·rw[put_defers];exact hdf
    ·rw[nL];exact hsz
    ·rw[hok.dst];exact tH hdlt (nO (Cx.Aq hh w' _) htm) (.v hpr)
   cases hop with
   |eff f0 avs hs v up hf0 hhs he=>
    obtain⟨g,hen,hcall⟩:=he;obtain⟨va,vc,hxe,hav⟩:=rI hf0 hfv hav;have hrun:=Bf (P:=P) (w:=w) ho hc hxe hen;refine tU hnd hrun ?_;refine(hcall C hf E.wr w E.fr _ htr hh hwr hwf.fr hhs (fun h=>hnm ((hal _).1 h)) hav).mono ?_
    rintro e w' ⟨val,C',rfl,hv,hh',hle,hal',hwf',hrd',hstay⟩;refine hK _ _ ⟨C',?_,hh',?_,⟨hwf.trans hwf',hC0.trans hle,GO hst0 (fun n ob hn=>(hstay n ob hn).imp id (fw E.frl))⟩,?_,?_,?_⟩
    ·intro n;rw[hal',hal]
    ·intro b hlt;rw[hrd' b (E.Gj hlt)];exact hrd b hlt
    ·rw[put_defers];exact hdf
    ·rw[nL];exact hsz
    ·rw[hok.dst];exact tH hdlt (nO hle htm) hv
   |same f0 v0 hf0 he=>
    obtain⟨va,vc,hxe,hav⟩:=rI hf0 hfv hav;obtain⟨val,us,hvs,hval,hnil⟩:=hav.gv;have hus:=hnil.eE;subst hus;have ea:va.toArray++c.args.map a.eval++vc.toArray= #[val]:=by apply fF;simpa using hvs
    have hrun:(execOp a.eval o).run P w= .ok (.value val) w:=by
     simp only[execOp,ho,resolve,hc,hxe,Deferred.ofValue,bI,Sem.run_pure,Result.andThen,invoke,ea];simpa using he val w
    refine tV hnd hrun ?_;refine hK _ _ ⟨C.k9 (nx+k),?_,hh.k9 _,hrd,⟨hwf,hC0.trans (C.lU _),hst0⟩,?_,?_,?_⟩
    ·intro n;simp only[Cx.k9,hal]
    ·rw[put_defers];exact hdf
    ·rw[nL];exact hsz
    ·rw[hok.dst];exact tH hdlt (nO (C.lU _) htm) (hval.mono (C.lU _))
   |ext f0 avs pvs r hf0 hargs he=>
    obtain⟨va,vc,hxe,hav⟩:=rI hf0 hfv hav;obtain⟨val,hval,hpr⟩:=he C.rd _ w (Ps hav hargs);have hrun:(execOp a.eval o).run P w= .ok (.value val) w:=by
     simp only[execOp,ho,resolve,hc,hxe,Deferred.ofValue,bI,Sem.run_pure,Result.andThen,invoke];have e:va.toArray++c.args.map a.eval++vc.toArray=(va++(c.args.toList.map a.eval++vc)).toArray:=fF (by simp)
     rw[e];exact hval
    refine tV hnd hrun ?_;refine hK _ _ ⟨C.k9 (nx+k),?_,hh.k9 _,hrd,⟨hwf,hC0.trans (C.lU _),hst0⟩,?_,?_,?_⟩
    ·intro n;simp only[Cx.k9,hal]
    ·rw[put_defers];exact hdf
    ·rw[nL];exact hsz
    ·rw[hok.dst];exact tH hdlt (nO (C.lU _) htm) (.v hpr)
   |pure f0 avs pvs r hf0 hargs he=>
    obtain⟨g,hen,hcall⟩:=he;obtain⟨va,vc,hxe,hav⟩:=rI hf0 hfv hav;exact fin r g f0 va vc hxe hen (hcall w C.rd _ htr hh.rdw (Ps hav hargs)) hK
   |view f0 avs pvs r hf0 hargs hflat he=>
    obtain⟨g,hen,hcall⟩:=he;obtain⟨va,vc,hxe,hav⟩:=rI hf0 hfv hav;have: ∀b,Decidable (∃n ob,hf n=some ob/\C.mu n=b):=fun b=>Classical.propDecidable _
    have hvr:cq (PR (da C hf w)) pvs (va++(c.args.toList.map a.eval++vc)):=by
     obtain⟨m1,m2⟩:=dC hargs;refine⟨by rw[<-m1];exact hav.1,fun j y v hy hv=> ?_⟩
     have hj:j<avs.length:=by have:=(dc.1 hy).1;omega
     exact r5 hh 9 _ y v (hav.2 j _ v (bC hj) hv) (m2 j _ y (bC hj) hy)
    have hrdw: ∀b o v,da C hf w b o=some v->w.cell? ⟨b,o,none⟩=some v:=by
     intro b o v hv;unfold da at hv
     split at hv
     ·exact hv
     ·exact hh.rdw _ _ _ hv
    refine fin r g f0 va vc hxe hen ((hcall w _ _ (fun b o v hv=>xo hh (htr b o v hv)) hrdw hvr).mono ?_) hK
    rintro e w' ⟨v,rfl,hb,hpr⟩;exact⟨v,rfl,hb,hpr.FB hflat⟩
   |k9 f0 avs pvs r hf0 hargs hlo he=>
    obtain⟨g,hen,hcall⟩:=he;obtain⟨va,vc,hxe,hav⟩:=rI hf0 hfv hav;generalize hns:avs.flatMap (aW hf 9)=ns at hlo hK;have: ∀b,Decidable (∃n ob,fg hf ns n=some ob/\(C.only ns).mu n=b):=fun b=>Classical.propDecidable _
    have ho:=hh.only ns;have hvr:cq (PR (da (C.only ns) (fg hf ns) w)) pvs (va++(c.args.toList.map a.eval++vc)):=by
     obtain⟨m1,m2⟩:=dC hargs;refine⟨by rw[<-m1];exact hav.1,fun j y v hy hv=> ?_⟩
     have hj:j<avs.length:=by have:=(dc.1 hy).1;omega
     refine r5 ho 9 _ y v ((hav.2 j _ v (bC hj) hv).mono (C.yw ns)) ?_;rw[(vi (hf:=hf) (hf':=fg hf ns) 9 _ fun n hn=> ?_).1]
     ·exact m2 j _ y (bC hj) hy
     ·have:n∈ns:=by rw[<-hns];exact jy.2 ⟨_,j7 hj,hn⟩
      simp only[fg,this,aC]
    have hrdw: ∀b o v,da (C.only ns) (fg hf ns) w b o=some v->w.cell? ⟨b,o,none⟩=some v:=by
     intro b o v hv;unfold da at hv
     split at hv
     ·exact hv
     ·exact hh.rdw _ _ _ hv
    have hrun:=Bf (P:=P) (w:=w) hcall0 hc hxe hen;refine tU hnd hrun ?_;refine(hcall w _ _ (fun b o v hv=>xo ho (htr b o v hv)) hrdw hvr).mono ?_
    rintro e w' ⟨v,rfl,hb,hpr⟩;obtain⟨gle,gh⟩:=hh.mN hb ns (nx+k);have hrest: ∀n ob,gQ hf (ns.map fun n=>(n,none)) n=some ob->hf n=some ob:=by
     intro n ob hn;rw[kz]at hn
     split at hn
     ·cases hn
     ·exact hn
    refine hK _ _ ⟨_,?_,gh,?_,⟨hwf.trans (Wf.below hb),hC0.trans gle,fun n ob hn=>hst0 n ob (hrest n ob hn)⟩,?_,?_,?_⟩
    ·intro n;simp only[Cx.mN,hal]
    ·intro b hlt;rw[<-hrd b hlt]
     funext q
     have h1:b<w.heap.size:=bM (E.Gj hlt) hwf.fr;simp only[Cx.mN,gK,h1,aC,da];split
     ·rename_i hex;obtain⟨m,oc,hmm,hmu⟩:=hex
      exfalso
      simp only[fg]at hmm
      split at hmm
      ·rename_i hmem;have hmu:C.mu m=b:=hmu;rcases hlt with hlt|hlt
       case inr=>exact(E.lnf b hlt).2 (hmu▸hh.wr m oc hmm)
       rcases hst0 m oc hmm with⟨h2,-⟩|h2
       ·have:=E.lo m h2;have:=hlo m hmem;omega
       ·have hmu:C.mu m=b:=hmu;omega
      ·cases hmm
     ·rfl
    ·rw[put_defers];exact hdf
    ·rw[nL];exact hsz
    ·rw[hok.dst];exact tH hdlt (nO gle htm) (.v hpr)
  ·obtain⟨ha,hp⟩:=hop;obtain⟨val,w',C',hrun,hv,hh',hle,hal',hwf',hrd',hstay⟩:=VT hok.op ha hp hh ⟨fun b o v hv=>hC0.rd _ _ _ (E.gl _ _ _ hv),htm⟩ (base:=E.fr) (fun h=>hnm ((hal _).1 h)) hwr hwf.fr
   have goal:K (a.put o.dst val) w':=by
    refine hK _ _ ⟨C',?_,hh',?_,⟨hwf.trans hwf',hC0.trans hle,GO hst0 (fun n ob hn=>(hstay n ob hn).imp id (fw E.frl))⟩,?_,?_,?_⟩
    ·intro n;rw[hal',hal]
    ·intro b hlt;rw[hrd' b (E.Gj hlt)];exact hrd b hlt
    ·rw[put_defers];exact hdf
    ·rw[nL];exact hsz
    ·rw[hok.dst];exact tH hdlt (nO hle htm) hv
   rcases hrun with hrun|⟨hrun,rfl⟩
   ·exact tV hnd hrun goal
   ·exact QI hnd hrun goal
end
end Go.Dom
namespace Go.Dom
open Go.RowKit
def SX.ts:SX->List Nat
 | .t n=>[n]
 | .c _=>[]
def SX.Uk:Option SX->List Nat
 |none=>[]
 |some x=>x.ts
def SO.ts:SO->List Nat
 | .mov x| .box x| .ld _ _ x| .un _ x| .cvi _ x| .cvs x| .b2s x| .s2b x| .fad _ x| .fld _ _ _ x| .ext x _| .len x| .lenS x| .nck x| .mki _ x| .cvp _ x| .sld x| .clr _ x| .snl _ x=>x.ts
 | .mset _ x k v=>x.ts++k.ts++v.ts
 | .pick c a b=>c.ts++a.ts++b.ts
 | .alloc _ _| .lenA _| .stop| .mkm=>[]
 | .build _ ps=>ps.flatMap fun p=>p.2.2.ts
 | .bsl _ _ ps=>ps.flatMap SX.ts
 | .st _ x y| .bin _ x y| .beq _ x y| .ceq _ _ x y| .mks _ _ x y| .ixs _ x y| .ixa _ _ x y| .ixS x y| .ixV _ _ _ x y| .mm _ x y| .app _ _ _ x y| .cpy _ x y| .peq _ x y| .ust _ x y| .mget _ _ _ x y=>x.ts++y.ts
 | .slS x lo hi=>x.ts++SX.Uk lo++SX.Uk hi
 | .slL _ x lo hi mx=>x.ts++SX.Uk lo++SX.Uk hi++SX.Uk mx
 | .slA _ _ x lo hi mx=>x.ts++SX.Uk lo++SX.Uk hi++SX.Uk mx
 | .call f args=>f.ts++args.flatMap SX.ts
 | .mkf _ a c=>a.flatMap SX.ts++c.flatMap SX.ts
section
variable {P:Program} [cW P] {tf tf':Nat->AV} {hf hf':Nat->Option aI}
variable {nm:Nat}
theorem aZ {x:SX} (h: ∀t∈x.ts,tf t=tf' t):x.ev tf=x.ev tf':=by
 cases x with
 |t n=>exact h n (by simp[SX.ts])
 |c v=>rfl
theorem kZ {x:Option SX} (h: ∀t∈SX.Uk x,tf t=tf' t):x.map (SX.ev tf)=x.map (SX.ev tf'):=by
 cases x with
 |none=>rfl
 |some x=>simp only[Option.map_some,aZ (x:=x) h]
theorem rF {l:List SX} (h: ∀t∈l.flatMap SX.ts,tf t=tf' t):l.map (SX.ev tf)=l.map (SX.ev tf'):=by
 apply mW;intro x hx;exact aZ fun t ht=>h t (jy.2 ⟨x,hx,ht⟩)
theorem VU {o:SO} (h: ∀t∈o.ts,tf t=tf' t):fE nm o tf hf=fE nm o tf' hf:=by
 cases o<;>simp only[SO.ts,iA]at h
 case mov x=>simp only[fE,aZ (x:=x) h]
 case box x=>simp only[fE,aZ (x:=x) h]
 case ld x=>simp only[fE,aZ (x:=x) h]
 case un x=>simp only[fE,aZ (x:=x) h]
 case cvi x=>simp only[fE,aZ (x:=x) h]
 case cvs x=>simp only[fE,aZ (x:=x) h]
 case b2s x=>simp only[fE,aZ (x:=x) h]
 case s2b x=>simp only[fE,aZ (x:=x) h]
 case fad x=>simp only[fE,aZ (x:=x) h]
 case fld x=>simp only[fE,aZ (x:=x) h]
 case ext x k=>simp only[fE,aZ (x:=x) h]
 case len x=>simp only[fE,aZ (x:=x) h]
 case lenS x=>simp only[fE,aZ (x:=x) h]
 case nck x=>simp only[fE,aZ (x:=x) h]
 case mki x=>simp only[fE,aZ (x:=x) h]
 case pick c a b=>simp only[fE,aZ (x:=c) fun t ht=>h t (.inl (.inl ht)),aZ (x:=a) fun t ht=>h t (.inl (.inr ht)),aZ (x:=b) fun t ht=>h t (.inr ht)]
 case alloc=>rfl
 case lenA=>rfl
 case build z ps=>
  have e:(ps.map fun p=>(p.1,p.2.1,p.2.2.ev tf))=ps.map fun p=>(p.1,p.2.1,p.2.2.ev tf'):=by
   apply mW;intro p hp;rw[aZ (x:=p.2.2) fun t ht=>h t (jy.2 ⟨p,hp,ht⟩)]
  simp only[fE,e]
 case bsl w z ps=>simp only[fE,rF h]
 case st z x y=>simp only[fE,aZ (x:=x) fun t ht=>h t (.inl ht),aZ (x:=y) fun t ht=>h t (.inr ht)]
 case bin op x y=>simp only[fE,aZ (x:=x) fun t ht=>h t (.inl ht),aZ (x:=y) fun t ht=>h t (.inr ht)]
 case beq ng x y=>simp only[fE,aZ (x:=x) fun t ht=>h t (.inl ht),aZ (x:=y) fun t ht=>h t (.inr ht)]
 case ceq ng ks x y=>simp only[fE,aZ (x:=x) fun t ht=>h t (.inl ht),aZ (x:=y) fun t ht=>h t (.inr ht)]
 case mks z b x y=>simp only[fE,aZ (x:=x) fun t ht=>h t (.inl ht),aZ (x:=y) fun t ht=>h t (.inr ht)]
 case ixs z x y=>simp only[fE,aZ (x:=x) fun t ht=>h t (.inl ht),aZ (x:=y) fun t ht=>h t (.inr ht)]
 case ixa n z x y=>simp only[fE,aZ (x:=x) fun t ht=>h t (.inl ht),aZ (x:=y) fun t ht=>h t (.inr ht)]
 case ixS x y=>simp only[fE,aZ (x:=x) fun t ht=>h t (.inl ht),aZ (x:=y) fun t ht=>h t (.inr ht)]
 case ixV ag n z x y=>simp only[fE,aZ (x:=x) fun t ht=>h t (.inl ht),aZ (x:=y) fun t ht=>h t (.inr ht)]
 case mm mx x y=>simp only[fE,aZ (x:=x) fun t ht=>h t (.inl ht),aZ (x:=y) fun t ht=>h t (.inr ht)]
 case app e z b x y=>simp only[fE,aZ (x:=x) fun t ht=>h t (.inl ht),aZ (x:=y) fun t ht=>h t (.inr ht)]
 case peq ng x y=>simp only[fE,aZ (x:=x) fun t ht=>h t (.inl ht),aZ (x:=y) fun t ht=>h t (.inr ht)]
 case ust e x y=>simp only[fE,aZ (x:=x) fun t ht=>h t (.inl ht),aZ (x:=y) fun t ht=>h t (.inr ht)]
 case cvp ok x=>simp only[fE,aZ (x:=x) h]
 case sld x=>simp only[fE,aZ (x:=x) h]
 case clr z x=>simp only[fE,aZ (x:=x) h]
 case snl ng x=>simp only[fE,aZ (x:=x) h]
 case stop=>rfl
 case mkm=>rfl
 case mget c st z x y=>simp only[fE,aZ (x:=x) fun t ht=>h t (.inl ht),aZ (x:=y) fun t ht=>h t (.inr ht)]
 case mset st c a b=>simp only[fE,aZ (x:=c) fun t ht=>h t (.inl (.inl ht)),aZ (x:=a) fun t ht=>h t (.inl (.inr ht)),aZ (x:=b) fun t ht=>h t (.inr ht)]
 case cpy z x y=>simp only[fE,aZ (x:=x) fun t ht=>h t (.inl ht),aZ (x:=y) fun t ht=>h t (.inr ht)]
 case slS x lo hi=>simp only[fE,aZ (x:=x) fun t ht=>h t (.inl (.inl ht)),kZ (x:=lo) fun t ht=>h t (.inl (.inr ht)),kZ (x:=hi) fun t ht=>h t (.inr ht)]
 case slL z x lo hi mx=>
  have em:=kZ (x:=mx) (tf:=tf) (tf':=tf') fun t ht=>h t (.inr ht)
  simp only[fE,aZ (x:=x) fun t ht=>h t (.inl (.inl (.inl ht))),kZ (x:=lo) fun t ht=>h t (.inl (.inl (.inr ht))),kZ (x:=hi) fun t ht=>h t (.inl (.inr ht))]
  cases mx with
  |none=>
   generalize x.ev tf'=xv
   cases xv with
   |v y=>cases y<;>rfl
   | _=>rfl
  |some m=>
   simp only[Option.map_some,ar]at em;generalize x.ev tf'=xv
   cases xv with
   |v y=>cases y<;>first|rfl|simp only[em]
   | _=>first|rfl|simp only[em]
 case slA n z x lo hi mx=>
  simp only[fE,aZ (x:=x) fun t ht=>h t (.inl (.inl (.inl ht))),kZ (x:=lo) fun t ht=>h t (.inl (.inl (.inr ht))),kZ (x:=hi) fun t ht=>h t (.inl (.inr ht))]
 case call f args=>rfl
 case mkf f a c=>
  have e1:=rF (l:=a) (tf:=tf) (tf':=tf') fun t ht=>h t (.inl ht)
  have e2:=rF (l:=c) (tf:=tf) (tf':=tf') fun t ht=>h t (.inr ht)
  simp only[fE,e1,e2]
theorem tP {z:Nat} {y:AV} {ys:List AV} {k:Nat} {p:Prop} {r:List Nat} (hs:rp hf z y=some (ys,k,p,r)) (h: ∀n∈r,hf' n=hf n):rp hf' z y=some (ys,k,p,r):=by
 unfold rp at hs⊢
 split at hs<;>try exact hs
 rename_i n ver o len z'
 cases hn:hf n with
 |none=>simp[hn]at hs
 |some ob=>
  rw[hn]at hs;simp only[ar,eJ]at hs;obtain⟨rfl,rfl,rfl,rfl⟩:=hs;have:hf' n=some ob:=by rw[h n (by simp),hn]
  simp[this]
theorem VS {o:SO} {ao:AO} (ha:fE nm o tf hf=some ao) (h: ∀n∈ao.rs,hf' n=hf n):fE nm o tf hf'=some ao:=by
 cases o<;>simp only[fE]at ha⊢ <;>try exact ha
 case ld ag z x=>
  unfold Zk at ha⊢
  split at ha<;>try exact ha
  rename_i n ver o hx
  cases hn:hf n with
  |none=>simp[hn]at ha
  |some ob=>
   rw[hn]at ha;simp only[ar]at ha;subst ha;have:hf' n=some ob:=by rw[h n (by simp),hn]
   simp[this]
 case clr z x=>
  split at ha<;>try exact ha
  rename_i n ver o len z' hx
  cases hn:hf n with
  |none=>simp[hn]at ha
  |some ob=>
   rw[hn]at ha;simp only[ar]at ha;subst ha;have:hf' n=some ob:=by rw[h n (by simp),hn]
   simp[this]
 case st z x y=>
  split at ha<;>try exact ha
  rename_i n ver o hx
  cases hn:hf n with
  |none=>simp[hn]at ha
  |some ob=>
   rw[hn]at ha;simp only[ar]at ha;subst ha;have:hf' n=some ob:=by rw[h n (by simp),hn]
   simp[this]
 case mget c st z x k=>
  split at ha<;>try exact ha
  rename_i n key hx hk
  cases hn:hf n with
  |none=>simp[hn]at ha
  |some ob=>
   rw[hn]at ha;simp only[ar]at ha;subst ha;have:hf' n=some ob:=by rw[h n (by simp),hn]
   simp[this]
 case mset st x k v=>
  split at ha<;>try exact ha
  rename_i n key val hx hk hv
  cases hn:hf n with
  |none=>simp[hn]at ha
  |some ob=>
   rw[hn]at ha;simp only[ar]at ha;subst ha;have:hf' n=some ob:=by rw[h n (by simp),hn]
   simp[this]
 case b2s x=>
  split at ha<;>try exact ha
  rename_i n ver o len z hx
  cases hn:hf n with
  |none=>simp[hn]at ha
  |some ob=>
   rw[hn]at ha;simp only[ar]at ha;subst ha;have:hf' n=some ob:=by rw[h n (by simp),hn]
   simp[this]
 case slA n z x lo hi mx=>
  split at ha<;>try exact ha
  rename_i m ver o hx
  cases hn:hf m with
  |none=>simp[hn]at ha
  |some ob=>
   rw[hn]at ha
   split at ha
   ·rename_i ob' l hh p e1 e2;injection e1 with e1;subst e1
    simp only[ar]at ha;subst ha;have:hf' m=some ob:=by rw[h m (by simp),hn]
    simp only[this];split
    ·rename_i e3 e4;injection e3 with e3;subst e3;rw[e2]at e4;injection e4 with e4;injection e4 with e4 e5;injection e5 with e5 e6;subst e4;subst e5;subst e6;rfl
    ·rename_i hne;exact aJ e2 (hne _ _ _ _ rfl)
   ·cases ha
 case peq ng x y=>
  unfold Mo at ha⊢
  split at ha<;>try exact ha
  rename_i n ver o n' ver' o' h1 h2
  split at ha
  ·rename_i hc;rw[af hc]
   cases hn:hf n with
   |none=>simp[hn]at ha
   |some ob=>
    rw[hn]at ha;simp only[ar]at ha;subst ha;have:hf' n=some ob:=by rw[h n (by simp),hn]
    simp[this]
  ·cases ha
 case cvp ok x=>
  unfold Mn at ha⊢
  split at ha<;>try exact ha
  rename_i n ver o h1
  cases hn:hf n with
  |none=>simp[hn]at ha
  |some ob=>
   rw[hn]at ha;simp only at ha
   split at ha
   ·rename_i T hT;simp only[ar]at ha;subst ha;have:hf' n=some ob:=by rw[h n (by simp),hn]
    simp[this,hT]
   ·cases ha
 case ust e x y=>
  unfold Mp at ha⊢
  split at ha<;>try exact ha
  rename_i n ver o len h1 h2
  cases hn:hf n with
  |none=>simp[hn]at ha
  |some ob=>
   rw[hn]at ha;simp only[ar]at ha;subst ha;have:hf' n=some ob:=by rw[h n (by simp),hn]
   simp[this]
 case app e z b x y=>
  split at ha
  ·rename_i ys k p r hs
   split at ha
   ·rename_i hx
    by_cases hk:k=0
    ·rw[af hk,ar]at ha;subst ha;simp only[tP hs h];simp[hx,hk]
    ·rw[aa hk,ar]at ha;subst ha;simp only[tP hs h];simp[hx,hk]
   ·rename_i l hx
    by_cases hk:k=0
    ·rw[af hk,ar]at ha;subst ha;simp only[tP hs h];simp[hx,hk]
    ·rw[aa hk,ar]at ha;subst ha;simp only[tP hs h];simp[hx,hk]
   ·rename_i n ver o len z' hx
    cases hn:hf n with
    |none=>simp[hn]at ha
    |some ob=>
     rw[hn]at ha;simp only[ar]at ha;subst ha;have:hf' n=some ob:=by rw[h n (by simp),hn]
     simp only[tP hs fun m hm=>h m (by simp[hm])];simp[hx,this]
   ·rename_i l hx
    by_cases hk:k=0
    ·rw[af hk,ar]at ha;subst ha;simp only[tP hs h];simp[hx,hk]
    ·rw[aa hk]at ha;cases ha
   ·cases ha
  ·cases ha
 case cpy z x y=>
  split at ha
  ·rename_i ys k p r n ver o len z' hs hx
   cases hn:hf n with
   |none=>simp[hn]at ha
   |some ob=>
    rw[hn]at ha;simp only[ar]at ha;subst ha;have:hf' n=some ob:=by rw[h n (by simp),hn]
    simp only[tP hs fun m hm=>h m (by simp[hm])];simp[hx,this]
  ·cases ha
theorem Mq {fv:AV} {as:List AV} {ao:AO} (ha:mL P nm hf fv as ao) (h: ∀n∈ao.rs,hf' n=hf n):mL P nm hf' fv as ao:=by
 cases ha with
 |pure f avs pvs r hfv hargs he=>exact .pure f avs pvs r hfv hargs he
 |view f avs pvs r hfv hargs hr he=>
  have hl: ∀x∈avs,Dom.view hf' 9 x=Dom.view hf 9 x/\aW hf' 9 x=aW hf 9 x:=fun x hx=>vi 9 x fun n hn=>h n (jy.2 ⟨x,hx,hn⟩)
  have:=mL.view (nm:=nm) f avs pvs r hfv (by rw[iV fun x hx=>(hl x hx).1];exact hargs) hr he (hf:=hf')
  rw[fm fun x hx=>(hl x hx).2]at this
  exact this
 |k9 f avs pvs r hfv hargs hlo he=>
  have hl: ∀x∈avs,Dom.view hf' 9 x=Dom.view hf 9 x/\aW hf' 9 x=aW hf 9 x:=fun x hx=>vi 9 x fun n hn=>h n (jy.2 ⟨x,hx,hn⟩)
  have e2:=fm fun x hx=>(hl x hx).2
  have:=mL.k9 (nm:=nm) f avs pvs r hfv (by rw[iV fun x hx=>(hl x hx).1];exact hargs) (by rw[e2];exact hlo) he (hf:=hf')
  rw[e2]at this;exact this
 |eff f avs hs v up hfv hhs he=>
  exact .eff f avs hs v up hfv (fun p hp=>by rw[h p.1 (cx.2 ⟨p,hp,rfl⟩)];exact hhs p hp) he
 |same f v hfv he=>exact .same f v hfv he
 |ext f avs pvs r hfv hargs he=>exact .ext f avs pvs r hfv hargs he
theorem Lc {o:SO} {ao:AO} (ht: ∀t∈o.ts,tf t=tf' t) (hr: ∀n∈ao.rs,hf' n=hf n) (h:UA P nm o tf hf ao):UA P nm o tf' hf' ao:=by
 unfold UA at h⊢
 split at h
 ·rename_i f args;simp only[SO.ts,iA]at ht;have e1:=aZ (x:=f) (tf:=tf) (tf':=tf') fun t h=>ht t (.inl h)
  have e2:=rF (l:=args) (tf:=tf) (tf':=tf') fun t h=>ht t (.inr h)
  simp only[<-e1,<-e2];exact Mq h hr
 ·rename_i hne;obtain⟨h1,h2⟩:=h;have h3:fE nm o tf' hf'=some ao/\ao.pre:=⟨VS (by rw[<-VU ht];exact h1) hr,h2⟩
  cases o<;>first|exact h3|exact aJ rfl (hne _ _)
end
