/-
  Part of the proof, part FA8. Own work.
-/
import Derived.OrdersIn
import Derived.RangeFuncOwn
import Derived.Test.YtfdjchnefpefbaaGreatDoorFA7
set_option linter.all false
namespace Go.Dom
open Go.RowKit
def ff (rd:Rd) (w w':World):Rd:=fun b o=>if b<w.heap.size then rd b o else w'.cell? ⟨b,o,none⟩
def Enters (P:Program) (f g:FuncId):Prop:= ∀(args:Array Value) (w:World),(callFunc f args).run P w= .ok (.enter g args) w
def aA (P:Program) [bY P] (f:FuncId) (args:List PV) (r:PV):Prop:=
 ∃g,Enters P f g/\ ∀(w:World) (rd:Rd) (vs:List Value),(∀b o v,TR P b o=some v->rd b o=some v)->(∀b o v,rd b o=some v->w.cell? ⟨b,o,none⟩=some v)->aZ (PR rd) args vs->
  Calls P g vs.toArray w fun e w'=> ∃v,e= .returned v/\Below w.heap.size w w'/\PR (ff rd w w') r v
structure Env (P:Program) [bY P] where
 w0:World
 rd0:Rd
 wr:Nat->Prop
 nt:Nat
 C0:Cx
 df:List Deferred
 lo: ∀n,C0.al n->n<1000
 gl: ∀b o v,TR P b o=some v->C0.rd b o=some v
 fr:Nat
 pin:List (Nat×Obj)
 ro:Option Nat
 Ce:Cx
 frl:w0.heap.size<=fr
 mkw: ∀p∈pin,¬wr p.1
 ln:List Nat
 lnf: ∀b∈ln,b<fr/\ ¬wr b
theorem Env.DB {P:Program} [bY P] (E:Env P) {b:Nat} (h:b<E.w0.heap.size\/b∈E.ln):b<E.fr:=h.elim (fun h=>bj h E.frl) fun h=>(E.lnf b h).1
structure R8 {P:Program} [bY P] (E:Env P) (w:World):Prop where
 wf:Wf E.wr E.w0 w
 fr:E.fr<=w.heap.size
 pn: ∀p∈E.pin,w.heap[p.1]?=some p.2
theorem R8.trans {P:Program} [bY P] {E:Env P} {w w':World} (h:R8 E w) (k:Wf E.wr w w'):R8 E w':=
 ⟨h.wf.trans k,ft h.fr k.size,fun p hp=>(k.blk p.1 (jj.1 (h.pn p hp)).1 (E.mkw p hp)).trans (h.pn p hp)⟩
theorem R8.size {P:Program} [bY P] {E:Env P} {w:World} (h:R8 E w):E.w0.heap.size<=w.heap.size:=h.wf.size
structure U5 {P:Program} [bY P] (E:Env P) (C:Cx):Prop where
 c0:E.C0.Le C
 ce:E.Ce.Le C
theorem U5.trans {P:Program} [bY P] {E:Env P} {C D:Cx} (h:U5 E C) (k:C.Le D):U5 E D:=⟨h.c0.trans k,h.ce.trans k⟩
theorem U5.rd {P:Program} [bY P] {E:Env P} {C:Cx} (h:U5 E C) (b o:Nat) (v:Value) (hv:E.C0.rd b o=some v):C.rd b o=some v:=h.c0.rd b o v hv
def SR {P:Program} [bY P] (E:Env P) (al:Nat->Prop) (tf:Nat->AV) (hf:Nat->Option au) (a:Act) (w:World):Prop:=
 ∃C:Cx,(∀n,C.al n↔al n)/\HR C hf E.wr w/\(∀b,b<E.w0.heap.size\/b∈E.ln->C.rd b=E.rd0 b)/\(R8 E w/\U5 E C/\ ∀n ob,hf n=some ob->(E.C0.al n/\C.mu n=E.C0.mu n)\/E.w0.heap.size<=C.mu n)/\a.defers=E.df/\a.tmps.size=E.nt/\ ∀k,AR C (tf k) (a.tmps.getD k undef)
def nL (tf:Nat->AV) (d:Option Nat) (v:AV):Nat->AV:=
 match d with
 |some d=>fun k=>if k=d then v else tf k
 |none=>tf
def EY (g:Option (Nat×Bool)) (tf:Nat->AV):Option Bool:=
 match g with
 |none=>some true
 |some (t,want)=>match tf t with
  | .v (.b x)=>some (x==want)
  | .v (.tup [])=>some false
  | _=>none
def Db (fv:AV) (avs:List AV):Option (FuncId×List AV):=
 match fv.nz with
 | .v (.fn (.func f))=>some (f,avs)
 | .fn (.func f) a c=>some (f,a++(avs++c))
 | _=>none
def mM (l:List AV):Option (List PV):=
 aQ (fun x=>match x with
  | .agg l=>if l.all AV.one then(aQ AV.Ad l).map .agg else none
  |x=>x.Ad) l
def iB (P:Program) [bY P] (f:FuncId) (nm:Nat) (hs:List (Nat×au)) (avs:List AV) (v:AV) (up:List (Nat×Option au)):Prop:=
 ∃g,Enters P f g/\ ∀(C:Cx) (hf:Nat->Option au) (wr:Nat->Prop) (w:World) (base:Nat) (vs:List Value),(∀b o v,TR P b o=some v->C.rd b o=some v)->HR C hf wr w->(∀b,base<=b->wr b)->base<=w.heap.size->(∀p∈hs,hf p.1=some p.2)-> ¬C.al nm->aZ (AR C) avs vs->
  Calls P g vs.toArray w fun e w'=> ∃val C',e= .returned val/\AR C' v val/\HR C' (fm hf up) wr w'/\C.Le C'/\(∀n,C'.al n↔C.al n\/n=nm)/\Wf wr w w'/\(∀b,b<base->C'.rd b=C.rd b)/\Ay base C C' hf (fm hf up)
def XT (P:Program) (f:FuncId):Prop:= ∀(v:Value) (w:World),(callFunc f #[v]).run P w= .ok (.value v) w
def XU (P:Program) (f:FuncId) (args:List PV) (r:PV):Prop:= ∀(rd:Rd) (vs:List Value) (w:World),aZ (PR rd) args vs-> ∃v,(callFunc f vs.toArray).run P w= .ok (.value v) w/\PR rd r v
inductive kD (P:Program) [bY P] (nm:Nat) (hf:Nat->Option au) (fv:AV) (as:List AV):AO->Prop where
 |pure (f:FuncId) (avs:List AV) (pvs:List PV) (r:PV) (hfv:Db fv as=some (f,avs)) (hargs:mM avs=some pvs) (he:aA P f pvs r):kD P nm hf fv as ⟨.v r,True,[],[]⟩
 |view (f:FuncId) (avs:List AV) (pvs:List PV) (r:PV) (hfv:Db fv as=some (f,avs)) (hargs:aQ (view hf 9) avs=some pvs) (hr:r.flat=true) (he:aA P f pvs r):kD P nm hf fv as ⟨.v r,True,avs.flatMap (aL hf 9),[]⟩
 |jA (f:FuncId) (avs:List AV) (pvs:List PV) (r:PV) (hfv:Db fv as=some (f,avs)) (hargs:aQ (view hf 9) avs=some pvs) (hlo: ∀n∈avs.flatMap (aL hf 9),1000<=n) (he:aA P f pvs r):kD P nm hf fv as ⟨.v r,True,avs.flatMap (aL hf 9),(avs.flatMap (aL hf 9)).map fun n=>(n,none)⟩
 |eff (f:FuncId) (avs:List AV) (hs:List (Nat×au)) (v:AV) (up:List (Nat×Option au)) (hfv:Db fv as=some (f,avs)) (hhs: ∀p∈hs,hf p.1=some p.2) (he:iB P f nm hs avs v up):kD P nm hf fv as ⟨v,True,hs.map (·.1),up⟩
 |same (f:FuncId) (v:AV) (hfv:Db fv as=some (f,[v])) (he:XT P f):kD P nm hf fv as ⟨v,True,[],[]⟩
 |ext (f:FuncId) (avs:List AV) (pvs:List PV) (r:PV) (hfv:Db fv as=some (f,avs)) (hargs:mM avs=some pvs) (he:XU P f pvs r):kD P nm hf fv as ⟨.v r,True,[],[]⟩
def Q1 (P:Program) [bY P] (nm:Nat) (o:SO) (tf:Nat->AV) (hf:Nat->Option au) (ao:AO):Prop:=
 match o with
 | .call f args=>kD P nm hf (f.ev tf) (args.map (SX.ev tf)) ao
 |o=>ep nm o tf hf=some ao/\ao.pre
def kY (P:Program) [bY P] (nx k:Nat) (so:jd) (tf:Nat->AV) (hf:Nat->Option au) (tf':Nat->AV) (hf':Nat->Option au) (rs ws:List Nat):Prop:=
 (EY so.g tf=some false/\tf'=nL tf so.d (.v (.tup []))/\hf'=hf/\rs=[]/\ws=[])\/
 (EY so.g tf=some true/\ ∃ao,Q1 P (nx+k) so.o tf hf ao/\tf'=nL tf so.d ao.v/\hf'=fm hf ao.up/\rs=ao.rs/\ws=ao.up.map (·.1))
section
variable {P:Program} [bY P] {E:Env P} {al:Nat->Prop} {tf:Nat->AV} {hf:Nat->Option au} {a:Act} {w:World}
theorem qB {C:Cx} {d:Option Nat} {v:AV} {val:Value} (hd: ∀k,d=some k->k<a.tmps.size) (h: ∀k,AR C (tf k) (a.tmps.getD k undef)) (hv:AR C v val): ∀k,AR C (nL tf d v k) ((a.put d val).tmps.getD k undef):=by
 intro k
 cases d with
 |none=>exact h k
 |some d=>
  have hlt:=hd d rfl;simp only[nL,Act.put]
  by_cases e:k=d
  ·subst e;rw[if_pos rfl];simpa[hO,hlt]using hv
  ·rw[if_neg e];have:=h k;simpa[hO,wB (kP e)]using this
theorem ly (a:Act) (d:Option Nat) (v:Value):(a.put d v).tmps.size=a.tmps.size:=by cases d<;>simp[Act.put]
theorem put_defers (a:Act) (d:Option Nat) (v:Value):(a.put d v).defers=a.defers:=by cases d<;>rfl
theorem lA {C D:Cx} (hle:C.Le D) (h: ∀k,AR C (tf k) (a.tmps.getD k undef)): ∀k,AR D (tf k) (a.tmps.getD k undef):=fun k=>(h k).mono hle
theorem Rj {C:Cx} {ops:Array Oper} {o:Oper} {g:Option (Nat×Bool)} (hg:o.guard.map (fun p=>(((ops[p.1]?).bind (·.dst)),p.2))=g.map fun p=>(some p.1,p.2)) (hlt: ∀p,g=some p->p.1<a.tmps.size) (h: ∀k,AR C (tf k) (a.tmps.getD k undef)) {b:Bool} (hb:EY g tf=some b):
  Region.wanted o (yielded ops a.tmps)=b:=by
 cases g with
 |none=>
  simp only[Option.map_none,Option.map_eq_none_iff]at hg;simp only[EY,ae]at hb;simp[Region.wanted,hg,hb]
 |some p=>
  obtain⟨t,want⟩:=p;simp only[Option.map_some,dF,cO]at hg;obtain⟨⟨j,want'⟩,hgo,hd,rfl⟩:=hg;have ht:=h t;have hlt':=hlt _ rfl;simp only[EY]at hb;simp only at hd hlt';have aj:a.tmps[t]?=some (a.tmps.getD t undef):=by simp[hO,hlt']
  split at hb
  ·rename_i x hx;rw[hx]at ht;simp only[ae]at hb;simp only[Region.wanted,hgo,yielded,hd,Option.bind_some,aj,xA ht];rw[<-hb]
   cases x<;>cases want'<;>rfl
  ·rename_i hx;rw[hx]at ht;simp only[ae]at hb;have hu:a.tmps.getD t undef= .tuple #[]:=by
    generalize a.tmps.getD t undef=u at ht
    cases ht with
    |v ht=>cases ht with
     |tup l vs hl _=>
      have:vs=[]:=jO (by simpa using hl.symm)
      subst this;rfl
   simp only[Region.wanted,hgo,yielded,hd,Option.bind_some,aj,hu];rw[<-hb];rfl
  ·cases hb
theorem Mw {C:Cx} {l:List AV} {ys:List PV} {vs:List Value} (h:aZ (AR C) l vs) (hl:mM l=some ys):aZ (PR C.rd) ys vs:=by
 unfold mM at hl;obtain⟨m1,m2⟩:=ca hl;refine⟨by rw[<-m1];exact h.1,fun k y v hy hv=> ?_⟩
 have hk:k<l.length:=by have:=(bV.1 hy).1;omega
 have hx:l[k]?=some l[k]:=by simp[hk]
 have hxy:=m2 k _ y hx hy;have hxv:=h.2 k _ v hx hv;generalize l[k]=x at hxy hxv
 by_cases hag: ∃m,x= .agg m
 ·obtain⟨m,rfl⟩:=hag;simp only at hxy
  split at hxy
  ·rename_i hall;simp only[dF]at hxy;obtain⟨zs,hzs,rfl⟩:=hxy
   cases hxv with
   |agg _ us hl' h'=>
    obtain⟨p1,p2⟩:=Mx ⟨hl',h'⟩ hzs hall;exact .agg zs us p2 p1.1 p1.2
  ·cases hxy
 ·have hxy':x.Ad=some y:=by
   cases x<;>first|exact hxy|exact absurd ⟨_,rfl⟩ hag
  exact Fs hxv hxy'
def Cx.after (C:Cx) (w w':World) (nm:Nat):Cx:={C with rd:=ff C.rd w w',al:=fun n=>C.al n\/n=nm}
theorem Cx.xG {C:Cx} {wr:Nat->Prop} (h:HR C hf wr w) (w':World) (nm:Nat):C.Le (C.after w w' nm):=by
 refine⟨fun b o v hv=> ?_,fun _ h=> .inl h,fun _ _ d h=>⟨d,h,an _,fun _=>⟨rfl,rfl⟩⟩,fun _ _=>⟨rfl,fun _=>rfl⟩⟩
 have:=im (h.rdw _ _ _ hv);simp[Cx.after,ff,this,hv]
theorem HR.after {C:Cx} {wr:Nat->Prop} (h:HR C hf wr w) {w':World} (hb:Below w.heap.size w w') (nm:Nat):HR (C.after w w' nm) hf wr w':=by
 have hle:=Cx.xG h w' nm;refine⟨?_,?_,h.dead,?_,h.inj,h.wr,?_,?_,?_⟩
 ·intro b o v hv;simp only[Cx.after,ff]at hv
  split at hv
  ·rename_i hlt;rw[jM (hb.block b hlt)];exact h.rdw _ _ _ hv
  ·exact hv
 ·exact fun n ob hn=>⟨.inl (h.live n ob hn).1,(h.live n ob hn).2⟩
 ·intro n ob hn k;have:=h.fg hn;simp only[Cx.after,ff,this,if_true];exact h.sep n ob hn k
 ·intro n ob hn hk;obtain⟨cs,el,h1,h2,h3,h4,h5⟩:=h.obj n ob hn hk;exact⟨cs,el,(hb.block _ (h.fg hn)).trans h1,h2,h3,h4,fun k x v hx hv=>(h5 k x v hx hv).mono hle⟩
 ·intro n ob hn hk t ht;obtain⟨cs,h1⟩:=h.typ n ob hn hk t ht;exact⟨cs,(hb.block _ (h.fg hn)).trans h1⟩
 ·intro n ob hn hk;obtain⟨es,clk,h1,h2⟩:=h.mp n ob hn hk;exact⟨es,clk,(hb.block _ (h.fg hn)).trans h1,h2.mono hle.rd⟩
theorem Wf.below {wr:Nat->Prop} {w w':World} (hb:Below w.heap.size w w'):Wf wr w w':=⟨hb.os,hb.tape,hb.output,hb.size,fun b hlt _=>hb.block b hlt⟩
def cl (C:Cx) (hf:Nat->Option au) (w:World) [∀b,Decidable (∃n ob,hf n=some ob/\C.mu n=b)]:Rd:=fun b o=>if(∃n ob,hf n=some ob/\C.mu n=b)then w.cell? ⟨b,o,none⟩else C.rd b o
theorem Ic (z n:Nat) (l:List PV):(chunk z n l).length=n:=by
 induction n generalizing l with
 |zero=>rfl
 |succ n ih=>simp[chunk,ih]
theorem KE (z:Nat): ∀(n:Nat) (l:List PV),l.length=n*z->(∀c∈l,c.one=true)->(chunk z n l).flatMap PV.cells=l/\ ∀x∈chunk z n l,x.cells.length=z:=by
 intro n
 induction n with
 |zero=>intro l hl _;simp at hl;subst hl;simp[chunk]
 |succ n ih=>
  intro l hl h1;have hl':l.length=n*z+z:=by rw[hl,jU]
  obtain⟨i1,i2⟩:=ih (l.drop z) (by simp;omega) fun c hc=>h1 c (nU hc)
  have hhead: ∀x,x=(if z=1 then(l.headD .fn0)else .agg (l.take z))->x.cells=l.take z/\x.cells.length=z:=by
   intro x hx
   by_cases hz:z=1
   ·rw[if_pos hz]at hx;subst hz
    cases l with
    |nil=>simp at hl'
    |cons c l=>
     have hx:x=c:=hx;rw[hx];have hc:c.one=true:=h1 c (by simp)
     have:c.cells=[c]:=by cases c<;>first|rfl|(simp[PV.one]at hc)
     simp[this]
   ·rw[if_neg hz]at hx;subst hx;refine⟨rfl,?_⟩;show(l.take z).length=z;simp;omega
  obtain⟨e1,e2⟩:=hhead _ rfl;simp only[chunk,dQ];rw[i1,e1];refine⟨sQ _ _,fun x hx=> ?_⟩
  rcases bL.1 hx with rfl|hx
  ·exact e2
  ·exact i2 x hx
theorem NA {fu:Nat} {x:AV} {y:PV} (hx:view hf fu x=some y) (h1:x.one=true):y.one=true:=by
 cases fu with
 |zero=>simp[view]at hx
 |succ fu=>
  cases x<;>simp only[view,AV.one,aX,ae,reduceCtorEq]at hx h1
  case v=>subst hx;exact h1
  case fs=>subst hx;rfl
  case sn=>subst hx;rfl
  case pp=>subst hx;rfl
  case p n ver o=>
   split at hx
   ·split at hx
    ·simp only[dF]at hx;obtain⟨cs,-,rfl⟩:=hx;rfl
    ·cases hx
   ·cases hx
  case rs n ver o len z=>
   split at hx
   ·split at hx
    ·simp only[dF]at hx;obtain⟨cs,-,rfl⟩:=hx;rfl
    ·cases hx
   ·cases hx
  case fn f b c=>exact xQ hx
theorem pz {C:Cx} {wr:Nat->Prop} (h:HR C hf wr w) [∀b,Decidable (∃n ob,hf n=some ob/\C.mu n=b)]: ∀(fu:Nat) (x:AV) (y:PV) (v:Value),AR C x v->view hf fu x=some y->PR (cl C hf w) y v:=by
 have hle: ∀b o v,C.rd b o=some v->cl C hf w b o=some v:=by
  intro b o v hv;unfold cl;split
  ·exact h.rdw _ _ _ hv
  ·exact hv
 intro fu
 induction fu with
 |zero=>intro x y v _ hx;simp[view]at hx
 |succ fu ih=>
  have ihL: ∀(l:List AV) (ys:List PV) (vs:List Value),aZ (AR C) l vs->aQ (view hf fu) l=some ys->aZ (PR (cl C hf w)) ys vs:=by
   intro l ys vs hr hl;obtain⟨m1,m2⟩:=ca hl;refine⟨by rw[<-m1];exact hr.1,fun k y v hy hv=> ?_⟩
   have hk:k<l.length:=by have:=(bV.1 hy).1;omega
   exact ih l[k] y v (hr.2 k _ v (by simp[hk]) hv) (m2 k _ y (by simp[hk]) hy)
  have ihOne: ∀(l:List AV) (ys:List PV),aQ (view hf fu) l=some ys->l.all AV.one=true-> ∀y∈ys,y.one=true:=by
   intro l ys hl h1 y hy;obtain⟨m1,m2⟩:=ca hl;obtain⟨k,hk,rfl⟩:=gN hy;have hk':k<l.length:=by omega
   rw[bz]at h1;exact NA (m2 k l[k] ys[k] (by simp[hk']) (by simp[hk])) (h1 _ (iR hk'))
  intro x y v hxv hx
  cases hxv with
  |v hp=>simp only[view,ae]at hx;subst hx;exact hp.mono hle
  |fs l q hp=>simp only[view,ae]at hx;subst hx;exact hp.mono hle
  |sn=>simp only[view,ae]at hx;subst hx;exact .sl0
  |mp n b ha hk h=>simp[view]at hx
  |p n ver o b hal hm hcur=>
   simp only[view]at hx
   split at hx
   ·rename_i ob hn
    split at hx
    ·rename_i hcond;obtain⟨hver,hall⟩:=hcond;simp only[dF]at hx;obtain⟨cs,hcs,rfl⟩:=hx;obtain⟨-,hc2⟩:=hcur _ (h.live n ob hn).2;obtain rfl:=hc2 hver.symm;obtain⟨ws,el,g1,g2,g3,g4,g5⟩:=h.obj n ob hn hm;have hr:aZ (AR C) ob.cells (ws.toList.take ob.cells.length):=by
      refine⟨by simp;omega,fun k x v hx hv=>g5 k x v hx ?_⟩
      rw[eA]at hv
      split at hv
      ·simpa using hv
      ·cases hv
     have hrp:=ihL _ cs _ hr hcs;have hone:=ihOne _ cs hcs hall;have:=PR.pt (rd:=cl C hf w) (.agg cs) o (ws.toList.take ob.cells.length) (C.mu n) 0 hone hrp.1 (by
      intro k v hv;have hex: ∃m oc,hf m=some oc/\C.mu m=C.mu n:=⟨n,ob,hn,rfl⟩;simp only[cl,hex,if_true];rw[cell_of_heap g1,dI];rw[eA]at hv
      split at hv
      ·simpa using hv
      ·cases hv) hrp.2
     rw[dI]at this;exact this
    ·cases hx
   ·cases hx
  |pp x o vs bk of h1 hl hr hp=>simp only[view,ae]at hx;subst hx;exact .pt x o vs bk of h1 hl (fun k v hv=>hle _ _ _ (hr k v hv)) fun k y v hy hv=>(hp k y v hy hv).mono hle
  |ub=>simp[view]at hx
  |u=>simp[view]at hx
  |agg l vs hl hr=>
   simp only[view]at hx
   split at hx
   ·rename_i hall;simp only[dF]at hx;obtain⟨ys,hys,rfl⟩:=hx;have:=ihL l ys vs ⟨hl,hr⟩ hys;exact .agg ys vs (ihOne l ys hys hall) this.1 this.2
   ·cases hx
  |tup l vs hl hr=>
   simp only[view,dF]at hx;obtain⟨ys,hys,rfl⟩:=hx;have:=ihL l ys vs ⟨hl,hr⟩ hys;exact .tup ys vs this.1 this.2
  |fn f b c va vc hla hlc ha hc=>
   simp only[view]at hx;exact G9 hx (fun a' h'=>ihL _ _ _ ⟨hla,ha⟩ h') (fun c' h'=>ihL _ _ _ ⟨hlc,hc⟩ h')
  |rs n ver o len z b o' cap hal hm hcap ho hcur=>
   simp only[view]at hx
   split at hx
   ·rename_i ob hn
    split at hx
    ·rename_i hcond;obtain⟨hver,hlen,hall⟩:=hcond;simp only[dF]at hx;obtain⟨cs,hcs,rfl⟩:=hx;obtain⟨-,hc2⟩:=hcur _ (h.live n ob hn).2;obtain⟨rfl,-⟩:=hc2 hver.symm;obtain⟨ws,el,g1,g2,g3,g4,g5⟩:=h.obj n ob hn hm;have hr:aZ (AR C) ob.cells (ws.toList.take ob.cells.length):=by
      refine⟨by simp;omega,fun k x v hx hv=>g5 k x v hx ?_⟩
      rw[eA]at hv
      split at hv
      ·simpa using hv
      ·cases hv
     have hr2:=(hr.drop o).take (len*z);have hrp:=ihL _ cs _ hr2 hcs;have hone:=ihOne _ cs hcs hall;have hcl:cs.length=len*z:=by
      rw[hrp.1];simp;omega
     obtain⟨k1,k2⟩:=KE z len cs hcl hone;have hchl:=Ic z len cs
     by_cases hl0:len=0
     ·subst hl0;have e:chunk z 0 cs=[]:=rfl;rw[e];exact .sl [] 0 [] (C.mu n) o' cap (by simp) (by simp) (by simp) (by simp) (by simp) (by simp)
     ·have ho':o'=o:=by rcases ho with ho|ho<;>omega
      subst ho';have:=PR.sl (rd:=cl C hf w) (chunk z len cs) z (((ws.toList.take ob.cells.length).drop o').take (len*z)) (C.mu n) o' cap (by rw[hchl];exact hcap) k2 (by rw[k1];exact hone) (by rw[k1];exact hrp.1)
       (by
        intro k v hv;have hex: ∃m oc,hf m=some oc/\C.mu m=C.mu n:=⟨n,ob,hn,rfl⟩;simp only[cl,hex,if_true];rw[cell_of_heap g1];rw[eA]at hv
        split at hv
        ·rw[j9,eA]at hv
         split at hv
         ·simpa using hv
         ·cases hv
        ·cases hv)
       (by rw[k1];exact hrp.2)
      rw[hchl]at this;exact this
    ·cases hx
   ·cases hx
theorem PR.Da {rd rd':Rd} {x:PV} {v:Value} (h:PR rd x v):x.flat=true->PR rd' x v:=by
 have hall: ∀(l:List PV),PV.flat.flatL l=true-> ∀(k:Nat) (y:PV),l[k]?=some y->y.flat=true:=by
  intro l
  induction l with
  |nil=>intro _ k y hy;simp at hy
  |cons x l ih=>
   intro hl k y hy;simp only[PV.flat.flatL,aY]at hl
   cases k with
   |zero=>simp at hy;subst hy;exact hl.1
   |succ k=>exact ih hl.2 k y (by simpa using hy)
 induction h with
 |b x=>intro _;exact .b x
 |i k n=>intro _;exact .i k n
 |s x=>intro _;exact .s x
 |agg l vs h1 hl _ ih=>intro hf;exact .agg l vs h1 hl fun k x v hx hv=>ih k x v hx hv (hall l hf k x hx)
 |tup l vs hl _ ih=>intro hf;exact .tup l vs hl fun k x v hx hv=>ih k x v hx hv (hall l hf k x hx)
 |sl0=>intro hf;simp[PV.flat]at hf
 |sl=>intro hf;simp[PV.flat]at hf
 |sle=>intro hf;simp[PV.flat]at hf
 |fn f=>intro _;exact .fn f
 |fn0=>intro _;exact .fn0
 |p0=>intro _;exact .p0
 |if0=>intro _;exact .if0
 |ifc t x v _ ih=>intro hf;exact .ifc t x v (ih hf)
 |pt=>intro hf;simp[PV.flat]at hf
 |fc=>intro hf;simp[PV.flat]at hf
end
theorem gn {α β:Type} {g g':α->Option β} {l:List α} (h: ∀x∈l,g x=g' x):aQ g l=aQ g' l:=by
 induction l with
 |nil=>rfl
 |cons x l ih=>simp only[aQ,h x (by simp),ih fun y hy=>h y (by simp[hy])]
theorem dW {α β:Type} {g g':α->List β} {l:List α} (h: ∀x∈l,g x=g' x):l.flatMap g=l.flatMap g':=by
 induction l with
 |nil=>rfl
 |cons x l ih=>simp only[dQ,h x (by simp),ih fun y hy=>h y (by simp[hy])]
theorem r8 {hf hf':Nat->Option au}: ∀(f:Nat) (x:AV),(∀n∈aL hf f x,hf' n=hf n)->view hf' f x=view hf f x/\aL hf' f x=aL hf f x:=by
 intro f
 induction f with
 |zero=>intro x _;cases x<;>exact⟨rfl,rfl⟩
 |succ f ih=>
  intro x h;cases x
  case agg l=>
   simp only[aL]at h;have hl: ∀x∈l,view hf' f x=view hf f x/\aL hf' f x=aL hf f x:=fun x hx=>ih x fun n hn=>h n (jq.2 ⟨x,hx,hn⟩)
   simp only[view,aL];rw[gn fun x hx=>(hl x hx).1,dW fun x hx=>(hl x hx).2]
   exact⟨rfl,rfl⟩
  case tup l=>
   simp only[aL]at h;have hl: ∀x∈l,view hf' f x=view hf f x/\aL hf' f x=aL hf f x:=fun x hx=>ih x fun n hn=>h n (jq.2 ⟨x,hx,hn⟩)
   simp only[view,aL];rw[gn fun x hx=>(hl x hx).1,dW fun x hx=>(hl x hx).2]
   exact⟨rfl,rfl⟩
  case rs n ver o len z=>
   simp only[aL]at h;have h0:hf' n=hf n:=h n (by simp)
   simp only[view,aL,h0]
   cases hn:hf n with
   |none=>exact⟨rfl,rfl⟩
   |some ob=>
    simp only[hn]at h;have hl: ∀x∈(ob.cells.drop o).take (len*z),view hf' f x=view hf f x/\aL hf' f x=aL hf f x:=fun x hx=>ih x fun n hn=>h n (jm _ (jq.2 ⟨x,hx,hn⟩))
    simp only;rw[gn fun x hx=>(hl x hx).1,dW fun x hx=>(hl x hx).2]
    exact⟨rfl,rfl⟩
  case fn g b c=>
   simp only[aL]at h;have hb: ∀x∈b,view hf' f x=view hf f x/\aL hf' f x=aL hf f x:=fun x hx=>ih x fun n hn=>h n (fJ.2 (.inl (jq.2 ⟨x,hx,hn⟩)))
   have hc: ∀x∈c,view hf' f x=view hf f x/\aL hf' f x=aL hf f x:=fun x hx=>ih x fun n hn=>h n (fJ.2 (.inr (jq.2 ⟨x,hx,hn⟩)))
   simp only[view,aL];rw[gn fun x hx=>(hb x hx).1,gn fun x hx=>(hc x hx).1,dW fun x hx=>(hb x hx).2,dW fun x hx=>(hc x hx).2]
   exact⟨rfl,rfl⟩
  case p n ver o=>
   simp only[aL]at h;have h0:hf' n=hf n:=h n (by simp)
   simp only[view,aL,h0]
   cases hn:hf n with
   |none=>exact⟨rfl,rfl⟩
   |some ob=>
    simp only[hn]at h;have hl: ∀x∈ob.cells,view hf' f x=view hf f x/\aL hf' f x=aL hf f x:=fun x hx=>ih x fun n hn=>h n (jm _ (jq.2 ⟨x,hx,hn⟩))
    simp only;rw[gn fun x hx=>(hl x hx).1,dW fun x hx=>(hl x hx).2]
    exact⟨rfl,rfl⟩
  all_goals exact⟨rfl,rfl⟩
def Cx.only (C:Cx) (ns:List Nat):Cx:={C with cur:=fun n=>if n∈ns then C.cur n else none}
def eS (hf:Nat->Option au) (ns:List Nat):Nat->Option au:=fun n=>if n∈ns then hf n else none
theorem Cx.vf (C:Cx) (ns:List Nat):C.Le (C.only ns):=by
 refine⟨fun _ _ _ h=>h,fun _ h=>h,fun n _ d h=> ?_,fun _ _=>⟨rfl,fun _=>rfl⟩⟩
 simp only[Cx.only]at h
 split at h
 ·exact⟨d,h,an _,fun _=>⟨rfl,rfl⟩⟩
 ·cases h
theorem HR.only {C:Cx} {hf:Nat->Option au} {wr:Nat->Prop} {w:World} (h:HR C hf wr w) (ns:List Nat):HR (C.only ns) (eS hf ns) wr w:=by
 have key: ∀n ob,eS hf ns n=some ob->n∈ns/\hf n=some ob:=by
  intro n ob hn;simp only[eS]at hn
  split at hn
  ·rename_i hm;exact⟨hm,hn⟩
  ·cases hn
 refine⟨h.rdw,?_,?_,?_,?_,?_,?_,?_,fun n ob hn=>h.mp n ob (key n ob hn).2⟩
 ·intro n ob hn;obtain⟨hm,hn⟩:=key n ob hn;obtain⟨h1,h2⟩:=h.live n ob hn;exact⟨h1,by simp only[Cx.only,hm,if_true];exact h2⟩
 ·intro n hn;simp only[Cx.only];split
  ·rename_i hm;simp only[eS,hm,if_true]at hn;exact h.dead n hn
  ·rfl
 ·intro n ob hn k;exact h.sep n ob (key n ob hn).2 k
 ·intro n m ob oc hn hm he;exact h.inj n m ob oc (key n ob hn).2 (key m oc hm).2 he
 ·intro n ob hn;exact h.wr n ob (key n ob hn).2
 ·intro n ob hn hk;obtain⟨cs,el,h1,h2,h3,h4,h5⟩:=h.obj n ob (key n ob hn).2 hk;exact⟨cs,el,h1,h2,h3,h4,fun k x v hx hv=>(h5 k x v hx hv).mono (C.vf ns)⟩
 ·intro n ob hn hk t ht;exact h.typ n ob (key n ob hn).2 hk t ht
theorem jb (ns:List Nat): ∀(hf:Nat->Option au) (n:Nat),fm hf (ns.map fun n=>(n,none)) n=if n∈ns then none else hf n:=by
 induction ns with
 |nil=>intro hf n;simp
 |cons m ns ih=>
  intro hf n;simp only[aS,fm,ih,bL]
  by_cases h1:n∈ns
  ·simp[h1]
  ·by_cases h2:n=m<;>simp[h1,h2]
def Cx.nG (C:Cx) (rd:Rd) (w w':World) (ns:List Nat) (nm:Nat):Cx:={C with rd:=ff rd w w',al:=fun n=>C.al n\/n=nm,cur:=fun n=>if n∈ns then none else C.cur n}
theorem HR.nG {C:Cx} {hf:Nat->Option au} {wr:Nat->Prop} {w w':World} (h:HR C hf wr w) (hb:Below w.heap.size w w') (ns:List Nat) (nm:Nat) [∀b,Decidable (∃n ob,eS hf ns n=some ob/\(C.only ns).mu n=b)]:
  C.Le (C.nG (cl (C.only ns) (eS hf ns) w) w w' ns nm)/\HR (C.nG (cl (C.only ns) (eS hf ns) w) w w' ns nm) (fm hf (ns.map fun n=>(n,none))) wr w':=by
 have key: ∀n ob,fm hf (ns.map fun n=>(n,none)) n=some ob->n∉ns/\hf n=some ob:=by
  intro n ob hn;rw[jb]at hn
  split at hn
  ·cases hn
  ·rename_i hm;exact⟨hm,hn⟩
 have hle:C.Le (C.nG (cl (C.only ns) (eS hf ns) w) w w' ns nm):=by
  refine⟨fun b o v hv=> ?_,fun _ h=> .inl h,fun n _ d hd=> ?_,fun _ _=>⟨rfl,fun _=>rfl⟩⟩
  ·have hlt:=im (h.rdw _ _ _ hv);simp only[Cx.nG,ff,hlt,if_true,cl];split
   ·exact h.rdw _ _ _ hv
   ·exact hv
  ·simp only[Cx.nG]at hd
   split at hd
   ·cases hd
   ·exact⟨d,hd,an _,fun _=>⟨rfl,rfl⟩⟩
 refine⟨hle,?_,?_,?_,?_,?_,?_,?_,?_,?_⟩
 ·intro b o v hv;simp only[Cx.nG,ff]at hv
  split at hv
  ·rename_i hlt;rw[jM (hb.block b hlt)];simp only[cl]at hv
   split at hv
   ·exact hv
   ·exact h.rdw _ _ _ hv
  ·exact hv
 ·intro n ob hn;obtain⟨hm,hn⟩:=key n ob hn;obtain⟨h1,h2⟩:=h.live n ob hn;exact⟨.inl h1,by simp only[Cx.nG,hm,if_false];exact h2⟩
 ·intro n hn;simp only[Cx.nG];split
  ·rfl
  ·rename_i hm;rw[jb,if_neg hm]at hn;exact h.dead n hn
 ·intro n ob hn k;obtain⟨hm,hn⟩:=key n ob hn;have hlt:=h.fg hn;show ff (cl (C.only ns) (eS hf ns) w) w w' (C.mu n) k=none;simp only[ff,hlt,if_true,cl];split
  ·rename_i hex;obtain⟨m,oc,hmm,hmu⟩:=hex
   exfalso
   simp only[eS]at hmm
   split at hmm
   ·rename_i hmem;have:m=n:=h.inj m n oc ob hmm hn hmu;subst this;exact hm hmem
   ·cases hmm
  ·exact h.sep n ob hn k
 ·intro n m ob oc hn hm he;exact h.inj n m ob oc (key n ob hn).2 (key m oc hm).2 he
 ·intro n ob hn;exact h.wr n ob (key n ob hn).2
 ·intro n ob hn hk;have hn:=(key n ob hn).2;obtain⟨cs,el,h1,h2,h3,h4,h5⟩:=h.obj n ob hn hk;exact⟨cs,el,(hb.block _ (h.fg hn)).trans h1,h2,h3,h4,fun k x v hx hv=>(h5 k x v hx hv).mono hle⟩
 ·intro n ob hn hk t ht;have hn:=(key n ob hn).2;obtain⟨cs,h1⟩:=h.typ n ob hn hk t ht;exact⟨cs,(hb.block _ (h.fg hn)).trans h1⟩
 ·intro n ob hn hk;have hn:=(key n ob hn).2;obtain⟨es,clk,h1,h2⟩:=h.mp n ob hn hk;exact⟨es,clk,(hb.block _ (h.fg hn)).trans h1,h2.mono hle.rd⟩
end Go.Dom
