/- Part of the proof. -/
import Derived.Laws.Rows
import Derived.Test.YtipbhapfacgabaaGreatDoorUH1
import Derived.Laws.CopyRow
import Derived.Laws.AppendOwn
import Derived.Laws.Slices
import Derived.Laws.Strings
import Derived.Laws.BytesArg
import Derived.Laws.BytesString
set_option linter.all false
namespace Go.Dom
open Go.RowKit
variable {b o:Nat}
structure Wf (wr:Nat->Prop) (w w':World):Prop where
 os:w'.os=w.os
 tape:w'.tape=w.tape
 output:w'.output=w.output
 size:w.heap.size<=w'.heap.size
 blk: ∀b,b<w.heap.size-> ¬wr b->w'.heap[b]?=w.heap[b]?
theorem Wf.refl (wr:Nat->Prop) (w:World):Wf wr w w:=⟨rfl,rfl,rfl,aB _,fun _ _ _=>rfl⟩
theorem Wf.trans {wr:Nat->Prop} {a b c:World} (h:Wf wr a b) (k:Wf wr b c):Wf wr a c:=
 ⟨k.os.trans h.os,k.tape.trans h.tape,k.output.trans h.output,fV h.size k.size,fun i hi hn=>(k.blk i (ba hi h.size) hn).trans (h.blk i hi hn)⟩
theorem Wf.drew (wr:Nat->Prop) (w:World):Wf wr w w.drew:=⟨rfl,rfl,rfl,aB _,fun _ _ _=>rfl⟩
theorem Wf.alloc (wr:Nat->Prop) (w:World) (o:Obj):Wf wr w (w.alloc o):=⟨rfl,rfl,rfl,by simp,fun b hb _=>heap_alloc_old w o b hb⟩
def fY (hf:Nat->Option aC):List (Nat×Option aC)->Nat->Option aC
 |[]=>hf
 |(n,x)::r=>fY (fun k=>if k=n then x else hf k) r
@[simp] theorem YN (hf:Nat->Option aC):fY hf []=hf:=rfl
theorem ia (hf:Nat->Option aC) (n:Nat) (x:Option aC):fY hf [(n,x)]=fun k=>if k=n then x else hf k:=rfl
theorem JI {w:World} {v:Value} (h:w.cell? ⟨b,o,none⟩=some v): ∃cs el fr,w.heap[b]?=some (.cells cs el fr)/\cs[o]?=some v:=by
 unfold World.cell? at h;simp only at h
 split at h
 ·rename_i c e f hh;exact⟨c,e,f,hh,by simpa using h⟩
 ·cases h
theorem cell_of_heap {w:World} {cs:Array Value} {el:TypeId} {fr:Nat×Nat} (h:w.heap[b]?=some (.cells cs el fr)):w.cell? ⟨b,o,none⟩=cs[o]?:=by
 simp[World.cell?,h]
theorem jh {w:World} {v:Value} (h:w.cell? ⟨b,o,none⟩=some v):b<w.heap.size:=by
 obtain⟨cs,el,fr,hh,-⟩:=JI h;exact(mI.1 hh).1
section
variable {C:Cx} {hf:Nat->Option aC} {wr:Nat->Prop} {w:World}
variable {nm ver:Nat}
theorem HR.fX (h:HR C hf wr w) {n:Nat} {ob:aC} (hn:hf n=some ob):C.mu n<w.heap.size:=by
 cases hk:C.mpn n with
 |false=>
  obtain⟨cs,el,hh,-⟩:=h.obj n ob hn hk;exact(mI.1 hh).1
 |true=>
  obtain⟨es,clk,hh,-⟩:=h.mp n ob hn hk;exact(mI.1 hh).1
theorem HR.IW (h:HR C hf wr w) (k:Nat):C.rd w.heap.size k=none:=by
 cases hv:C.rd w.heap.size k with
 |none=>rfl
 |some v=>have:=jh (h.rdw _ _ _ hv);omega
def BI (base:Nat) (C C':Cx) (hf hf':Nat->Option aC):Prop:= ∀n ob',hf' n=some ob'->(∃ob,hf n=some ob/\C'.mu n=C.mu n)\/base<=C'.mu n
theorem BI.mu {base:Nat} {C C':Cx} (h:C'.mu=C.mu):BI base C C' hf hf:=fun _ ob hn=> .inl ⟨ob,hn,by rw[h]⟩
theorem BI.one {base:Nat} {C C':Cx} {n:Nat} {x:Option aC} (h1:x=none\/(∃ob,hf n=some ob/\C'.mu n=C.mu n)\/base<=C'.mu n) (h2: ∀k,k≠n->C'.mu k=C.mu k):BI base C C' hf (fY hf [(n,x)]):=by
 intro k ob' hk;rw[ia]at hk
 by_cases e:k=n
 ·simp only[e,aA]at hk;subst e;rcases h1 with h1|h1
  ·rw[h1]at hk;cases hk
  ·exact h1
 ·simp only[e,ak]at hk;exact .inl ⟨ob',hk,h2 k e⟩
def Cx.give (C:Cx) (nm:Nat):Cx:={C with al:=fun n=>C.al n\/n=nm}
theorem Cx.kG (C:Cx) (nm:Nat):C.Le (C.give nm):=⟨fun _ _ _ h=>h,fun _ h=> .inl h,fun _ _ d h=>⟨d,h,aB _,fun _=>⟨rfl,rfl⟩⟩,fun _ _=>⟨rfl,fun _=>rfl⟩⟩
theorem HR.give (h:HR C hf wr w) (nm:Nat):HR (C.give nm) hf wr w where
 rdw:=h.rdw
 live:=fun n ob hn=>⟨.inl (h.live n ob hn).1,(h.live n ob hn).2⟩
 dead:=h.dead
 sep:=h.sep
 inj:=h.inj
 wr:=h.wr
 obj:=fun n ob hn hk=>by
  obtain⟨cs,el,h1,h2,h3,h4,h5⟩:=h.obj n ob hn hk;exact⟨cs,el,h1,h2,h3,h4,fun k x v hx hv=>(h5 k x v hx hv).mono (C.kG nm)⟩
 typ:=h.typ
 mp:=h.mp
theorem HR.world (h:HR C hf wr w) {w':World} (hh: ∀b,b<w.heap.size->w'.heap[b]?=w.heap[b]?):HR C hf wr w' where
 rdw:=fun b o v hv=>by
  have h1:=h.rdw b o v hv;rw[<-h1];exact kF (hh b (jh h1))
 live:=h.live
 dead:=h.dead
 sep:=h.sep
 inj:=h.inj
 wr:=h.wr
 obj:=fun n ob hn hk=>by
  obtain⟨cs,el,h1,h2⟩:=h.obj n ob hn hk;exact⟨cs,el,(hh _ (h.fX hn)).trans h1,h2⟩
 typ:=fun n ob hn hk t ht=>by
  obtain⟨cs,h1⟩:=h.typ n ob hn hk t ht;exact⟨cs,(hh _ (h.fX hn)).trans h1⟩
 mp:=fun n ob hn hk=>by
  obtain⟨es,clk,h1,h2⟩:=h.mp n ob hn hk;exact⟨es,clk,(hh _ (h.fX hn)).trans h1,h2⟩
def Cx.newObj (C:Cx) (w:World) (nm z:Nat):Cx:=
 {rd:=C.rd,al:=fun n=>C.al n\/n=nm,cur:=fun k=>if k=nm then some 0 else C.cur k,
  mu:=fun k=>if k=nm then w.heap.size else C.mu k,sz:=fun k=>if k=nm then z else C.sz k,mpn:=fun k=>if k=nm then false else C.mpn k}
theorem Cx.Bc {C:Cx} (w:World) (z:Nat) (hnm: ¬C.al nm):C.Le (C.newObj w nm z):=by
 refine⟨fun _ _ _ h=>h,fun _ h=> .inl h,fun n hn d hd=> ?_,fun n hn=>by
  have hne:n≠nm:=fun e=>hnm (e▸hn)
  simp[Cx.newObj,hne]⟩
 have hne:n≠nm:=fun e=>hnm (e▸hn)
 have hd':C.cur n=some d:=by simpa[Cx.newObj,hne]using hd
 exact⟨d,hd',aB _,fun _=>⟨by simp[Cx.newObj,hne],by simp[Cx.newObj,hne]⟩⟩
theorem HR.newObj (h:HR C hf wr w) (hnm: ¬C.al nm) (hwr:wr w.heap.size) (cells:List AV) (gr:Bool) (vs:Array Value) (el:TypeId) (eo:Option TypeId) (heo:eo=none\/eo=some el)
  (hl:cells.length<=vs.size) (hg:gr=false->cells.length=vs.size) (hc: ∀(k:Nat) (x:AV) (v:Value),cells[k]?=some x->vs[k]?=some v->AR C x v):
  HR (C.newObj w nm vs.size) (fun k=>if k=nm then some ⟨0,cells,gr,eo⟩else hf k) wr (w.alloc (.cells vs el)):=by
 have hle:=Cx.Bc w (z:=vs.size) hnm;have hno: ∀n ob,hf n=some ob->n≠nm:=fun n ob hn e=>hnm (e▸(h.live n ob hn).1)
 refine⟨?_,?_,?_,?_,?_,?_,?_,?_,?_⟩
 ·intro b o v hv;have h1:=h.rdw b o v hv;rw[<-h1];exact kF (heap_alloc_old _ _ _ (jh h1))
 ·intro n ob hn
  by_cases e:n=nm
  ·subst e;simp at hn;subst hn;exact⟨.inr rfl,by simp[Cx.newObj]⟩
  ·simp only[e,ak]at hn;exact⟨.inl (h.live n ob hn).1,by simp[Cx.newObj,e,(h.live n ob hn).2]⟩
 ·intro n hn
  by_cases e:n=nm
  ·subst e;simp at hn
  ·simp only[e,ak]at hn;simp[Cx.newObj,e,h.dead n hn]
 ·intro n ob hn k
  by_cases e:n=nm
  ·subst e;simp only[Cx.newObj,aA];exact h.IW k
  ·simp only[e,ak]at hn;simp only[Cx.newObj,e,ak];exact h.sep n ob hn k
 ·intro n m ob oc hn hm hmu
  by_cases e:n=nm<;>by_cases f:m=nm
  ·rw[e,f]
  ·exfalso
   simp only[f,ak]at hm;simp only[Cx.newObj,e,f,aA,ak]at hmu;have:=h.fX hm;omega
  ·exfalso
   simp only[e,ak]at hn;simp only[Cx.newObj,e,f,aA,ak]at hmu;have:=h.fX hn;omega
  ·simp only[e,f,ak]at hn hm;simp only[Cx.newObj,e,f,ak]at hmu;exact h.inj n m ob oc hn hm hmu
 ·intro n ob hn
  by_cases e:n=nm
  ·simp only[Cx.newObj,e,aA];exact hwr
  ·simp only[e,ak]at hn;simp only[Cx.newObj,e,ak];exact h.wr n ob hn
 ·intro n ob hn hk
  by_cases e:n=nm
  ·subst e;simp at hn;subst hn;refine⟨vs,el,?_,?_,hl,hg,fun k x v hx hv=>(hc k x v hx hv).mono hle⟩
   ·simp only[Cx.newObj,aA];exact heap_alloc_new _ _
   ·simp[Cx.newObj]
  ·simp only[e,ak]at hn;simp only[Cx.newObj,e,ak]at hk;obtain⟨cs,el',h1,h2,h3,h4,h5⟩:=h.obj n ob hn hk;refine⟨cs,el',?_,?_,h3,h4,fun k x v hx hv=>(h5 k x v hx hv).mono hle⟩
   ·simp only[Cx.newObj,e,ak];rw[heap_alloc_old _ _ _ (h.fX hn)];exact h1
   ·simp[Cx.newObj,e,h2]
 ·intro n ob hn hk t ht
  by_cases e:n=nm
  ·subst e;simp at hn;subst hn;simp only at ht;rcases heo with he|he
   ·rw[he]at ht;cases ht
   ·rw[he]at ht;injection ht with ht;subst ht
    exact⟨vs,by simp only[Cx.newObj,aA];exact heap_alloc_new _ _⟩
  ·simp only[e,ak]at hn;simp only[Cx.newObj,e,ak]at hk;obtain⟨cs,h1⟩:=h.typ n ob hn hk t ht;exact⟨cs,by simp only[Cx.newObj,e,ak];rw[heap_alloc_old _ _ _ (h.fX hn)];exact h1⟩
 ·intro n ob hn hk
  by_cases e:n=nm
  ·subst e;simp[Cx.newObj]at hk
  ·simp only[e,ak]at hn;simp only[Cx.newObj,e,ak]at hk;obtain⟨es,clk,h1,h2⟩:=h.mp n ob hn hk;exact⟨es,clk,by simp only[Cx.newObj,e,ak];rw[heap_alloc_old _ _ _ (h.fX hn)];exact h1,h2⟩
def Cx.gA (C:Cx) (w:World) (nm:Nat) (vs:Array Value):Cx:=
 {C with rd:=fun b o=>if b=w.heap.size then vs[o]? else C.rd b o,al:=fun n=>C.al n\/n=nm}
theorem Cx.rB (h:HR C hf wr w) (nm:Nat) (vs:Array Value):C.Le (C.gA w nm vs):=by
 refine⟨fun b o v hv=> ?_,fun _ h=> .inl h,fun _ _ d h=>⟨d,h,aB _,fun _=>⟨rfl,rfl⟩⟩,fun _ _=>⟨rfl,fun _=>rfl⟩⟩
 have:b≠w.heap.size:=fun e=>by rw[e,h.IW]at hv;cases hv
 simp[Cx.gA,this,hv]
theorem HR.gA (h:HR C hf wr w) (nm:Nat) (vs:Array Value) (el:TypeId) (fr:Nat×Nat:=(0,0)):HR (C.gA w nm vs) hf wr (w.alloc (.cells vs el fr)):=by
 have hle:=Cx.rB h nm vs;refine⟨?_,?_,h.dead,?_,h.inj,h.wr,?_,?_,?_⟩
 ·intro b o v hv
  by_cases e:b=w.heap.size
  ·subst e;simp[Cx.gA]at hv;rw[cell_of_heap (heap_alloc_new _ _)];exact hv
  ·simp only[Cx.gA,e,ak]at hv;have h1:=h.rdw b o v hv;rw[<-h1];exact kF (heap_alloc_old _ _ _ (jh h1))
 ·exact fun n ob hn=>⟨.inl (h.live n ob hn).1,(h.live n ob hn).2⟩
 ·intro n ob hn k;have:=h.fX hn;have e:C.mu n≠w.heap.size:=by omega
  simp only[Cx.gA,e,ak];exact h.sep n ob hn k
 ·intro n ob hn hk;obtain⟨cs,el',h1,h2,h3,h4,h5⟩:=h.obj n ob hn hk;refine⟨cs,el',?_,h2,h3,h4,fun k x v hx hv=>(h5 k x v hx hv).mono hle⟩
  show(w.alloc _).heap[C.mu n]?= _;rw[heap_alloc_old _ _ _ (h.fX hn)];exact h1
 ·intro n ob hn hk t ht;obtain⟨cs,h1⟩:=h.typ n ob hn hk t ht;exact⟨cs,by show(w.alloc _).heap[C.mu n]?= _;rw[heap_alloc_old _ _ _ (h.fX hn)];exact h1⟩
 ·intro n ob hn hk;obtain⟨es,clk,h1,h2⟩:=h.mp n ob hn hk;exact⟨es,clk,by show(w.alloc _).heap[C.mu n]?= _;rw[heap_alloc_old _ _ _ (h.fX hn)];exact h1,h2.mono hle.rd⟩
def Cx.bump (C:Cx) (nm n ver:Nat):Cx:=
 {C with al:=fun k=>C.al k\/k=nm,cur:=fun k=>if k=n then some ver else C.cur k}
theorem Cx.mV {C:Cx} (nm:Nat) {n c ver:Nat} (hc:C.cur n=some c) (hv:c<=ver):C.Le (C.bump nm n ver):=by
 refine⟨fun _ _ _ h=>h,fun _ h=> .inl h,fun k _ d hd=> ?_,fun _ _=>⟨rfl,fun _=>rfl⟩⟩
 by_cases e:k=n
 ·subst e;simp[Cx.bump]at hd;subst hd;exact⟨c,hc,hv,fun _=>⟨rfl,rfl⟩⟩
 ·simp only[Cx.bump,e,ak]at hd;exact⟨d,hd,aB _,fun _=>⟨rfl,rfl⟩⟩
theorem HR.write (h:HR C hf wr w) (nm:Nat) {n:Nat} {ob:aC} (hn:hf n=some ob) (hver:ob.ver<=ver) (cells:List AV) (gr:Bool) {w':World} (vs:Array Value) (el:TypeId) (eo:Option TypeId) (heo:eo=none\/eo=ob.el) (hel: ∃cs,w.heap[C.mu n]?=some (.cells cs el (0,0)))
  (hw:w'.heap[C.mu n]?=some (.cells vs el (0,0))) (hvs:vs.size=C.sz n) (hl:cells.length<=vs.size) (hg:gr=false->cells.length=vs.size)
  (hoth: ∀b,b<w.heap.size->b≠C.mu n->w'.heap[b]?=w.heap[b]?)
  (hc: ∀(k:Nat) (x:AV) (v:Value),cells[k]?=some x->vs[k]?=some v->AR C x v):
  HR (C.bump nm n ver) (fun k=>if k=n then some ⟨ver,cells,gr,eo⟩else hf k) wr w':=by
 have hle:C.Le (C.bump nm n ver):=Cx.mV nm (h.live n ob hn).2 hver;refine⟨?_,?_,?_,?_,?_,?_,?_,?_,?_⟩
 ·intro b o v hv;have h1:=h.rdw b o v hv;have hne:b≠C.mu n:=fun e=>by have hv':C.rd b o=some v:=hv;rw[e,h.sep n ob hn]at hv';cases hv'
  rw[<-h1];exact kF (hoth b (jh h1) hne)
 ·intro m oc hm
  by_cases e:m=n
  ·subst e;simp at hm;subst hm;exact⟨.inl (h.live m ob hn).1,by simp[Cx.bump]⟩
  ·simp only[e,ak]at hm;exact⟨.inl (h.live m oc hm).1,by simp[Cx.bump,e,(h.live m oc hm).2]⟩
 ·intro m hm
  by_cases e:m=n
  ·subst e;simp at hm
  ·simp only[e,ak]at hm;simp[Cx.bump,e,h.dead m hm]
 ·intro m oc hm k
  by_cases e:m=n
  ·subst e;exact h.sep m ob hn k
  ·simp only[e,ak]at hm;exact h.sep m oc hm k
 ·intro m m' oc oc' hm hm' hmu
  by_cases e:m=n<;>by_cases f:m'=n
  ·rw[e,f]
  ·simp only[f,ak]at hm';subst e;exact h.inj _ _ _ _ hn hm' hmu
  ·simp only[e,ak]at hm;subst f;exact h.inj _ _ _ _ hm hn hmu
  ·simp only[e,f,ak]at hm hm';exact h.inj _ _ _ _ hm hm' hmu
 ·intro m oc hm
  by_cases e:m=n
  ·subst e;exact h.wr m ob hn
  ·simp only[e,ak]at hm;exact h.wr m oc hm
 ·intro m oc hm hk
  by_cases e:m=n
  ·subst e;simp at hm;subst hm;exact⟨vs,el,hw,hvs,hl,hg,fun k x v hx hv=>(hc k x v hx hv).mono hle⟩
  ·simp only[e,ak]at hm;obtain⟨cs,el',h1,h2,h3,h4,h5⟩:=h.obj m oc hm hk;refine⟨cs,el',?_,h2,h3,h4,fun k x v hx hv=>(h5 k x v hx hv).mono hle⟩
   have hne:C.mu m≠C.mu n:=fun he=>e (h.inj _ _ _ _ hm hn he)
   exact(hoth _ (h.fX hm) hne).trans h1
 ·intro m oc hm hk t ht
  by_cases e:m=n
  ·subst e;simp at hm;subst hm;simp only at ht;rcases heo with he|he
   ·rw[he]at ht;cases ht
   ·rw[he]at ht;obtain⟨cs,h1⟩:=h.typ m ob hn hk t ht;obtain⟨cs',h2⟩:=hel;rw[h1]at h2;injection h2 with h2;injection h2 with _ h2 _
    exact⟨vs,by rw[h2];exact hw⟩
  ·simp only[e,ak]at hm;obtain⟨cs,h1⟩:=h.typ m oc hm hk t ht;have hne:C.mu m≠C.mu n:=fun he=>e (h.inj _ _ _ _ hm hn he)
   exact⟨cs,(hoth _ (h.fX hm) hne).trans h1⟩
 ·intro m oc hm hk
  by_cases e:m=n
  ·subst e;obtain⟨es,clk,h1,-⟩:=h.mp m ob hn hk;obtain⟨cs',h2⟩:=hel;rw[h1]at h2;cases h2
  ·simp only[e,ak]at hm;obtain⟨es,clk,h1,h2⟩:=h.mp m oc hm hk;have hne:C.mu m≠C.mu n:=fun he=>e (h.inj _ _ _ _ hm hn he)
   exact⟨es,clk,(hoth _ (h.fX hm) hne).trans h1,h2⟩
def Cx.move (C:Cx) (w:World) (nm n ver z:Nat):Cx:=
 {rd:=C.rd,al:=fun k=>C.al k\/k=nm,cur:=fun k=>if k=n then some ver else C.cur k,
  mu:=fun k=>if k=n then w.heap.size else C.mu k,sz:=fun k=>if k=n then z else C.sz k,mpn:=C.mpn}
theorem Cx.Im {C:Cx} (w:World) (nm:Nat) {n c ver:Nat} (z:Nat) (hc:C.cur n=some c) (hv:c<ver) (hk:C.mpn n=false):C.Le (C.move w nm n ver z):=by
 refine⟨fun _ _ _ h=>h,fun _ h=> .inl h,fun k _ d hd=> ?_,fun k _=>⟨rfl,fun ht=>by
  have e:k≠n:=fun e=>by subst e;have:=hk.symm.trans ht;cases this
  simp[Cx.move,e]⟩⟩
 by_cases e:k=n
 ·subst e;simp[Cx.move]at hd;subst hd;exact⟨c,hc,by omega,fun he=>by omega⟩
 ·have hd':C.cur k=some d:=by simpa[Cx.move,e]using hd
  exact⟨d,hd',aB _,fun _=>⟨by simp[Cx.move,e],by simp[Cx.move,e]⟩⟩
theorem HR.move (h:HR C hf wr w) (nm:Nat) {n:Nat} {ob:aC} (hn:hf n=some ob) (hk0:C.mpn n=false) (hver:ob.ver<ver) (hwr:wr w.heap.size) (cells:List AV) (gr:Bool) (vs:Array Value) (el:TypeId) (eo:Option TypeId) (heo:eo=none\/eo=some el)
  (hl:cells.length<=vs.size) (hg:gr=false->cells.length=vs.size) (hc: ∀(k:Nat) (x:AV) (v:Value),cells[k]?=some x->vs[k]?=some v->AR C x v):
  HR (C.move w nm n ver vs.size) (fun k=>if k=n then some ⟨ver,cells,gr,eo⟩else hf k) wr (w.alloc (.cells vs el)):=by
 have hle:C.Le (C.move w nm n ver vs.size):=Cx.Im w nm _ (h.live n ob hn).2 hver hk0;refine⟨?_,?_,?_,?_,?_,?_,?_,?_,?_⟩
 ·intro b o v hv;have h1:=h.rdw b o v hv;rw[<-h1];exact kF (heap_alloc_old _ _ _ (jh h1))
 ·intro m oc hm
  by_cases e:m=n
  ·subst e;simp at hm;subst hm;exact⟨.inl (h.live m ob hn).1,by simp[Cx.move]⟩
  ·simp only[e,ak]at hm;exact⟨.inl (h.live m oc hm).1,by simp[Cx.move,e,(h.live m oc hm).2]⟩
 ·intro m hm
  by_cases e:m=n
  ·subst e;simp at hm
  ·simp only[e,ak]at hm;simp[Cx.move,e,h.dead m hm]
 ·intro m oc hm k
  by_cases e:m=n
  ·simp only[Cx.move,e,aA];exact h.IW k
  ·simp only[e,ak]at hm;simp only[Cx.move,e,ak];exact h.sep m oc hm k
 ·intro m m' oc oc' hm hm' hmu
  by_cases e:m=n<;>by_cases f:m'=n
  ·rw[e,f]
  ·exfalso
   simp only[f,ak]at hm';simp only[Cx.move,e,f,aA,ak]at hmu;have:=h.fX hm';omega
  ·exfalso
   simp only[e,ak]at hm;simp only[Cx.move,e,f,aA,ak]at hmu;have:=h.fX hm;omega
  ·simp only[e,f,ak]at hm hm';simp only[Cx.move,e,f,ak]at hmu;exact h.inj _ _ _ _ hm hm' hmu
 ·intro m oc hm
  by_cases e:m=n
  ·simp only[Cx.move,e,aA];exact hwr
  ·simp only[e,ak]at hm;simp only[Cx.move,e,ak];exact h.wr m oc hm
 ·intro m oc hm hk
  by_cases e:m=n
  ·subst e;simp at hm;subst hm;refine⟨vs,el,?_,?_,hl,hg,fun k x v hx hv=>(hc k x v hx hv).mono hle⟩
   ·simp only[Cx.move,aA];exact heap_alloc_new _ _
   ·simp[Cx.move]
  ·simp only[e,ak]at hm;obtain⟨cs,el',h1,h2,h3,h4,h5⟩:=h.obj m oc hm hk;refine⟨cs,el',?_,?_,h3,h4,fun k x v hx hv=>(h5 k x v hx hv).mono hle⟩
   ·simp only[Cx.move,e,ak];rw[heap_alloc_old _ _ _ (h.fX hm)];exact h1
   ·simp[Cx.move,e,h2]
 ·intro m oc hm hk t ht
  by_cases e:m=n
  ·subst e;simp at hm;subst hm;simp only at ht;rcases heo with he|he
   ·rw[he]at ht;cases ht
   ·rw[he]at ht;injection ht with ht;subst ht
    exact⟨vs,by simp only[Cx.move,aA];exact heap_alloc_new _ _⟩
  ·simp only[e,ak]at hm;obtain⟨cs,h1⟩:=h.typ m oc hm hk t ht;exact⟨cs,by simp only[Cx.move,e,ak];rw[heap_alloc_old _ _ _ (h.fX hm)];exact h1⟩
 ·intro m oc hm hk;have e:m≠n:=fun e=>by subst e;have:=hk0.symm.trans hk;cases this
  simp only[e,ak]at hm;obtain⟨es,clk,h1,h2⟩:=h.mp m oc hm hk;exact⟨es,clk,by simp only[Cx.move,e,ak];rw[heap_alloc_old _ _ _ (h.fX hm)];exact h1,h2⟩
end
end Go.Dom
namespace Go.Dom
open Go.RowKit
def bC {α:Type} (R:α->Value->Prop) (l:List α) (vs:List Value):Prop:=
 l.length=vs.length/\ ∀(k:Nat) (x:α) (v:Value),l[k]?=some x->vs[k]?=some v->R x v
section
variable {α:Type} {R:α->Value->Prop}
variable {vs:List Value}
theorem bC.nil:bC R [] []:=⟨rfl,fun k x v h=>by simp at h⟩
theorem bC.cons {x:α} {v:Value} {l:List α} (h:R x v) (hl:bC R l vs):bC R (x::l) (v::vs):=by
 refine⟨by simp[hl.1],fun k y u hy hu=> ?_⟩
 cases k with
 |zero=>simp at hy hu;subst hy;subst hu;exact h
 |succ k=>simp at hy hu;exact hl.2 k y u hy hu
theorem bC.head {x:α} {v:Value} {l:List α} (h:bC R (x::l) (v::vs)):R x v:=h.2 0 x v rfl rfl
theorem bC.tail {x:α} {v:Value} {l:List α} (h:bC R (x::l) (v::vs)):bC R l vs:=
 ⟨by simpa using h.1,fun k y u hy hu=>h.2 (k+1) y u (by simpa using hy) (by simpa using hu)⟩
theorem bC.fO {x:α} {l:List α} (h:bC R (x::l) vs): ∃v us,vs=v::us/\R x v/\bC R l us:=by
 cases vs with
 |nil=>have:=h.1;simp at this
 |cons v us=>exact⟨v,us,rfl,h.head,h.tail⟩
theorem bC.dx (h:bC R [] vs):vs=[]:=by
 have:=h.1;exact kD (by simpa using this.symm)
theorem bC.append {l m:List α} {us:List Value} (h:bC R l vs) (k:bC R m us):bC R (l++m) (vs++us):=by
 induction l generalizing vs with
 |nil=>rw[h.dx];exact k
 |cons x l ih=>obtain⟨v,ws,rfl,h1,h2⟩:=h.fO;exact .cons h1 (ih h2)
theorem bC.take {l:List α} (h:bC R l vs) (n:Nat):bC R (l.take n) (vs.take n):=by
 induction l generalizing vs n with
 |nil=>rw[h.dx];simpa using bC.nil
 |cons x l ih=>
  obtain⟨v,ws,rfl,h1,h2⟩:=h.fO
  cases n with
  |zero=>simpa using bC.nil
  |succ n=>exact .cons h1 (ih h2 n)
theorem bC.drop {l:List α} (h:bC R l vs) (n:Nat):bC R (l.drop n) (vs.drop n):=by
 induction l generalizing vs n with
 |nil=>rw[h.dx];simpa using bC.nil
 |cons x l ih=>
  obtain⟨v,ws,rfl,h1,h2⟩:=h.fO
  cases n with
  |zero=>exact .cons h1 h2
  |succ n=>exact ih h2 n
theorem bC.get {l:List α} (h:bC R l vs) {k:Nat} {x:α} (hx:l[k]?=some x): ∃v,vs[k]?=some v/\R x v:=by
 have hk:k<l.length:=(cv.1 hx).1;have hk':k<vs.length:=by have:=h.1;omega
 exact⟨vs[k],by simp[hk'],h.2 k x _ hx (by simp[hk'])⟩
theorem bC.imp {S:α->Value->Prop} (hi: ∀x v,R x v->S x v) {l:List α} (h:bC R l vs):bC S l vs:=
 ⟨h.1,fun k x v hx hv=>hi _ _ (h.2 k x v hx hv)⟩
theorem bC.U3 {β:Type} {S:β->Value->Prop} (f:α->β) {l:List α} (h:bC R l vs) (hi: ∀x v,R x v->S (f x) v):bC S (l.map f) vs:=by
 induction l generalizing vs with
 |nil=>rw[h.dx];exact .nil
 |cons x l ih=>obtain⟨v,ws,rfl,h1,h2⟩:=h.fO;exact .cons (hi _ _ h1) (ih h2)
theorem bC.flatten {ls:List (List α)} {vss:List (List Value)} (hl:ls.length=vss.length) (h: ∀(k:Nat) l vs,ls[k]?=some l->vss[k]?=some vs->bC R l vs):bC R ls.flatten vss.flatten:=by
 induction ls generalizing vss with
 |nil=>cases vss with|nil=>exact .nil|cons _ _=>simp at hl
 |cons l ls ih=>
  cases vss with
  |nil=>simp at hl
  |cons vs vss=>
   simp only[List.flatten_cons];exact(h 0 l vs rfl rfl).append (ih (by simpa using hl) fun k l vs h1 h2=>h (k+1) l vs (by simpa using h1) (by simpa using h2))
end
section
variable {rd:Rd} {C:Cx}
theorem PR.sL {x:PV} {v:Value} (h:PR rd x v) (h1:x.one=true):v.oneCell'=true:=by
 cases h<;>first|rfl|(simp[PV.one]at h1)
theorem AR.sL {x:AV} {v:Value} (h:AR C x v) (h1:x.one=true):v.oneCell'=true:=by
 cases h with
 |v h=>exact h.sL h1
 |p=>rfl
 |rs=>rfl
 |pp=>rfl
 |fs=>rfl
 |sn=>rfl
 |agg=>simp[AV.one]at h1
 |tup=>simp[AV.one]at h1
 |fn=>rfl
 |ub=>rfl
 |mp=>rfl
 |u=>simp[AV.one]at h1
theorem AR.cells {x:AV} {v:Value} (h:AR C x v) (hk:x.nH=true): ∃vs:List Value,v.cells=vs.toArray/\bC (AR C) x.cells vs/\ ∀u∈vs,u.oneCell'=true:=by
 cases h with
 |v h=>
  rename_i y
  cases h with
  |agg l vs h1 hl h=>
   have hr:bC (PR C.rd) l vs:=⟨hl,h⟩;refine⟨vs,rfl,hr.U3 _ fun x v hx=> .v hx,fun u hu=> ?_⟩
   obtain⟨k,hk',rfl⟩:=iv hu;have hkl:k<l.length:=by omega
   exact(h k l[k] vs[k] (by simp[hkl]) (by simp[hk'])).sL (h1 _ (jQ hkl))
  |tup l vs hl h=>simp[AV.nH]at hk
  |b x=>exact⟨[.bool x],rfl, .cons (.v (.b x)) .nil,by simp[Value.oneCell']⟩
  |i k n=>exact⟨[.int k n],rfl, .cons (.v (.i k n)) .nil,by simp[Value.oneCell']⟩
  |s x=>exact⟨[.string ⟨x.toArray⟩],rfl, .cons (.v (.s x)) .nil,by simp[Value.oneCell']⟩
  |sl0=>exact⟨[.slice none 0 0],rfl, .cons (.v .sl0) .nil,by simp[Value.oneCell']⟩
  |sle a cap=>exact⟨[_],rfl, .cons (.v (.sle a cap)) .nil,by simp[Value.oneCell']⟩
  |sl l z vs bk of cap hc hz h1 hl hr h=>exact⟨[_],rfl, .cons (.v (.sl l z vs bk of cap hc hz h1 hl hr h)) .nil,by simp[Value.oneCell']⟩
  |fn f=>exact⟨[_],rfl, .cons (.v (.fn f)) .nil,by simp[Value.oneCell']⟩
  |fn0=>exact⟨[_],rfl, .cons (.v .fn0) .nil,by simp[Value.oneCell']⟩
  |p0=>exact⟨[_],rfl, .cons (.v .p0) .nil,by simp[Value.oneCell']⟩
  |if0=>exact⟨[_],rfl, .cons (.v .if0) .nil,by simp[Value.oneCell']⟩
  |ifc t x v h=>exact⟨[_],rfl, .cons (.v (.ifc t x v h)) .nil,by simp[Value.oneCell']⟩
  |pt x o vs bk of h1 hl hr h=>exact⟨[_],rfl, .cons (.v (.pt x o vs bk of h1 hl hr h)) .nil,by simp[Value.oneCell']⟩
  |fc f a c va vc hla hlc ha hc=>exact⟨[_],rfl, .cons (.v (.fc f a c va vc hla hlc ha hc)) .nil,by simp[Value.oneCell']⟩
 |agg l vs hl h=>
  refine⟨vs,rfl,⟨hl,h⟩,fun u hu=> ?_⟩
  obtain⟨k,hk',rfl⟩:=iv hu;have hkl:k<l.length:=by omega
  simp only[AV.nH,bJ]at hk;exact(h k l[k] vs[k] (by simp[hkl]) (by simp[hk'])).sL (hk _ (jQ hkl))
 |tup=>simp[AV.nH]at hk
 |u=>simp[AV.nH]at hk
 |ub x=>exact⟨[_],rfl, .cons (.ub x) .nil,by simp[Value.oneCell']⟩
 |mp n b ha hm h=>exact⟨[_],rfl, .cons (.mp n b ha hm h) .nil,by simp[Value.oneCell']⟩
 |p n ver o b ha hm h=>exact⟨[_],rfl, .cons (.p n ver o b ha hm h) .nil,by simp[Value.oneCell']⟩
 |rs n ver o len z b o' cap ha hm hc ho h=>exact⟨[_],rfl, .cons (.rs n ver o len z b o' cap ha hm hc ho h) .nil,by simp[Value.oneCell']⟩
 |pp x o vs bk of h1 hl hr h=>exact⟨[_],rfl, .cons (.pp x o vs bk of h1 hl hr h) .nil,by simp[Value.oneCell']⟩
 |fs l a h=>exact⟨[_],rfl, .cons (.fs l a h) .nil,by simp[Value.oneCell']⟩
 |sn=>exact⟨[_],rfl, .cons .sn .nil,by simp[Value.oneCell']⟩
 |fn f a c va vc hla hlc ha hc=>exact⟨[_],rfl, .cons (.fn f a c va vc hla hlc ha hc) .nil,by simp[Value.oneCell']⟩
theorem cC {α β:Type} {g:α->Option β} {l:List α} {ys:List β} (h:aU g l=some ys):l.length=ys.length/\ ∀(k:Nat) (x:α) (y:β),l[k]?=some x->ys[k]?=some y->g x=some y:=by
 induction l generalizing ys with
 |nil=>simp[aU]at h;subst h;exact⟨rfl,fun k x y h=>by simp at h⟩
 |cons x l ih=>
  simp only[aU]at h
  cases hx:g x with
  |none=>simp[hx]at h
  |some y=>
   cases hl:aU g l with
   |none=>simp[hx,hl]at h
   |some zs=>
    simp[hx,hl]at h;subst h;obtain⟨h1,h2⟩:=ih hl;refine⟨by simp[h1],fun k u z hu hz=> ?_⟩
    cases k with
    |zero=>simp at hu hz;subst hu;subst hz;exact hx
    |succ k=>simp at hu hz;exact h2 k u z hu hz
theorem AR.jv {l:List AV} {vs:List Value} (h:bC (AR C) l vs):AR C (Dom.jv l) (.agg vs.toArray):=by
 unfold Dom.jv;split
 ·rename_i ys hys;obtain⟨h1,h2⟩:=cC hys;have hp: ∀(k:Nat) (y:PV),ys[k]?=some y-> ∃x,l[k]?=some x/\x= .v y/\y.one=true:=by
   intro k y hy;have hk:k<l.length:=by have:=(cv.1 hy).1;omega
   have hx:l[k]?=some l[k]:=by simp[hk]
   have:=h2 k _ y hx hy;refine⟨l[k],hx,?_⟩
   split at this
   ·rename_i z hz
    split at this
    ·simp at this;subst this;exact⟨hz,by assumption⟩
    ·cases this
   ·cases this
  refine .v (.agg ys vs ?_ (by rw[<-h1];exact h.1) ?_)
  ·intro y hy;obtain⟨k,hk,rfl⟩:=iv hy;exact(hp k _ (by simp[hk])).choose_spec.2.2
  ·intro k y v hy hv;obtain⟨x,hx,rfl,-⟩:=hp k y hy;have:=h.2 k _ v hx hv
   cases this with|v h=>exact h
 ·exact .agg l vs h.1 h.2
end
