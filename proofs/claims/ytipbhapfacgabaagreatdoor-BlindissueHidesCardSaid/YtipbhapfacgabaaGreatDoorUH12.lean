/- Part of the proof. -/
import GoSem.Claims
import Derived.Eval
import Derived.Scope
import Derived.Test.YtipbhapfacgabaaGreatDoorUH11
set_option linter.all false
namespace Go.Dom
open Go.RowKit
inductive XR:Exit->AX->Prop where
 |normal:XR .normal .normal
 |exit (id:Nat):XR (.exit id) (.exit id)
 |ret:XR .ret .ret
def mark (D:Nat):Deferred:={target:= .collected D,args:= #[]}
structure Ext {P:Program} [ct P] (E E':Env P):Prop where
 w0:E'.w0=E.w0
 rd0:E'.rd0=E.rd0
 nt:E'.nt=E.nt
 C0:E'.C0=E.C0
 Ce:E'.Ce=E.Ce
 ro:E'.ro=E.ro
 wr: ∀b,E'.wr b->E.wr b
 hwr:(∀b,E.fr<=b->E.wr b)-> ∀b,E'.fr<=b->E'.wr b
 df: ∃Ds:List Nat,E'.df=Ds.map mark++E.df/\Ds.Nodup/\(∀D∈Ds,(D,Obj.deferred (some []))∈E'.pin/\E.fr<=D)
 fr:E.fr<=E'.fr
 pin: ∀p∈E.pin,p∈E'.pin
 EY:(∀p∈E.pin,p.1<E.fr)-> ∀p∈E'.pin,p.1<E'.fr
theorem Ext.refl {P:Program} [ct P] (E:Env P):Ext E E:=⟨rfl,rfl,rfl,rfl,rfl,rfl,fun _ h=>h,fun h=>h,⟨[],rfl,by simp,by simp⟩,aB _,fun _ h=>h,fun h=>h⟩
theorem Ext.trans {P:Program} [ct P] {A B C:Env P} (h:Ext A B) (k:Ext B C) (hd: ∀D,(D,Obj.deferred (some []))∈B.pin->D<B.fr):Ext A C:=by
 obtain⟨D1,e1,n1,g1⟩:=h.df;obtain⟨D2,e2,n2,g2⟩:=k.df;refine⟨k.w0.trans h.w0,k.rd0.trans h.rd0,k.nt.trans h.nt,k.C0.trans h.C0,k.Ce.trans h.Ce,k.ro.trans h.ro,fun b hb=>h.wr b (k.wr b hb),fun hw=>k.hwr (h.hwr hw),⟨D2++D1,?_,?_,?_⟩,fV h.fr k.fr,fun p hp=>k.pin p (h.pin p hp),fun hp=>k.EY (h.EY hp)⟩
 ·rw[e2,e1];simp
 ·rw[List.nodup_append];refine⟨n2,n1,fun x hx y hy e=> ?_⟩
  subst e;have:=hd x (g1 x hy).1;have:=(g2 x hx).2;omega
 ·intro D hD;rcases iM.1 hD with hD|hD
  ·exact⟨(g2 D hD).1,fV h.fr (g2 D hD).2⟩
  ·exact⟨k.pin _ (g1 D hD).1,(g1 D hD).2⟩
def pL {P:Program} [ct P] (E:Env P) (ng:Bool) (Q:AX->AS->Prop) (e:Exit) (a:Act) (w:World):Prop:= ∃E' x s,Ext E E'/\(ng=true->E'=E)/\XR e x/\Q x s/\mK E' s a w
theorem pL.same {P:Program} [ct P] {E:Env P} {ng:Bool} {Q:AX->AS->Prop} {e:Exit} {a:Act} {w:World} {x:AX} {s:AS} (hx:XR e x) (hq:Q x s) (hs:mK E s a w):pL E ng Q e a w:=⟨E,x,s, .refl E,fun _=>rfl,hx,hq,hs⟩
section
variable {P:Program} [ct P] {E:Env P}
variable {C:Cx} {a:Act} {hf:Nat->Option aC} {wr:Nat->Prop}
theorem My {nt:Nat} {ops:Array Oper} {o:Oper} {so:jV} (h:HT P nt ops o=some so):Wu P nt ops o so:=by
 unfold HT at h
 split at h
 ·rename_i s g h1 h2
  split at h
  ·rename_i hd;simp only[ai]at h;subst h;refine⟨h1,rfl,?_,?_,?_⟩
   ·intro d hd';have hd':o.dst=some d:=hd';rw[hd']at hd;simpa[Zt]using hd
   ·unfold HS at h2
    split at h2
    ·rename_i hg;simp only[ai]at h2;subst h2;simp[hg]
    ·rename_i j b hg
     split at h2
     ·rename_i t ht
      split at h2
      ·simp only[ai]at h2;subst h2;simp[hg,ht]
      ·cases h2
     ·cases h2
   ·intro p hp;simp only at hp;unfold HS at h2
    split at h2
    ·simp only[ai]at h2;subst h2;cases hp
    ·split at h2
     ·split at h2
      ·simp only[ai]at h2;subst h2;injection hp with hp;subst hp;assumption
      ·cases h2
     ·cases h2
  ·cases h
 ·cases h
theorem x7 {nt:Nat} {ops:Array Oper} {sops:List jV} (h:aU (HT P nt ops) ops.toList=some sops):sops.length=ops.size/\ ∀(k:Nat) (o:Oper) (so:jV),ops[k]?=some o->sops[k]?=some so->Wu P nt ops o so:=by
 obtain⟨h1,h2⟩:=cC h;exact⟨by simpa using h1.symm,fun k o so ho hs=>My (h2 k o so (by simpa using ho) hs)⟩
theorem ES {s:AS} (k:Nat): ¬(s.nx+k<s.nx):=by omega
theorem mK.region {s s2:AS} {n:Nat} {w:World} (hN: ∀n,E.C0.al n\/E.Ce.al n->n<s.nx) (h:SR E (fun m=>m<s.nx\/ ∃k,k<n/\m=s.nx+k) (aO s2.t) (hget s2.h) a w):mK E {s2 with nx:=s.nx+n} a w:=by
 refine⟨SR.kT h fun m=> ?_,fun m hm=>ba (hN m hm) (Nat.le_add_right _ _)⟩
 constructor
 ·rintro(h|⟨k,h1,rfl⟩)
  ·show m<s.nx+n;omega
  ·show s.nx+k<s.nx+n;omega
 ·intro h;have h:m<s.nx+n:=h
  by_cases hm:m<s.nx
  ·exact .inl hm
  ·exact .inr ⟨m-s.nx,by omega,by omega⟩
theorem k9 {b:Frame} {k:List Item} {cs:List Frame} {w:World} {c:Code}:step P (lone (b.atR a (.code (.scope c)::k)) cs w)= .next (lone (b.atR a (.code c:: .inScope c::k)) cs w):=
 step_lone_go (by simp[stepG,stepG.exec,Frame.atR])
theorem Aj {b:Frame} {k:List Item} {cs:List Frame} {w:World} {c:Code}:step P (lone (b.atR a (.inScope c::k)) cs w)= .next (lone (b.atR a k) cs w):=
 step_lone_go (by simp[stepG,stepG.exec,Frame.atR])
theorem Hu {F:Fence} {n:Nat} {Q:Exit->Act->World->Prop} {w:World} {c:Code} (h:c.wpIn F n P (Exit.noGoto Q) a w):(Code.scope c).wpIn F n P Q a w:=by
 intro b k cs hro hb hr;have i0:(lone (b.atR a (.code (.scope c)::k)) cs w).fenced P F:=fenced_calm hb hr rfl;obtain⟨e,a₁,w₁,hq,harr⟩:=h b (.inScope c::k) cs hro hb hr;have ex: ∀id,exitTo id (.inScope c::k)=exitTo id k:=fun id=>by simp[exitTo]
 cases e with
 |normal=>exact⟨.normal,a₁,w₁,hq, .head i0 k9 (StepsIn.trans harr (.one (fenced_calm (fr:=b.atR a₁ (.inScope c::k)) hb hr rfl) Aj))⟩
 |exit id=>exact⟨.exit id,a₁,w₁,hq, .of_steps (.one i0 k9) ⟨fun k' hk=>harr.1 k' (by rw[ex,hk]),fun hr hk=>harr.2 hr (by rw[ex,hk])⟩⟩
 |goto l=>exact hq.elim
 |ret=>exact⟨_,a₁,w₁,hq, .of_steps (.one i0 k9) harr⟩
 |panic ch=>exact⟨_,a₁,w₁,hq, .of_steps (.one i0 k9) harr⟩
 |outgrown=>exact⟨_,a₁,w₁,hq, .of_steps (.one i0 k9) harr⟩
theorem mK.EY {E:Env P} {s:AS} {w:World} (h:mK E s a w) (p:Nat×Obj) (hp:p∈E.pin):p.1<w.heap.size:=by
 obtain⟨⟨C,hal,hh,hrd,⟨hwf,-,-⟩,-⟩,-⟩:=h;exact(mI.1 (hwf.pn p hp)).1
theorem mK.below {E:Env P} {s:AS} {w w':World} (h:mK E s a w) (hb:Below w.heap.size w w'):mK E s a w':=by
 obtain⟨⟨C,hal,hh,hrd,⟨hwf,h1,h2⟩,h3⟩,h4⟩:=h;exact⟨⟨C,hal,hh.world fun b hb'=>hb.block b hb',hrd,⟨hwf.trans (Wf.below hb),h1,h2⟩,h3⟩,h4⟩
theorem HR.putObj {w:World} (h:HR C hf wr w) {l:Nat} {o:Obj} (o':Obj) (hl:w.heap[l]?=some o) (hc:o.isCells=false) (hmp: ∀es clk,o≠ .map es clk):HR C hf wr (w.putObj l o'):=by
 have hne: ∀{b:Nat} {q:Obj},w.heap[b]?=some q->q.isCells=true->b≠l:=by
  intro b q hb hq e;subst e;rw[hl]at hb;cases hb;rw[hc]at hq;cases hq
 refine⟨fun b o v hv=> ?_,h.live,h.dead,h.sep,h.inj,h.wr,fun n ob hn hk=> ?_,fun n ob hn hk t ht=> ?_,fun n ob hn hk=> ?_⟩
 ·have h1:=h.rdw b o v hv;rw[<-h1];refine kF (World.putObj_heap_other ?_);obtain⟨q,hq,hw⟩: ∃q:Obj,w.heap[b]?=some q/\q.isCells=true:=by
   unfold World.cell? at h1
   cases ho:w.heap[b]? with
   |none=>simp[ho]at h1
   |some q=>exact⟨q,rfl,by cases q<;>simp_all[Obj.isCells]⟩
  exact hne hq hw
 ·obtain⟨cs,el,h1,h2⟩:=h.obj n ob hn hk;exact⟨cs,el,(World.putObj_heap_other (hne h1 rfl)).trans h1,h2⟩
 ·obtain⟨cs,h1⟩:=h.typ n ob hn hk t ht;exact⟨cs,(World.putObj_heap_other (hne h1 rfl)).trans h1⟩
 ·obtain⟨es,clk,h1,h2⟩:=h.mp n ob hn hk;have hn2:C.mu n≠l:=fun e=>by rw[e,hl]at h1;cases h1;exact hmp _ _ rfl
  exact⟨es,clk,(World.putObj_heap_other hn2).trans h1,h2⟩
theorem OA: ∀(ps:List Nat) (vs:List PV) (us:List Value) (t:List (Nat×AV)) (tm:Array Value),(∀p∈ps,p<tm.size)->bC (PR C.rd) vs us->(∀k,AR C (aO t k) (tm.getD k undef))->
  (∀k,AR C (aO (qa t ps vs) k) (((ps.zip us).foldl (fun t (p:Nat×Value)=>t.setIfInBounds p.1 p.2) tm).getD k undef))/\((ps.zip us).foldl (fun t (p:Nat×Value)=>t.setIfInBounds p.1 p.2) tm).size=tm.size:=by
 intro ps
 induction ps with
 |nil=>intro vs us t tm _ _ h;cases vs<;>exact⟨h,rfl⟩
 |cons p ps ih=>
  intro vs us t tm hp hv h
  cases vs with
  |nil=>have:=hv.dx;subst this;exact⟨h,rfl⟩
  |cons v vs=>
   obtain⟨u,us',rfl,hu,hv'⟩:=hv.fO;simp only[qa,List.zip_cons_cons,List.foldl_cons];have hpl:=hp p (by simp)
   have hst: ∀k,AR C (aO (FG t p (.v v)) k) ((tm.setIfInBounds p u).getD k undef):=by
    intro k;simp only[lW,oL]
    by_cases e:k=p
    ·subst e;rw[ah rfl];simp only[ja,Array.getElem?_setIfInBounds_self_of_lt hpl,Option.getD_some];exact .v hu
    ·rw[af e];simp only[ja,wZ (kA e)];simpa only[ja]using h k
   obtain⟨g1,g2⟩:=ih vs us' (FG t p (.v v)) (tm.setIfInBounds p u) (fun q hq=>by simpa using hp q (by simp[hq])) hv' hst
   exact⟨g1,by simpa using g2⟩
inductive XJ:Code->AX->Prop where
 |exit (id:Nat):XJ (.exit id) (.exit id)
 |ret:XJ .ret .ret
theorem V1 {g:Operand} {ps:Array Tmp} {x y:Code} {g':SX} {sx' sy':SC} {E:Env P} {Q:AX->AS->Prop} {s:AS} {w:World}
  (ihx: ∀E1:Env P,E1.nt=E.nt->(∀b,E1.fr<=b->E1.wr b)->(∀p∈E1.pin,p.1<E1.fr)->sx'.ek=true-> ∀(Q:AX->AS->Prop) (s:AS) (a:Act) (w:World),aw P sx' Q s->mK E1 s a w->x.wpIn (FR E1.ro) 0 P (pL E1 sx'.ek Q) a w)
  (ihy: ∀E1:Env P,E1.nt=E.nt->(∀b,E1.fr<=b->E1.wr b)->(∀p∈E1.pin,p.1<E1.fr)->sy'.ek=true-> ∀(Q:AX->AS->Prop) (s:AS) (a:Act) (w:World),aw P sy' Q s->mK E1 s a w->y.wpIn (FR E1.ro) 0 P (pL E1 sy'.ek Q) a w)
  (hg:sx P g=some g') (hnx:sx'.ek=true) (hny:sy'.ek=true) (hps: ∀p∈ps.toList,p<E.nt) (hwr: ∀b,E.fr<=b->E.wr b) (hpn: ∀p∈E.pin,p.1<E.fr) (hro:E.ro=none)
  (ha:aw P (.rng g' ps.toList sx' sy') Q s) (hs:mK E s a w):(Code.rangeFunc g ps x y).wpIn (FR E.ro) 0 P (pL E (SC.rng g' ps.toList sx' sy').ek Q) a w:=by
 simp only[aw]at ha;obtain⟨gf,caps,fi,xs,ns,hpv,hvn,hlo,⟨hent,hit⟩,hlen,hrng⟩:=ha;obtain⟨⟨C,hal,hh,hrd,⟨hwf,hC0,hst0⟩,hdf,hsz,htm⟩,hN⟩:=id hs;have htr: ∀b o v,TR P b o=some v->C.rd b o=some v:=fun b o v hv=>hC0.rd _ _ _ (E.gl _ _ _ hv)
 have: ∀b,Decidable (∃n ob,eL (hget s.h) ns n=some ob/\(C.only ns).mu n=b):=fun b=>Classical.propDecidable _
 have ho:=hh.only ns;obtain⟨rd,hrdef⟩: ∃rd,rd=cj (C.only ns) (eL (hget s.h) ns) w:=⟨_,rfl⟩;have hrdle: ∀b o v,C.rd b o=some v->rd b o=some v:=fun b o v hv=>by rw[hrdef];exact uZ ho hv
 obtain⟨lbs,hlbs⟩: ∃lbs:List Nat,lbs=ns.filterMap fun n=>(hget s.h n).map fun _=>C.mu n:=⟨_,rfl⟩
 have hlm: ∀b,b∈lbs↔ ∃n ob,n∈ns/\hget s.h n=some ob/\C.mu n=b:=by
  intro b;rw[hlbs,C6];constructor
  ·rintro⟨n,hn,e⟩;obtain⟨ob,h1,h2⟩:=dM.1 e;exact⟨n,ob,hn,h1,h2⟩
  ·rintro⟨n,ob,hn,h1,h2⟩;exact⟨n,hn,by rw[h1,Option.map_some,h2]⟩
 have hllt: ∀b∈lbs,b<w.heap.size:=by
  intro b hb;obtain⟨n,ob,-,h1,rfl⟩:=(hlm b).1 hb;exact hh.fX h1
 have hl0: ∀b∈lbs,E.w0.heap.size<=b:=by
  intro b hb;obtain⟨n,ob,hn,h1,rfl⟩:=(hlm b).1 hb;rcases hst0 n ob h1 with⟨h2,-⟩|h2
  ·have:=E.lo n h2;have:=hlo n hn;omega
  ·exact h2
 obtain⟨pins,hpins⟩: ∃pins:List (Nat×Obj),pins=lbs.filterMap fun b=>(w.heap[b]?).map fun o=>(b,o):=⟨_,rfl⟩
 have hpm: ∀p∈pins,p.1∈lbs/\w.heap[p.1]?=some p.2:=by
  intro p hp;rw[hpins,C6]at hp;obtain⟨b,hb,e⟩:=hp;obtain⟨o,h1,rfl⟩:=dM.1 e;exact⟨hb,h1⟩
 have hpn': ∀b∈lbs,∃o,w.heap[b]?=some o/\(b,o)∈pins:=by
  intro b hb;refine⟨_,w9 (hllt b hb),?_⟩;rw[hpins,C6];exact⟨b,hb,by rw[w9 (hllt b hb)];rfl⟩
 obtain⟨cvs,hgv,hcaps⟩: ∃cvs:List Value,a.eval g= .func (.func gf) #[] cvs.toArray/\bC (PR rd) caps cvs:=by
  have h1:PR rd (.fc gf [] caps) (a.eval g):=by
   rw[hrdef];refine qo ho 9 _ _ _ ((bO hg ⟨htr,htm⟩).mono (C.wE ns)) ?_;rw[(tj (hf:=hget s.h) (hf':=eL (hget s.h) ns) 9 _ fun n hn=>by have hn:=hvn n hn;simp only[eL,hn,aA]).1]
   exact hpv
  generalize a.eval g=u at h1
  cases h1 with
  |fc _ _ _ va vc hla hlc ha hc=>
   have:va=[]:=kD hla.symm;subst this;exact⟨vc,rfl,hlc,hc⟩
 rw[hro];refine wpIn_rangeFunc ?_;intro fn hfn;have hEs:=hwf.size;have hEf:=hwf.fr;obtain⟨rec,hrec⟩: ∃rec:LoopState->Option Code->Loop,rec=fun st pe=>{state:=st,pending:=pe,fn,tmps:=a.tmps,params:=ps,assign:=x,body:=y,defers:=w.heap.size}:=⟨_,rfl⟩
 obtain⟨W1,hW1⟩: ∃W1,(w.alloc (.deferred (some []))).alloc (.loop (rec .ready none))=W1:=⟨_,rfl⟩;have hW1s:W1.heap.size=w.heap.size+2:=by rw[<-hW1];simp
 have hL1:W1.heap[w.heap.size+1]?=some (.loop (rec .ready none)):=by
  rw[<-hW1];have:=World.alloc_heap_new (w.alloc (.deferred (some []))) (.loop (rec .ready none));rwa[World.size_alloc]at this
 have hK1:W1.heap[w.heap.size]?=some (.deferred (some [])):=by
  rw[<-hW1];exact(Below.heap_alloc _ _ _ (by simp)).trans (World.alloc_heap_new w _)
 have hb1:Below w.heap.size w W1:=by
  rw[<-hW1];exact((qC _ w).alloc (aB _) _).alloc (by simp) _
 let En:LoopState->Option Code->Env P:=fun st pe=>⟨E.w0,C.rd,fun b=>(E.wr b/\b∉lbs)/\b≠w.heap.size/\b≠w.heap.size+1,E.nt,E.C0,[],E.lo,E.gl,W1.heap.size,(w.heap.size+1, .loop (rec st pe))::(w.heap.size, .deferred (some []))::(pins++E.pin),some (w.heap.size+1),C.uF ns,by omega,by
  intro p hp;rcases bV.1 hp with rfl|hp
  ·rintro⟨-,-,h⟩;exact h rfl
  ·rcases bV.1 hp with rfl|hp
   ·rintro⟨-,h,-⟩;exact h rfl
   ·rcases iM.1 hp with hp|hp
    ·rintro⟨⟨-,h⟩,-⟩;exact h (hpm p hp).1
    ·rintro⟨⟨h,-⟩,-⟩;exact E.mkw p hp h,E.ln++lbs,by
  intro b hb;rcases iM.1 hb with hb|hb
  ·exact⟨by have:=(E.lnf b hb).1;omega,fun h=>(E.lnf b hb).2 h.1.1⟩
  ·exact⟨by have:=hllt b hb;omega,fun h=>h.1.2 hb⟩⟩
 have hEwr: ∀st pe b,(En st pe).fr<=b->(En st pe).wr b:=by
  intro st pe b hb;have hb:W1.heap.size<=b:=hb;exact⟨⟨hwr b (by omega),fun h=>by have:=hllt b h;omega⟩,by omega,by omega⟩
 have hEpn: ∀st pe,∀p∈(En st pe).pin,p.1<(En st pe).fr:=by
  intro st pe p hp;show p.1<W1.heap.size;rcases bV.1 hp with rfl|hp
  ·show w.heap.size+1< _;omega
  ·rcases bV.1 hp with rfl|hp
   ·show w.heap.size< _;omega
   ·rcases iM.1 hp with hp|hp
    ·have:=hllt _ (hpm p hp).1;omega
    ·have:=hpn p hp;omega
 have hpl: ∀{st pe s1 a1 W},mK (En st pe) s1 a1 W->W.heap[w.heap.size+1]?=some (.loop (rec st pe)):=by
  intro st pe s1 a1 W h;obtain⟨⟨C1,-,-,-,⟨hwf1,-,-⟩,-⟩,-⟩:=h;exact hwf1.pn (w.heap.size+1, .loop (rec st pe)) (tF ..)
 have turn: ∀{st pe} (st' pe') {s1 a1 W},mK (En st pe) s1 a1 W->mK (En st' pe') s1 a1 (W.putObj (w.heap.size+1) (.loop (rec st' pe'))):=by
  intro st pe st' pe' s1 a1 W h;have hl:=hpl h;obtain⟨⟨C1,h1,h2,h3,⟨hwf1,h4⟩,h5⟩,h6⟩:=h;refine⟨⟨C1,h1,h2.putObj _ hl rfl (fun _ _ e=>by cases e),h3,⟨⟨⟨hwf1.wf.os,hwf1.wf.tape,hwf1.wf.output,by simpa using hwf1.wf.size,fun b hb hn=> ?_⟩,?_,?_⟩,⟨h4.1.c0,h4.1.ce⟩,h4.2⟩,h5⟩,h6⟩
  ·have hb:b<E.w0.heap.size:=hb;rw[World.putObj_heap_other (by omega)];exact hwf1.wf.blk b hb hn
  ·show W1.heap.size<= _;rw[World.putObj_size];exact hwf1.fr
  ·intro p hp;rcases bV.1 hp with rfl|hp
   ·exact World.putObj_heap_same (mI.1 hl).1
   ·rw[World.putObj_heap_other]
    ·exact hwf1.pn p (jR _ hp)
    ·rcases bV.1 hp with rfl|hp
     ·show w.heap.size≠ _;omega
     ·rcases iM.1 hp with hp|hp
      ·have:=hllt _ (hpm p hp).1;omega
      ·have:=hpn p hp;omega
 have retmp: ∀{st pe s1 a1 W},mK (En st pe) s1 a1 W->mK (En st pe) {s1 with t:=s.t} {tmps:=a.tmps,defers:=[]} W:=by
  intro st pe s1 a1 W h;obtain⟨⟨C1,h1,h2,h3,h4,h5,h6,h7⟩,h8⟩:=h;exact⟨⟨C1,h1,h2,h3,h4,rfl,hsz,fun k=>((htm k).mono (C.sI ns)).mono h4.2.1.ce⟩,h8⟩
 have pinned: ∀{st pe s1 a1 W},mK (En st pe) s1 a1 W-> ∀b∈lbs,W.heap[b]?=w.heap[b]?:=by
  intro st pe s1 a1 W h b hb;obtain⟨⟨C1,h1,h2,h3,⟨h4,-⟩,h5⟩,h6⟩:=h;obtain⟨o,g1,g2⟩:=hpn' b hb;rw[g1];exact h4.pn (b,o) (jR _ (jR _ (List.mem_append_left _ g2)))
 have keep: ∀{st pe s1 a1 W},mK (En st pe) s1 a1 W-> ∀b o v,rd b o=some v->W.cell? ⟨b,o,none⟩=some v:=by
  intro st pe s1 a1 W h b o v hv;have hpd:=pinned h;obtain⟨⟨C1,h1,h2,h3,h4,h5⟩,h6⟩:=h;rw[hrdef]at hv;unfold cj at hv
  split at hv
  ·rename_i hex;obtain⟨n,ob,g1,g2⟩:=hex;simp only[eL]at g1
   split at g1
   ·rename_i hm;rw[kF (hpd b ((hlm b).2 ⟨n,ob,hm,g1,g2⟩))];exact hv
   ·cases g1
  ·exact h2.rdw _ _ _ (h4.2.1.ce.rd _ _ _ hv)
 have hrest: ∀n ob,fY (hget s.h) (ns.map fun n=>(n,none)) n=some ob->n∉ns/\hget s.h n=some ob:=by
  intro n ob hn;rw[jy]at hn
  split at hn
  ·cases hn
  ·rename_i hm;exact⟨hm,hn⟩
 have hs1:mK (En .ready none) {s with h:=kX s.h (ns.map fun n=>(n,none))} {tmps:=a.tmps,defers:=[]} W1:=by
  have hwW:Wf E.wr E.w0 W1:=hwf.wf.trans (Wf.below hb1);have eh:hget (kX s.h (ns.map fun n=>(n,none)))=fY (hget s.h) (ns.map fun n=>(n,none)):=j9 _ _
  refine⟨⟨C.uF ns,hal,?_,fun _ _=>rfl,⟨⟨⟨hwW.os,hwW.tape,hwW.output,hwW.size,fun b hb hn=> ?_⟩,aB _,?_⟩,⟨hC0.c0.trans (C.sI ns),Cx.Le.refl _⟩,?_⟩,rfl,hsz,fun k=>(htm k).mono (C.sI ns)⟩,?_⟩
  ·have h1:=hh.world (w':=W1) fun b hb=>hb1.block b hb
   show HR (C.uF ns) (hget (kX s.h (ns.map fun n=>(n,none)))) _ W1
   rw[eh];refine h1.uF ns fun n ob hm hn=>⟨⟨h1.wr n ob hn,fun hb=> ?_⟩,by have:=hh.fX hn;omega,by have:=hh.fX hn;omega⟩
   obtain⟨m,oc,g1,g2,g3⟩:=(hlm _).1 hb;exact hm (hh.inj m n oc ob g2 hn g3▸g1)
  ·have hb:b<E.w0.heap.size:=hb;refine hwW.blk b hb fun hw=>hn ⟨⟨hw,fun h=>by have:=hl0 b h;omega⟩,by omega,by omega⟩
  ·intro p hp;rcases bV.1 hp with rfl|hp
   ·exact hL1
   ·rcases bV.1 hp with rfl|hp
    ·exact hK1
    ·rcases iM.1 hp with hp|hp
     ·exact(hb1.block _ (hllt _ (hpm p hp).1)).trans (hpm p hp).2
     ·exact(hb1.block _ (by have:=hpn p hp;omega)).trans (hwf.pn p hp)
  ·intro n ob hn;have hn:hget (kX s.h (ns.map fun n=>(n,none))) n=some ob:=hn
   rw[eh]at hn;exact hst0 n ob (hrest n ob hn).2
  ·intro n hn;rcases hn with hn|hn
   ·exact hN n (.inl hn)
   ·exact(hal n).1 hn
 let Jx:World->Prop:=fun W=> ∃c e s1,XJ c e/\qR ns s Q e s1/\mK (En .done (some c)) s1 {tmps:=a.tmps,defers:=[]} W
 let SemW:List (List PV)->World->Prop:=fun zs=>List.rec (motive:=fun _=>World->Prop) (fun W=>fi=true/\ ∃s1,qR ns s Q .normal s1/\mK (En .ready none) s1 {tmps:=a.tmps,defers:=[]} W)
  (fun z zs ih W=>z.length=ps.toList.length-> ∀vs,bC (PR C.rd) z vs->YieldAt Fence.wide 0 P (w.heap.size+1) vs.toArray W fun e W'=>(e= .returned (.bool true)/\ ∀W'',Below W'.heap.size W' W''->(∀b o v,rd b o=some v->W''.cell? ⟨b,o,none⟩=some v)/\ih W'')\/(e= .returned (.bool false)/\Jx W')) zs
 have hX: ∀W,mK (En .ready none) {s with h:=kX s.h (ns.map fun n=>(n,none))} {tmps:=a.tmps,defers:=[]} W->SemW xs W:=by
  refine hrng (fun zs s1=> ∀W,mK (En .ready none) s1 {tmps:=a.tmps,defers:=[]} W->SemW zs W) (fun s1 hf hq W hW=>⟨hf,s1,hq,hW⟩) ?_ ?_
  ·intro z zs s1 hB W hW hzl vs hvs;have hl:=hpl hW;have hlt:w.heap.size+1<W.heap.size:=(mI.1 hl).1;have hvl:vs.length=z.length:=hvs.1.symm;have hy:=run_yield (P:=P) (args:=vs.toArray) hl (by rw[hrec];simp only[kL];rw[hvl,hzl];simp)
   rw[hrec]at hy;refine⟨fn,_,x,y,hy,roundIn_of_wpIn hfn ?_⟩;obtain⟨⟨C1,k1,k2,k3,k4,k5,k6,k7⟩,k8⟩:=hW;have hcv:bC (PR C1.rd) z vs:=hvs.imp fun p v hp=>hp.mono k4.2.1.ce.rd
   obtain⟨m1,m2⟩:=OA ps.toList z vs s1.t a.tmps (fun p hp=>by rw[hsz];exact hps p hp) hcv k7
   have ef:(ps.zip vs.toArray).foldl (fun tmps (t,a)=>tmps.setIfInBounds t a) a.tmps=(ps.toList.zip vs).foldl (fun t (p:Nat×Value)=>t.setIfInBounds p.1 p.2) a.tmps:=by
    rw[<-Array.foldl_toList,Array.toList_zip]
   have hr0:mK (En .ready none) {s1 with t:=qa s1.t ps.toList z} {tmps:=(ps.toList.zip vs).foldl (fun t (p:Nat×Value)=>t.setIfInBounds p.1 p.2) a.tmps,defers:=[]} W:=
    ⟨⟨C1,k1,k2,k3,k4,rfl,by rw[m2];exact hsz,m1⟩,k8⟩
   simp only[ef];refine wpIn_mono (ihx (En .ready none) rfl (hEwr _ _) (hEpn _ _) hnx _ _ _ _ hB hr0) ?_;rintro e a1 W2 ⟨E2,xx,s2,-,hE2,hxr,hq,hsr⟩;obtain rfl:=hE2 hnx
   cases hxr with
   |exit id=>exact hq.elim
   |ret=>exact hq.elim
   |normal=>
    have hl2:=hpl hsr;refine⟨_,run_beginRound hl2 (by rw[hrec]),?_⟩
    have e1:({rec .ready none with state:= .busy}:Loop)=rec .busy none:=by rw[hrec]
    rw[e1];refine wpIn_mono (ihy (En .busy none) rfl (hEwr _ _) (hEpn _ _) hny _ _ _ _ hq (turn .busy none hsr)) ?_;rintro e a3 W3 ⟨E3,xx,s3,-,hE3,hxr,hq3,hsr3⟩;obtain rfl:=hE3 hny;have hl3:=hpl hsr3;have e2: ∀j:Option Code,({rec .busy none with state:=if j.isNone then .ready else .done,pending:=j}:Loop)=rec (if j.isNone then .ready else .done) j:=by intro j;rw[hrec]
    cases hxr with
    |normal=>
     refine⟨_,_,run_endRound none hl3, .inl ⟨rfl,fun W'' hb''=> ?_⟩⟩
     rw[e2]at hb'';have hfin:=(retmp (turn .ready none hsr3)).below hb'';exact⟨keep hfin,hq3 _ hfin⟩
    |ret=>
     refine⟨_,_,run_endRound (some .ret) hl3, .inr ⟨rfl, .ret, .ret,_, .ret,hq3,?_⟩⟩;rw[e2];exact retmp (turn .done (some .ret) hsr3)
    |exit id=>
     refine⟨_,_,run_endRound (some (.exit id)) hl3, .inr ⟨rfl, .exit id, .exit id,_, .exit id,hq3,?_⟩⟩;rw[e2];exact retmp (turn .done (some (.exit id)) hsr3)
  ·intro zs s1 s2 hn hle hX W hW;refine hX W (hW.weaken hle fun n hn'=> ?_)
   rcases hn' with hn'|hn'
   ·exact ba (hN n (.inl hn')) hn
   ·exact ba ((hal n).1 hn') hn
 have fin: ∀(st:LoopState) (pe:Option Code) (e:Exit) (xx:AX) (s1:AS) (W:World),XR e xx->qR ns s Q xx s1->mK (En st pe) s1 {tmps:=a.tmps,defers:=[]} W->
   pL E (SC.rng g' ps.toList sx' sy').ek Q e {a with defers:=mark w.heap.size::a.defers} (W.putObj (w.heap.size+1) (.loop (rec .exhausted pe))):=by
  intro st pe e xx s1 W hxr hq hsr
  let E2:Env P:=⟨E.w0,E.rd0,fun b=>E.wr b/\b≠w.heap.size/\b≠w.heap.size+1,E.nt,E.C0,mark w.heap.size::E.df,E.lo,E.gl,W1.heap.size,(w.heap.size, .deferred (some []))::E.pin,E.ro,E.Ce,by omega,by
   intro p hp;rcases bV.1 hp with rfl|hp
   ·rintro⟨-,h,-⟩;exact h rfl
   ·rintro⟨h,-,-⟩;exact E.mkw p hp h,E.ln,fun b hb=>⟨by have:=(E.lnf b hb).1;omega,fun h=>(E.lnf b hb).2 h.1⟩⟩
  have hext:Ext E E2:=⟨rfl,rfl,rfl,rfl,rfl,rfl,fun b hb=>hb.1,fun _ b hb=>by
   have:=hEwr st pe b hb;exact⟨this.1.1,this.2⟩,⟨[w.heap.size],rfl,by simp,by
   intro D hD;simp only[ik]at hD;subst hD;exact⟨tF ..,hEf⟩⟩,by show E.fr<=W1.heap.size;omega,fun p hp=>jR _ hp,fun _ p hp=>by
   rcases bV.1 hp with rfl|hp
   ·show w.heap.size<W1.heap.size;omega
   ·show p.1<W1.heap.size;have:=hpn p hp;omega⟩
  have hpd:=pinned (turn (st:=st) (pe:=pe) .exhausted pe hsr);obtain⟨⟨C1,h1,h2,h3,⟨hwf1,h4,h4'⟩,h5,h6,h7⟩,h8⟩:=turn (st:=st) (pe:=pe) .exhausted pe hsr;have hwfE:Tq E2 (W.putObj (w.heap.size+1) (.loop (rec .exhausted pe))):=by
   refine⟨⟨hwf1.wf.os,hwf1.wf.tape,hwf1.wf.output,hwf1.wf.size,fun b hb hn=>hwf1.wf.blk b hb fun h=>hn ⟨h.1.1,h.2⟩⟩,hwf1.fr,fun p hp=> ?_⟩
   rcases bV.1 hp with rfl|hp
   ·exact hwf1.pn _ (jR _ (tF ..))
   ·exact hwf1.pn p (jR _ (jR _ (List.mem_append_right _ hp)))
  have hrd1: ∀b,b<E.w0.heap.size\/b∈E.ln->C1.rd b=E.rd0 b:=fun b hb=>(h3 b (hb.imp id fun h=>List.mem_append_left _ h)).trans (hrd b hb)
  have hC1:C.Le C1:=(C.sI ns).trans h4.ce;have hnm: ∀n,E2.C0.al n\/E2.Ce.al n->n<s1.nx:=by
   intro n hn;rcases hn with hn|hn
   ·exact h8 n (.inl hn)
   ·exact h8 n (.inr (hC0.ce.al n hn))
  unfold qR at hq
  split at hq
  ·refine⟨E2,xx,s1,hext,fun h=>by simp[SC.ek]at h,hxr,hq,?_⟩
   refine⟨⟨C1,h1,⟨h2.rdw,h2.live,h2.dead,h2.sep,h2.inj,fun n ob hn=>⟨(h2.wr n ob hn).1.1,(h2.wr n ob hn).2⟩,h2.obj,h2.typ,h2.mp⟩,hrd1,⟨hwfE,⟨h4.c0,hC0.ce.trans hC1⟩,h4'⟩,?_,hsz,h7⟩,hnm⟩
   show mark w.heap.size::a.defers=mark w.heap.size::E.df;rw[hdf]
  ·obtain⟨hoff,hq⟩:=hq;have hlb:C.Le (C.back C1 (hget s.h) ns):=Cx.Ik hh h4.ce;have eh:hget (kX s1.h (ns.map fun n=>(n,hget s.h n)))=fY (hget s1.h) (ns.map fun n=>(n,hget s.h n)):=j9 _ _
   refine⟨E2,xx,_,hext,fun h=>by simp[SC.ek]at h,hxr,hq,?_⟩
   refine⟨⟨C.back C1 (hget s.h) ns,h1,?_,hrd1,⟨hwfE,⟨hC0.c0.trans hlb,hC0.ce.trans hlb⟩,?_⟩,?_,hsz,fun k=>(htm k).mono hlb⟩,hnm⟩
   ·show HR _ (hget (kX s1.h (ns.map fun n=>(n,hget s.h n)))) _ _
    rw[eh];refine hh.back h4.ce h2 (fun n ob hn c hc=>hoff _ (sF hn) c hc) (fun n ob hm hn=>hpd _ ((hlm _).2 ⟨n,ob,hm,hn,rfl⟩)) (fun n ob hm hn=>h3 _ (.inr (List.mem_append_right _ ((hlm _).2 ⟨n,ob,hm,hn,rfl⟩)))) (fun n ob hm hn h=>h.1.2 ((hlm _).2 ⟨n,ob,hm,hn,rfl⟩)) (fun b hb=>⟨hb.1.1,hb.2⟩) fun n ob hm hn=>⟨hh.wr n ob hn,?_,?_⟩
    ·have:=hh.fX hn;omega
    ·have:=hh.fX hn;omega
   ·intro n ob hn;have hn:hget (kX s1.h (ns.map fun n=>(n,hget s.h n))) n=some ob:=hn
    rw[eh,zO]at hn
    split at hn
    ·rename_i hm;show(E.C0.al n/\(C.back C1 (hget s.h) ns).mu n=E.C0.mu n)\/E.w0.heap.size<=(C.back C1 (hget s.h) ns).mu n;simp only[Cx.back,ah hm];exact hst0 n ob hn
    ·rename_i hm;show(E.C0.al n/\(C.back C1 (hget s.h) ns).mu n=E.C0.mu n)\/E.w0.heap.size<=(C.back C1 (hget s.h) ns).mu n;simp only[Cx.back,af hm];exact h4' n ob hn
   ·show mark w.heap.size::a.defers=mark w.heap.size::E.df;rw[hdf]
 refine⟨w.heap.size+1,[mark w.heap.size],W1,{target:= .fn (.func gf) cvs.toArray,args:= #[.func (.yield (w.heap.size+1)) #[] #[]]},W1,gf,
  #[.func (.yield (w.heap.size+1)) #[] #[]]++cvs.toArray,W1,?_,?_,?_,?_,fun h=>(by cases h),?_⟩
 ·rw[<-hW1,hrec];exact run_enterLoop_outer _ _ _ _ _
 ·simp only[resolve,hgv];simp[go_sem]
 ·intro f' _;exact trivial
 ·simp[invoke,go_sem];exact hent _ _
 ·have hflat: ∀z:List PV,(ns=[]\/ ∀p∈z,p.flat=true)-> ∀vs,bC (PR rd) z vs->bC (PR C.rd) z vs:=by
   intro z hz vs hvs;rcases hz with hz|hz
   ·have e:rd=C.rd:=by
     rw[hrdef]
     funext b o
     unfold cj;rw[af]
     ·rfl
     ·rintro⟨n,ob,h1,-⟩;simp[eL,hz]at h1
    rw[e]at hvs;exact hvs
   ·refine⟨hvs.1,fun j y v hy hv=>(hvs.2 j y v hy hv).Ev (hz y (jb hy))⟩
  have hcall:=hit W1 rd cvs (w.heap.size+1) (fun zs W=>(∀z∈zs,z.length=ps.toList.length/\(ns=[]\/ ∀p∈z,p.flat=true))/\ ∀W',Below W.heap.size W W'->(∀b o v,rd b o=some v->W'.cell? ⟨b,o,none⟩=some v)/\SemW zs W') Jx (fun b o v hv=>hrdle _ _ _ (htr b o v hv)) hcaps
   (fun zs W hJ=>(hJ.2 W (qC _ _)).1) (fun zs W W' hJ hb=>⟨hJ.1,fun W'' hb'=>hJ.2 W'' (hb.trans (hb'.mono hb.size))⟩)
   (fun W W' ⟨c,e,s1,q1,q2,q3⟩ hb=>⟨c,e,s1,q1,q2,q3.below hb⟩)
   (fun z zs vs W hJ hvs=>by
    obtain⟨fn',tm,as,bo,r1,r2⟩:=(hJ.2 W (qC _ _)).2 (hJ.1 z (by simp)).1 vs (hflat z (hJ.1 z (by simp)).2 vs hvs)
    refine⟨fn',tm,as,bo,r1,r2.mono ?_⟩;rintro e W' (⟨h1,h2⟩|h)
    ·exact .inl ⟨h1,fun q hq=>hJ.1 q (by simp[hq]),h2⟩
    ·exact .inr h)
   (fun hfi W hJ=>by have:=(hJ.2 W (qC _ _)).2.1;rw[hfi]at this;cases this)
   ⟨hlen,fun W' hb=>⟨keep (hs1.below hb),hX W' (hs1.below hb)⟩⟩
  refine CallsIn.mono (F:=Fence.wide) hcall ?_;rintro e W2 ⟨⟨v,rfl⟩,(hJ|⟨c,e,s1,q1,q2,q3⟩)⟩
  ·obtain⟨-,s1,q1,q2⟩:=(hJ.2 W2 (qC _ _)).2;have:=run_endLoop (P:=P) (hpl q2) (by rw[hrec];simp)
   have e1:({rec .ready none with state:= .exhausted}:Loop)=rec .exhausted none:=by rw[hrec]
   have e3:(rec .ready none).pending=none:=by rw[hrec]
   rw[e1,e3]at this;refine⟨none,_,this,?_⟩;exact fin _ _ _ _ s1 W2 .normal q1 q2
  ·have:=run_endLoop (P:=P) (hpl q3) (by rw[hrec];simp)
   have e1:({rec .done (some c)with state:= .exhausted}:Loop)=rec .exhausted (some c):=by rw[hrec]
   have e3:(rec .done (some c)).pending=some c:=by rw[hrec]
   rw[e1,e3]at this;refine⟨some c,_,this,?_⟩
   cases q1 with
   |ret=>exact wpIn_ret (fin _ _ _ _ s1 W2 .ret q2 q3)
   |exit id=>exact wpIn_exit (fin _ _ _ _ s1 W2 (.exit id) q2 q3)
theorem HI (hm:P.follows .mixedOrders=true): ∀(c:Code) (sc:SC) (E:Env P),comp P E.nt c=some sc->(∀b,E.fr<=b->E.wr b)->(∀p∈E.pin,p.1<E.fr)->(E.ro=none\/sc.ek=true)-> ∀(Q:AX->AS->Prop) (s:AS) (a:Act) (w:World),aw P sc Q s->mK E s a w->c.wpIn (FR E.ro) 0 P (pL E sc.ek Q) a w:=by
 intro c
 induction c with
 |skip=>
  intro sc E h hwr hpn hro Q s a w ha hs;simp only[comp,ai]at h;subst h;exact wpIn_skip (.same .normal ha hs)
 |region id ops draw=>
  intro sc E h hwr hpn hro Q s a w ha hs;simp only[comp,HU]at h
  split at h
  ·rename_i sops hsops;obtain⟨hlen,hok⟩:=x7 hsops
   cases draw with
   |true=>
    simp only[aA]at h
    split at h
    ·rename_i hcond;simp only[aV]at hcond;simp only[ai]at h;subst h;simp only[aw]at ha;obtain⟨s2,tr,h1,h2,h3,h4⟩:=D4 (sops:=sops) sops 0 s [] _ (fun j=>by simp) ha
     rw[<-Da]at h1;have hl:=Ez h1;rw[wQ]at hl;have hind:=yo hl hcond.2 h3;rw[hlen]at h1 hind;refine FN hm hwr hlen hok hcond.1 (nx:=s.nx) (fun k _=>ES k) h1 hind hs.1 fun a' w' hsr=> .same .normal h4 ?_
     rw[hlen];exact mK.region hs.2 hsr
    ·cases h
   |false=>
    simp only[bQ,ak,ai]at h;subst h;simp only[aw]at ha;obtain⟨s2,tr,h1,h2,h3⟩:=Jw (sops:=sops) sops 0 s _ (fun j=>by simp) ha
    rw[<-Da,hlen]at h1;refine wpIn_region (FM hwr hok (nx:=s.nx) h1 (fun k hk=>fE.1 hk) List.nodup_range (fun k _=>ES k) hs.1 fun a' w' hsr=> .same .normal h3 ?_)
    rw[hlen];refine mK.region hs.2 (hsr.kT fun n=> ?_)
    constructor
    ·rintro(h|⟨k,hk,h⟩)
     ·exact .inl h
     ·exact .inr ⟨k,fE.1 hk,h⟩
    ·rintro(h|⟨k,hk,h⟩)
     ·exact .inl h
     ·exact .inr ⟨k,fE.2 hk,h⟩
  ·cases h
 |seq x y ihx ihy=>
  intro sc E h hwr hpn hro Q s a w ha hs;simp only[comp]at h
  split at h
  ·rename_i sx' sy' hx hy;simp only[ai]at h;subst h;simp only[aw]at ha;have hro1:E.ro=none\/sx'.ek=true:=hro.imp id fun h=>(aV .. ▸h: _/\ _).1
   have hro2:E.ro=none\/sy'.ek=true:=hro.imp id fun h=>(aV .. ▸h: _/\ _).2
   refine wpIn_seq (wpIn_mono (ihx _ E hx hwr hpn hro1 _ s a w ha hs) ?_);rintro e a' w' ⟨E1,x,s',hE,hng,hxr,hq,hsr⟩;have fin: ∀{e x},e≠ .normal->XR e x->Q x s'->pL E (SC.seq sx' sy').ek Q e a' w':=fun _ hxr hq=>⟨E1,_,s',hE,fun h=>hng (aV .. ▸h: _/\ _).1,hxr,hq,hsr⟩
   cases hxr with
   |normal=>
    have hpn1: ∀p∈E1.pin,p.1<E1.fr:=hE.EY hpn;have:=ihy _ E1 (by rw[hE.nt];exact hy) (hE.hwr hwr) hpn1 (by rw[hE.ro];exact hro2) Q s' a' w' hq hsr
    rw[hE.ro]at this;refine wpIn_mono this ?_;rintro e2 a2 w2 ⟨E2,x2,s2,hE2,hng2,hxr2,hq2,hsr2⟩;exact⟨E2,x2,s2,hE.trans hE2 (fun D hD=>hpn1 _ hD),fun h=>(hng2 (aV .. ▸h: _/\ _).2).trans (hng (aV .. ▸h: _/\ _).1),hxr2,hq2,hsr2⟩
   |exit id=>exact fin (by simp) (.exit id) hq
   |ret=>exact fin (by simp) .ret hq
  ·cases h
 |cond c x y ihx ihy=>
  intro sc E h hwr hpn hro Q s a w ha hs;simp only[comp]at h
  split at h
  ·rename_i c' sx' sy' hc hx hy;simp only[ai]at h;subst h;simp only[aw]at ha;have hro1:E.ro=none\/sx'.ek=true:=hro.imp id fun h=>(aV .. ▸h: _/\ _).1
   have hro2:E.ro=none\/sy'.ek=true:=hro.imp id fun h=>(aV .. ▸h: _/\ _).2
   obtain⟨⟨C,hal,hh,hrd,hwf,hdf,hsz,htm⟩,-⟩:=id hs;have hcv:=bO hc ⟨fun b o v hv=>hwf.2.1.rd _ _ _ (E.gl _ _ _ hv),htm⟩
   have wx: ∀Q,aw P sx' Q s->x.wpIn (FR E.ro) 0 P (pL E (SC.cond c' sx' sy').ek Q) a w:=fun Q hq=>wpIn_mono (ihx _ E hx hwr hpn hro1 Q s a w hq hs) fun e a w ⟨E1,y,s1,h1,h2,h3⟩=>⟨E1,y,s1,h1,fun h=>h2 (aV .. ▸h: _/\ _).1,h3⟩
   have wy: ∀Q,aw P sy' Q s->y.wpIn (FR E.ro) 0 P (pL E (SC.cond c' sx' sy').ek Q) a w:=fun Q hq=>wpIn_mono (ihy _ E hy hwr hpn hro2 Q s a w hq hs) fun e a w ⟨E1,y,s1,h1,h2,h3⟩=>⟨E1,y,s1,h1,fun h=>h2 (aV .. ▸h: _/\ _).2,h3⟩
   unfold HV at ha
   split at ha
   ·rename_i b hb;rw[hb]at hcv;exact wpIn_cond_split (yp hcv) (fun e=>wx _ (ha.1 e)) (fun e=>wy _ (ha.2 e))
   ·rename_i hb;rw[hb]at hcv;obtain⟨z,hz⟩: ∃z,a.eval c= .bool z:=by
     generalize a.eval c=u at hcv
     cases hcv with|ub z=>exact⟨z,rfl⟩
    exact wpIn_cond_split hz (fun _=>wx _ ha.1) (fun _=>wy _ ha.2)
   ·exact ha.elim
  ·cases h
 |block id x ih=>
  intro sc E h hwr hpn hro Q s a w ha hs;simp only[comp]at h
  split at h
  ·rename_i sx' hx;simp only[ai]at h;subst h;simp only[aw]at ha;refine wpIn_block (wpIn_mono (ih _ E hx hwr hpn hro _ s a w ha hs) ?_);rintro e a' w' ⟨E1,x,s',hE,hng,hxr,hq,hsr⟩
   cases hxr with
   |normal=>exact⟨E1,_,s',hE,hng, .normal,hq,hsr⟩
   |exit j=>
    simp only[Exit.inBlock];simp only at hq
    split at hq
    ·rename_i e;rw[ah e];exact⟨E1,_,s',hE,hng, .normal,hq,hsr⟩
    ·rename_i e;rw[af e];exact⟨E1,_,s',hE,hng, .exit j,hq,hsr⟩
   |ret=>exact⟨E1,_,s',hE,hng, .ret,hq,hsr⟩
  ·cases h
 |loop x ih=>
  intro sc E h hwr hpn hro Q s a w ha hs;simp only[comp]at h
  split at h
  ·rename_i sx' hx;simp only[ai]at h;subst h;simp only[aw]at ha;intro b k cs hb1 hb2 hb3;have key:=ha (fun s1=> ∀(E1:Env P) (a:Act) (w:World),Ext E E1->(sx'.ek=true->E1=E)->mK E1 s1 a w->
     ∃e a' w',pL E sx'.ek Q e a' w'/\ArrivesIn (Machine.fenced P (FR E.ro)) P (lone (b.atR a (.code x:: .inLoop x::k)) cs w) b k cs e a' w') ?_ ?_
   ·obtain⟨e,a',w',hq,harr⟩:=key E a w (.refl E) (fun _=>rfl) hs
    exact⟨e,a',w',hq, .of_steps (.one (fenced_calm hb2 hb3 rfl) stepR_loop) harr⟩
   ·intro s1 hB E1 a w hE hng hs1;have hpn1: ∀p∈E1.pin,p.1<E1.fr:=hE.EY hpn;have:=ih _ E1 (by rw[hE.nt];exact hx) (hE.hwr hwr) hpn1 (by rw[hE.ro];exact hro) _ s1 a w hB hs1
    rw[hE.ro]at this;obtain⟨e,a₁,w₁,⟨E2,xx,s2,hE2,hng2,hxr,hq,hsr⟩,harr⟩:=this b (.inLoop x::k) cs hb1 hb2 hb3;have hE12:=hE.trans hE2 (fun D hD=>hpn1 _ hD)
    have hng12:sx'.ek=true->E2=E:=fun h=>(hng2 h).trans (hng h)
    cases hxr with
    |normal=>
     obtain⟨e₂,a₂,w₂,hq₂,harr₂⟩:=hq E2 a₁ w₁ hE12 hng12 hsr;exact⟨e₂,a₂,w₂,hq₂, .of_steps (StepsIn.trans harr (.one (fenced_calm (fr:=b.atR a₁ (.inLoop x::k)) hb2 hb3 rfl) stepR_inLoop)) harr₂⟩
    |exit id=>exact⟨_,a₁,w₁,⟨E2,_,s2,hE12,hng12, .exit id,hq,hsr⟩, .pass (x:= .inLoop x) rfl (fun _ _=> .inl (by simp)) harr⟩
    |ret=>exact⟨_,a₁,w₁,⟨E2,_,s2,hE12,hng12, .ret,hq,hsr⟩, .pass (x:= .inLoop x) rfl (fun _ _=> .inl (by simp)) harr⟩
   ·intro s1 s2 hnx hle hX E1 a w hE hng hs2;exact hX E1 a w hE hng (hs2.weaken hle fun n hn=>ba (hs.2 n (by rw[hE.C0,hE.Ce]at hn;exact hn)) hnx)
  ·cases h
 |exit id=>
  intro sc E h hwr hpn hro Q s a w ha hs;simp only[comp,ai]at h;subst h;exact wpIn_exit (.same (.exit id) ha hs)
 |ret=>
  intro sc E h hwr hpn hro Q s a w ha hs;simp only[comp,ai]at h;subst h;exact wpIn_ret (.same .ret ha hs)
 |rangeFunc g ps x y ihx ihy=>
  intro sc E h hwr hpn hro Q s a w ha hs;simp only[comp]at h
  split at h
  ·rename_i g' sx' sy' hg hx hy
   split at h
   ·rename_i hcond;simp only[aV,bJ]at hcond;simp only[ai]at h;subst h;exact V1 (fun E h1 h2 h3 h4=>ihx _ E (h1▸hx) h2 h3 (.inr h4)) (fun E h1 h2 h3 h4=>ihy _ E (h1▸hy) h2 h3 (.inr h4)) hg hcond.1.1 hcond.1.2 (fun p hp=>fk (hcond.2 p hp)) hwr hpn (hro.resolve_right (by simp[SC.ek])) ha hs
   ·cases h
  ·cases h
 |scope x ih=>
  intro sc E h hwr hpn hro Q s a w ha hs;simp only[comp]at h;refine Hu (wpIn_mono (ih sc E h hwr hpn hro Q s a w ha hs) ?_);rintro e a' w' ⟨E1,y,s',hE,hng,hxr,hq⟩
  cases hxr<;>exact⟨E1,_,s',hE,hng,by constructor,hq⟩
 |label l=>
  intro sc E h hwr hpn hro Q s a w ha hs;simp only[comp,ai]at h;subst h;exact wpIn_label (.same .normal ha hs)
 |goto=>intro sc E h;simp[comp]at h
 |refuse=>intro sc E h hwr hpn hro Q s a w ha;simp only[comp,ai]at h;subst h;exact ha.elim
inductive pM where
 |t (n:Nat)
 |c (n:Nat) (ag:Bool) (z:Nat)
def gT (P:Program):List ResultVar->Option (List pM):=
 aU fun
  | .tmp t=>some (.t t)
  | .cell a ty=>match kf P ty,cJ P ty with
   |some ag,some z=>if ag||z==1 then some (.c a ag z)else none
   | _,_=>none
def G9 (s:AS):pM->Option (AV×Prop)
 | .t n=>some (aO s.t n,True)
 | .c n ag z=>match aO s.t n with
  | .p m ver o=>match hget s.h m with
   |some ob=>some (if ag then jv ((ob.cells.drop o).take z)else ob.cells.getD o .u,ob.ver=ver/\o+z<=ob.cells.length)
   |none=>none
  | _=>none
def KS (s:AS):List pM->Option (List PV×Prop)
 |[]=>some ([],True)
 |r::rs=>match G9 s r,KS s rs with
  |some (v,p),some (l,q)=>match view (hget s.h) 9 v with
   |some y=>some (y::l,p/\q)
   |none=>none
  | _,_=>none
def yJ:List PV->PV
 |[y]=>y
 |l=> .tup l
def Jr (rs:List pM) (r:PV) (x:AX) (s:AS):Prop:=
 (match x with
  | .exit _=>False
  | _=>True)/\match KS s rs with
  |some (l,p)=>p/\yJ l=r
  |none=>False
theorem yC {w:World} (h:HR C hf wr w) {ty:TypeId} {ag:Bool} {z:Nat} (hag:kf P ty=some ag) (hz:cJ P ty=some z) (h1:ag=true\/z=1) {n ver o:Nat} {x:Value} (hx:AR C (.p n ver o) x) {ob:aC} (hn:hf n=some ob) (hv:ob.ver=ver) (hl:o+z<=ob.cells.length):
  ∃val,(do loadVar ty (<-asAddr x):Sem Value).run P w= .ok val w/\AR C (if ag then jv ((ob.cells.drop o).take z)else ob.cells.getD o .u) val:=by
 have hm:=Ko hx;have e:=vw hx h hn hv;subst e;obtain⟨vs,hrun,hrel⟩:=pZ (P:=P) h hn hm hl
 cases ag with
 |true=>
  refine⟨.agg vs.toArray,?_, .jv hrel⟩;simp only[asAddr,loadVar,bT,Sem.run_pure,Result.andThen,gi hag,cZ hz,hrun,aA]
 |false=>
  have hz1:z=1:=by simpa using h1
  subst hz1;have hlen':o<ob.cells.length:=by omega
  rw[take_one hlen']at hrel;obtain⟨v,us,rfl,hv1,hnil⟩:=hrel.fO;rw[hnil.dx]at hrun;refine⟨v,?_,by simp only[bQ,ak];rw[mS hlen'];exact hv1⟩
  simp only[asAddr,loadVar,bT,Sem.run_pure,Result.andThen,gi hag,bQ,ak,yD hrun]
theorem Oh {s:AS} {w:World} (h:HR C (hget s.h) wr w) (htm: ∀k,AR C (aO s.t k) (a.tmps.getD k undef)) [∀b,Decidable (∃n ob,hget s.h n=some ob/\C.mu n=b)]: ∀(vs:List ResultVar) (rs:List pM),gT P vs=some rs-> ∀(l:List PV) (p:Prop),KS s rs=some (l,p)->p->
  ∃us:List Value,(vs.mapM (fun
   | .tmp t=>pure (a.tmps.getD t undef)
   | .cell q ty=>do loadVar ty (<-asAddr (a.tmps.getD q undef)):ResultVar->Sem Value)).run P w= .ok us w/\bC (PR (cj C (hget s.h) w)) l us:=by
 intro vs
 induction vs with
 |nil=>
  intro rs hr l p hl hp;simp only[gT,aU,ai]at hr;subst hr;simp only[KS,ai,dJ]at hl;obtain⟨rfl,-⟩:=hl;exact⟨[],by simp, .nil⟩
 |cons v vs ih=>
  intro rs hr l p hl hp;simp only[gT,aU]at hr
  split at hr
  ·rename_i y ys hy hys;simp only[ai]at hr;subst hr;simp only[KS]at hl
   split at hl
   ·rename_i av q l' q' hav hl'
    split at hl
    ·rename_i z hz;simp only[ai,dJ]at hl;obtain⟨rfl,rfl⟩:=hl;obtain⟨us,hus,hrel⟩:=ih ys hys l' q' hl' hp.2;have hone: ∃val,(match v with
       | .tmp t=>pure (a.tmps.getD t undef)
       | .cell q ty=>do loadVar ty (<-asAddr (a.tmps.getD q undef)):Sem Value).run P w= .ok val w/\AR C av val:=by
      cases v with
      |tmp t=>
       simp only[ai]at hy;subst hy;simp only[G9,ai,dJ]at hav;obtain⟨rfl,-⟩:=hav;exact⟨_,rfl,htm t⟩
      |cell qq ty=>
       simp only at hy
       split at hy
       ·rename_i ag zz hag hzz
        split at hy
        ·rename_i hcond;simp only[ai]at hy;subst hy;simp only[G9]at hav;have hq:=htm qq
         split at hav
         ·rename_i m ver o hm;rw[hm]at hq
          split at hav
          ·rename_i ob hob;simp only[ai,dJ]at hav;obtain⟨rfl,rfl⟩:=hav;exact yC h hag hzz (by simpa using hcond) hq hob hp.1.1 hp.1.2
          ·cases hav
         ·cases hav
        ·cases hy
       ·cases hy
     obtain⟨val,hval,har⟩:=hone;refine⟨val::us,?_, .cons (qo h 9 av z val har hz) hrel⟩;rw[xh];simp only[bT,hval,Result.andThen,hus,Sem.run_pure]
    ·cases hl
   ·cases hl
  ·cases hr
theorem shut {w0:World}: ∀(Ds:List Nat) (w:World),HR C hf wr w->Wf wr w0 w->(∀D∈Ds,w.heap[D]?=some (.deferred (some []))/\w0.heap.size<=D)->Ds.Nodup->
  ∃w',HR C hf wr w'/\Wf wr w0 w'/\ ∀(fn:Func) (tmps:Array Value) (R:Ending->World->Prop),LeavesIn Fence.wide 0 P fn tmps R [] .returning w'->LeavesInM Fence.wide 0 P fn tmps R (Ds.map mark) .returning w:=by
 intro Ds
 induction Ds with
 |nil=>intro w h1 h2 _ _;exact⟨w,h1,h2,fun fn tmps R h=>h⟩
 |cons D Ds ih=>
  intro w h1 h2 h3 hn;obtain⟨hD,hD0⟩:=h3 D (by simp)
  obtain⟨hn1,hn2⟩:=tP.1 hn;obtain⟨w',g1,g2,g3⟩:=ih (w.putObj D (.deferred none)) (h1.putObj _ hD rfl (fun _ _ e=>by cases e)) ⟨h2.os,h2.tape,h2.output,by simpa using h2.size,fun b hb hnw=>by rw[World.putObj_heap_other (by omega)];exact h2.blk b hb hnw⟩
   (fun D' hD'=>⟨by rw[World.putObj_heap_other (fun e=>hn1 (by rw[<-e];exact hD'))];exact(h3 D' (by simp[hD'])).1,(h3 D' (by simp[hD'])).2⟩) hn2
  exact⟨w',g1,g2,fun fn tmps R h=>⟨by simp, .inl ⟨D,_,rfl,run_takeDeferred hD,g3 fn tmps R h⟩⟩⟩
theorem qO.NH {f:FuncId} {fn:Func} {code:Code} {sc:SC} {rs:List pM} (hm:P.follows .mixedOrders=true) (hent:Enters P f f) (hfn:P.funcs[f]?=some fn) (hbody:fn.body=some code) (hcomp:comp P fn.ntmps code=some sc) (hres:gT P fn.results.toList=some rs)
  {args:List PV} {r:PV} (hlen:args.length<=fn.ntmps) (h:aw P sc (Jr rs r) ⟨args.mapIdx (fun i x=>(i, .v x)),[],1000⟩):qO P f args r:=by
 refine⟨f,hent,fun w rd vs htr hrd hargs=> ?_⟩
 let E:Env P:=⟨w,rd,fun b=>w.heap.size<=b,fn.ntmps,⟨rd,fun _=>False,fun _=>none,fun _=>0,fun _=>0,fun _=>false⟩,[],fun _ h=>h.elim,htr,w.heap.size,[],none,⟨rd,fun _=>False,fun _=>none,fun _=>0,fun _=>0,fun _=>false⟩,aB _,by simp,[],by simp⟩
 refine callsIn_wide.1 (callsIn_of_wp_marks (F:=Fence.wide) (n:=0) hfn hbody trivial ?_);have hvl:vs.length=args.length:=hargs.1.symm;have hget: ∀(l:List PV) (n k:Nat),aO (l.mapIdx (fun i x=>(i+n,AV.v x))) (k+n)=match l[k]? with|some x=> .v x|none=> .u:=by
  intro l
  induction l with
  |nil=>intro n k;rfl
  |cons x l ih=>
   intro n k;rw[nr];simp only[aO]
   cases k with
   |zero=>simp
   |succ k=>
    rw[af (by omega)]
    have:=ih (n+1) k;rw[show k+1+n=k+(n+1) by omega]
    have e:(l.mapIdx fun i x=>(i+1+n,AV.v x))=l.mapIdx fun i x=>(i+(n+1),AV.v x):=by
     congr 1;funext i x;congr 1;omega
    rw[e,this];rfl
 have hs0:mK E ⟨args.mapIdx (fun i x=>(i, .v x)),[],1000⟩ {tmps:=vs.toArray++Array.replicate (fn.ntmps-vs.toArray.size) undef,defers:=[]} w:=by
  refine⟨⟨⟨rd,fun n=>n<1000,fun _=>none,fun _=>0,fun _=>0,fun _=>false⟩,?_,⟨hrd,?_,fun _ _=>rfl,?_,?_,?_,?_,?_,fun n ob hn=>by simp[Dom.hget]at hn⟩,fun _ _=>rfl,⟨⟨Wf.refl _ _,aB _,by simp[E]⟩,⟨⟨fun _ _ _ h=>h,fun _ h=>h.elim,fun _ h=>h.elim,fun _ h=>h.elim⟩,⟨fun _ _ _ h=>h,fun _ h=>h.elim,fun _ h=>h.elim,fun _ h=>h.elim⟩⟩,fun n ob hn=>by simp[Dom.hget]at hn⟩,rfl,?_,?_⟩,fun n hn=>hn.elim False.elim False.elim⟩
  ·intro n;simp
  ·intro n ob hn;simp[Dom.hget]at hn
  ·intro n ob hn;simp[Dom.hget]at hn
  ·intro n m ob oc hn;simp[Dom.hget]at hn
  ·intro n ob hn;simp[Dom.hget]at hn
  ·intro n ob hn;simp[Dom.hget]at hn
  ·intro n ob hn;simp[Dom.hget]at hn
  ·show(vs.toArray++Array.replicate (fn.ntmps-vs.toArray.size) undef).size=fn.ntmps;simp;omega
  ·intro k;have:=hget args 0 k;simp only[Nat.add_zero]at this;rw[this]
   cases hk:args[k]? with
   |none=>exact .u _
   |some x=>
    obtain⟨v,hv,hxv⟩:=hargs.get hk;have hlt:k<vs.length:=(cv.1 hv).1;refine .v ?_;have e:(vs.toArray++Array.replicate (fn.ntmps-vs.toArray.size) undef).getD k undef=v:=by
     rw[ja,tH (by simpa using hlt)]
     simp[hv]
    show PR rd x ((vs.toArray++Array.replicate (fn.ntmps-vs.toArray.size) undef).getD k undef);rw[e];exact hxv
 refine wpIn_mono (HI hm code sc E hcomp (fun b hb=>hb) (by simp[E]) (.inl rfl) _ _ _ _ h hs0) ?_
 rintro e a' w1 ⟨E',x,s,hE,-,hxr,⟨hx,hq⟩,hsr⟩;obtain⟨⟨C,hal,hh,hrd',⟨hwf,-,-⟩,hdf,hsz,htm⟩,-⟩:=hsr;obtain⟨Ds,hD1,hD2,hD3⟩:=hE.df;obtain⟨w',hh,hwf,hlv⟩:=shut (P:=P) Ds w1 hh hwf.wf (fun D hD=>⟨hwf.pn _ (hD3 D hD).1,by rw[hE.w0];exact(hD3 D hD).2⟩) hD2
 rw[hE.w0]at hwf hrd';rw[hE.rd0]at hrd';have hdf:a'.defers=Ds.map mark:=by rw[hdf,hD1];exact jr _
 split at hq
 ·rename_i l p hl;obtain⟨hp,rfl⟩:=hq;have: ∀b,Decidable (∃n ob,Dom.hget s.h n=some ob/\C.mu n=b):=fun b=>Classical.propDecidable _
  obtain⟨us,hus,hrel⟩:=Oh (P:=P) hh htm fn.results.toList rs hres l p hl hp;have hrun:(results fn a'.tmps).run P w'= .ok (if h:us.length=1 then us[0]else .tuple us.toArray) w':=by
   have key:results fn a'.tmps=(Functor.map List.toArray (fn.results.toList.mapM (fun
     | .tmp t=>pure (a'.tmps.getD t undef)
     | .cell q ty=>do loadVar ty (<-asAddr (a'.tmps.getD q undef)):ResultVar->Sem Value)))>>=fun vs=>pure (if h:vs.size=1 then vs[0]else .tuple vs):=by
    unfold results;rw[wY];rfl
   rw[key];simp only[bT,wV,hus,Result.andThen,Sem.run_pure]
   by_cases h1:us.length=1
   ·simp[h1]
   ·simp[h1]
  have hbelow:Below w.heap.size w w':=⟨hwf.os,hwf.tape,hwf.output,hwf.size,fun k hk=>hwf.blk k hk (fun hw=>by have:w.heap.size<=k:=hE.wr k hw;omega)⟩
  have hle: ∀b o v,cj C (Dom.hget s.h) w' b o=some v->fW rd w w' b o=some v:=by
   intro b o v hv;unfold cj at hv;unfold fW
   by_cases hb:b<w.heap.size
   ·rw[ah hb]
    split at hv
    ·rename_i hex;obtain⟨n,ob,hn,hmu⟩:=hex;have:w.heap.size<=C.mu n:=hE.wr _ (hh.wr n ob hn);omega
    ·rw[hrd' b (.inl hb)]at hv;exact hv
   ·rw[af hb]
    split at hv
    ·exact hv
    ·exact hh.rdw _ _ _ hv
  have hpr:PR (fW rd w w') (yJ l) (if h:us.length=1 then us[0]else .tuple us.toArray):=by
   have hrel':bC (PR (fW rd w w')) l us:=hrel.imp fun x v hx=>hx.mono hle
   unfold yJ;split
   ·rename_i y;obtain⟨v,us',rfl,hv,hnil⟩:=hrel'.fO;rw[hnil.dx];simpa using hv
   ·rename_i hne;have hl1:us.length≠1:=by
     intro h1;have:=hrel'.1;rw[h1]at this;obtain⟨y,rfl⟩:=pj.1 this;exact hne y rfl
    rw[dif_neg hl1];exact .tup l us hrel'.1 hrel'.2
  cases hxr with
  |normal=>simp only[bodyPostM,hdf];exact hlv _ _ _ ⟨_,hrun,_,rfl,hbelow,hpr⟩
  |ret=>simp only[bodyPostM,hdf];exact hlv _ _ _ ⟨_,hrun,_,rfl,hbelow,hpr⟩
  |exit id=>exact hx.elim
 ·exact hq.elim
end
