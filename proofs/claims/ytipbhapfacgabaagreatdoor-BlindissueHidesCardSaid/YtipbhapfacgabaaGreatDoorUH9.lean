/- Part of the proof. -/
import Derived.Test.YtipbhapfacgabaaGreatDoorUH8
set_option linter.all false
namespace Go.Dom
open Go.RowKit
structure Wu (P:Program) [ct P] (nt:Nat) (ops:Array Oper) (o:Oper) (so:jV):Prop where
 op:rm P o=some so.o
 dst:o.dst=so.d
 dlt: ∀d,so.d=some d->d<nt
 gd:o.guard.map (fun p=>(((ops[p.1]?).bind (·.dst)),p.2))=so.g.map fun p=>(some p.1,p.2)
 glt: ∀p,so.g=some p->p.1<nt
section
variable {P:Program} [ct P] {E:Env P} {al:Nat->Prop} {tf:Nat->AV} {hf:Nat->Option aC} {a:Act} {w:World}
variable {K:Act->World->Prop} {Q:Exit->Act->World->Prop} {f:FuncId} {o:Oper} {ro:Option Nat}
theorem Fz {C0 C C':Cx} {base:Nat} {hf':Nat->Option aC} (h: ∀n ob,hf n=some ob->(C0.al n/\C.mu n=C0.mu n)\/base<=C.mu n) (hs:BI base C C' hf hf'): ∀n ob,hf' n=some ob->(C0.al n/\C'.mu n=C0.mu n)\/base<=C'.mu n:=by
 intro n ob hn;rcases hs n ob hn with⟨ob0,h0,hm⟩|hb
 ·rw[hm];exact h n ob0 h0
 ·exact .inr hb
theorem zB {c:Call} (ho:o.op= .call c) {x:Operand} (hc:c.callee= .value x) {g:FuncId} {va vc:List Value} (hx:a.eval x= .func (.func f) va.toArray vc.toArray) (he:Enters P f g):
  (execOp a.eval o).run P w= .ok (.enter g (va++(c.args.toList.map a.eval++vc)).toArray) w:=by
 simp only[execOp,ho,resolve,hc,hx,Deferred.ofValue,bT,Sem.run_pure,Result.andThen,invoke];have:=he (va++(c.args.toList.map a.eval++vc)).toArray w;have e:va.toArray++c.args.map a.eval++vc.toArray=(va++(c.args.toList.map a.eval++vc)).toArray:=fo (by simp)
 rw[e];exact this
theorem bC.app {α:Type} {R:α->Value->Prop} {l m:List α} {vs us:List Value} (h:bC R l vs) (k:bC R m us):bC R (l++m) (vs++us):=by
 refine⟨by simp[h.1,k.1],fun j x v hx hv=> ?_⟩
 by_cases hj:j<l.length
 ·rw[tE hj]at hx;rw[tE (by rw[<-h.1];exact hj)]at hv
  exact h.2 j x v hx hv
 ·rw[DE (by omega)]at hx
  rw[DE (by rw[<-h.1];omega)]at hv
  rw[<-h.1]at hv;exact k.2 _ x v hx hv
theorem qi {C:Cx} {fv:AV} {v:Value} {as avs:List AV} {vs:List Value} (h:Ew fv as=some (f,avs)) (hv:AR C fv v) (hr:bC (AR C) as vs):
  ∃va vc:List Value,v= .func (.func f) va.toArray vc.toArray/\bC (AR C) avs (va++(vs++vc)):=by
 unfold Ew at h
 replace hv:=hv.nz
 generalize fv.nz=fv at hv h
 split at h
 ·simp only[ai,dJ]at h;obtain⟨rfl,rfl⟩:=h
  cases hv with|v hv=>cases hv;exact⟨[],[],rfl,by simpa using hr⟩
 ·simp only[ai,dJ]at h;obtain⟨rfl,rfl⟩:=h
  cases hv with
  |fn f a c va vc hla hlc ha hc=>exact⟨va,vc,rfl,bC.app ⟨hla,ha⟩ (hr.app ⟨hlc,hc⟩)⟩
 ·cases h
theorem uZ {C:Cx} {wr:Nat->Prop} {w:World} (h:HR C hf wr w) [∀b,Decidable (∃n ob,hf n=some ob/\C.mu n=b)] {b o:Nat} {v:Value} (hv:C.rd b o=some v):cj C hf w b o=some v:=by
 unfold cj;split
 ·exact h.rdw _ _ _ hv
 ·exact hv
theorem JR {f:SX} {args:List SX} (h:rm P o=some (.call f args)): ∃c x,o.op= .call c/\c.callee= .value x/\sx P x=some f/\aU (sx P) c.args.toList=some args:=by
 unfold rm at h
 split at h
 case h_20 c ho=>
  unfold x6 at h
  split at h
  ·rename_i x hx;simp only[Option.bind_eq_bind,bu,ai,SO.call.injEq]at h;obtain⟨f',hf',as,has,rfl,rfl⟩:=h;exact⟨c,x,ho,hx,hf',has⟩
  ·exfalso
   split at h
   ·split at h<;>simp[bu]at h
   ·split at h<;>simp[bu]at h
   ·split at h<;>simp[bu]at h
   ·split at h<;>simp[bu]at h
   ·simp[bu]at h
   ·simp[bu]at h
   ·simp[bu]at h
   ·split at h
    ·split at h
     ·simp[bu]at h
     ·cases h
    ·cases h
   ·cases h
  ·cases h
 all_goals exfalso
 all_goals first
  |(simp[bu]at h;done)
  |(split at h<;>simp[bu]at h;done)
  |(split at h<;>first|(simp[bu]at h;done)|(split at h<;>first|(simp[bu]at h;done)|(split at h<;>simp[bu]at h)))
  |cases h
def FR (ro:Option Nat):Fence:={Fence.wide with round:=ro}
theorem Mq {n:Nat} {args:Array Value} {w:World} {R:Ending->World->Prop} (h:Calls P f args w R):CallsIn (FR ro) n P f args w R:=
 (callsIn_wide.2 h:CallsIn Fence.wide n P f args w R)
theorem rQ {args:Array Value} {w1:World} (hnd: ∀c,o.op≠ .defer c) (hrun:(execOp a.eval o).run P w= .ok (.enter f args) w1)
  (h:Calls P f args w1 fun
   | .returned v,w''=>K (a.put o.dst v) w''
   | .panicked chain,w''=>Q (.panic chain) a w''
   | .outgrown,_=>LetsOut Q):o.wpIn (FR ro) 0 P a w K Q:=by
 refine⟨fun _ _=>trivial,?_⟩
 rw[Oper.semAt_eq _ _ _ hnd,hrun,Oper.uponIn_enter];exact⟨fun h=>(by cases h),Mq h⟩
theorem rR {v:Value} {w1:World} (hnd: ∀c,o.op≠ .defer c) (hrun:(execOp a.eval o).run P w= .ok (.value v) w1) (h:K (a.put o.dst v) w1):o.wpIn (FR ro) 0 P a w K Q:=by
 refine⟨fun _ _=>trivial,?_⟩
 rw[Oper.semAt_eq _ _ _ hnd,hrun,Oper.uponIn_value];exact h
theorem OZ {w1:World} (hnd: ∀c,o.op≠ .defer c) (hrun:(execOp a.eval o).run P w= .ok .skip w1) (h:K (a.put o.dst undef) w1):o.wpIn (FR ro) 0 P a w K Q:=by
 refine⟨fun _ _=>trivial,?_⟩
 rw[Oper.semAt_eq _ _ _ hnd,hrun,Oper.uponIn_skip];exact h
theorem FA {nx k:Nat} {ops:Array Oper} {so:jV} {tf':Nat->AV} {hf':Nat->Option aC} {rs ws:List Nat}
  (hok:Wu P E.nt ops o so) (hwr: ∀b,E.fr<=b->E.wr b) (hst:lZ P nx k so tf hf tf' hf' rs ws) (hsr:SR E al tf hf a w) (hnm: ¬al (nx+k))
  (hK: ∀a' w',SR E (fun n=>al n\/n=nx+k) tf' hf' a' w'->K a' w'):
  (if Region.wanted o (yielded ops a.tmps)then o.wpIn (FR E.ro) 0 P a w K Q else(∀f,o.about P w a.eval=some f->(FR E.ro).fn f)/\K (a.put o.dst undef) w):=by
 have hnd: ∀c,o.op≠ .defer c:=fun c hc=>by have:=hok.op;simp[rm,hc]at this
 obtain⟨C,hal,hh,hrd,⟨hwf,hC0,hst0⟩,hdf,hsz,htm⟩:=hsr;have hdlt: ∀d,so.d=some d->d<a.tmps.size:=fun d hd=>by rw[hsz];exact hok.dlt d hd
 have hglt: ∀p,so.g=some p->p.1<a.tmps.size:=fun p hp=>by rw[hsz];exact hok.glt p hp
 rcases hst with⟨hg,rfl,rfl,-,-⟩|⟨hg,ao,hop,rfl,rfl,-,-⟩
 ·have hwant:=SJ hok.gd hglt htm hg;rw[hwant];simp only[bQ,ak];refine⟨fun _ _=>trivial,hK _ _ ⟨C.give (nx+k),?_,hh.give _,hrd,⟨hwf,hC0.trans (C.kG _),hst0⟩,?_,?_,?_⟩⟩
  ·intro n;simp only[Cx.give,hal]
  ·rw[put_defers];exact hdf
  ·rw[mE];exact hsz
  ·rw[hok.dst];refine rF hdlt (mG (C.kG _) htm) ?_;exact .v (.tup [] [] rfl (fun k x v hx=>by simp at hx))
 ·have hwant:=SJ hok.gd hglt htm hg;rw[hwant];simp only[aA];unfold Sv at hop
  split at hop
  ·rename_i f args hso;have hcomp:=hok.op;rw[hso]at hcomp;obtain⟨c,x,ho,hc,hx,has⟩:=JR hcomp;have hcall0:=ho;have htr: ∀b o v,TR P b o=some v->C.rd b o=some v:=fun b o v hv=>hC0.rd _ _ _ (E.gl _ _ _ hv)
   have hfv:=bO hx ⟨htr,htm⟩;have hav:=CP has ⟨htr,htm⟩;have fin: ∀(r:PV) (g:FuncId) (f0:FuncId) (va vc:List Value),a.eval x= .func (.func f0) va.toArray vc.toArray->Enters P f0 g->
     Calls P g (va++(c.args.toList.map a.eval++vc)).toArray w (fun e w'=> ∃v,e= .returned v/\Below w.heap.size w w'/\PR (fW C.rd w w') r v)->
     (∀a' w',SR E (fun n=>al n\/n=nx+k) (oL tf so.d (.v r)) hf a' w'->K a' w')->o.wpIn (FR E.ro) 0 P a w K Q:=by
    intro r g f0 va vc hxe he hcall hK;have hrun:=zB (P:=P) (w:=w) ho hc hxe he;refine rQ hnd hrun ?_;refine hcall.mono ?_;rintro e w' ⟨v,rfl,hb,hpr⟩;refine hK _ _ ⟨C.after w w' (nx+k),?_,hh.after hb _,?_,⟨hwf.trans (Wf.below hb),hC0.trans (Cx.yx hh w' _),hst0⟩,?_,?_,?_⟩
    ·intro n;simp only[Cx.after,hal]
    ·intro b hlt;rw[<-hrd b hlt]
     funext q
     have:b<w.heap.size:=ba (E.EU hlt) hwf.fr;simp[Cx.after,fW,this]
    ·rw[put_defers];exact hdf
    ·rw[mE];exact hsz
    ·rw[hok.dst];exact rF hdlt (mG (Cx.yx hh w' _) htm) (.v hpr)
   cases hop with
   |eff f0 avs hs v up hf0 hhs he=>
    obtain⟨g,hen,hcall⟩:=he;obtain⟨va,vc,hxe,hav⟩:=qi hf0 hfv hav;have hrun:=zB (P:=P) (w:=w) ho hc hxe hen;refine rQ hnd hrun ?_;refine(hcall C hf E.wr w E.fr _ htr hh hwr hwf.fr hhs (fun h=>hnm ((hal _).1 h)) hav).mono ?_
    rintro e w' ⟨val,C',rfl,hv,hh',hle,hal',hwf',hrd',hstay⟩;refine hK _ _ ⟨C',?_,hh',?_,⟨hwf.trans hwf',hC0.trans hle,Fz hst0 (fun n ob hn=>(hstay n ob hn).imp id (fV E.frl))⟩,?_,?_,?_⟩
    ·intro n;rw[hal',hal]
    ·intro b hlt;rw[hrd' b (E.EU hlt)];exact hrd b hlt
    ·rw[put_defers];exact hdf
    ·rw[mE];exact hsz
    ·rw[hok.dst];exact rF hdlt (mG hle htm) hv
   |same f0 v0 hf0 he=>
    obtain⟨va,vc,hxe,hav⟩:=qi hf0 hfv hav;obtain⟨val,us,hvs,hval,hnil⟩:=hav.fO;have hus:=hnil.dx;subst hus;have ea:va.toArray++c.args.map a.eval++vc.toArray= #[val]:=by apply fo;simpa using hvs
    have hrun:(execOp a.eval o).run P w= .ok (.value val) w:=by
     simp only[execOp,ho,resolve,hc,hxe,Deferred.ofValue,bT,Sem.run_pure,Result.andThen,invoke,ea];simpa using he val w
    refine rR hnd hrun ?_;refine hK _ _ ⟨C.give (nx+k),?_,hh.give _,hrd,⟨hwf,hC0.trans (C.kG _),hst0⟩,?_,?_,?_⟩
    ·intro n;simp only[Cx.give,hal]
    ·rw[put_defers];exact hdf
    ·rw[mE];exact hsz
    ·rw[hok.dst];exact rF hdlt (mG (C.kG _) htm) (hval.mono (C.kG _))
   |ext f0 avs pvs r hf0 hargs he=>
    obtain⟨va,vc,hxe,hav⟩:=qi hf0 hfv hav;obtain⟨val,hval,hpr⟩:=he C.rd _ w (N5 hav hargs);have hrun:(execOp a.eval o).run P w= .ok (.value val) w:=by
     simp only[execOp,ho,resolve,hc,hxe,Deferred.ofValue,bT,Sem.run_pure,Result.andThen,invoke];have e:va.toArray++c.args.map a.eval++vc.toArray=(va++(c.args.toList.map a.eval++vc)).toArray:=fo (by simp)
     rw[e];exact hval
    refine rR hnd hrun ?_;refine hK _ _ ⟨C.give (nx+k),?_,hh.give _,hrd,⟨hwf,hC0.trans (C.kG _),hst0⟩,?_,?_,?_⟩
    ·intro n;simp only[Cx.give,hal]
    ·rw[put_defers];exact hdf
    ·rw[mE];exact hsz
    ·rw[hok.dst];exact rF hdlt (mG (C.kG _) htm) (.v hpr)
   |pure f0 avs pvs r hf0 hargs he=>
    obtain⟨g,hen,hcall⟩:=he;obtain⟨va,vc,hxe,hav⟩:=qi hf0 hfv hav;exact fin r g f0 va vc hxe hen (hcall w C.rd _ htr hh.rdw (N5 hav hargs)) hK
   |view f0 avs pvs r hf0 hargs hflat he=>
    obtain⟨g,hen,hcall⟩:=he;obtain⟨va,vc,hxe,hav⟩:=qi hf0 hfv hav;have: ∀b,Decidable (∃n ob,hf n=some ob/\C.mu n=b):=fun b=>Classical.propDecidable _
    have hvr:bC (PR (cj C hf w)) pvs (va++(c.args.toList.map a.eval++vc)):=by
     obtain⟨m1,m2⟩:=cC hargs;refine⟨by rw[<-m1];exact hav.1,fun j y v hy hv=> ?_⟩
     have hj:j<avs.length:=by have:=(cv.1 hy).1;omega
     exact qo hh 9 _ y v (hav.2 j _ v (bG hj) hv) (m2 j _ y (bG hj) hy)
    have hrdw: ∀b o v,cj C hf w b o=some v->w.cell? ⟨b,o,none⟩=some v:=by
     intro b o v hv;unfold cj at hv
     split at hv
     ·exact hv
     ·exact hh.rdw _ _ _ hv
    refine fin r g f0 va vc hxe hen ((hcall w _ _ (fun b o v hv=>uZ hh (htr b o v hv)) hrdw hvr).mono ?_) hK
    rintro e w' ⟨v,rfl,hb,hpr⟩;exact⟨v,rfl,hb,hpr.Ev hflat⟩
   |give f0 avs pvs r hf0 hargs hlo he=>
    obtain⟨g,hen,hcall⟩:=he;obtain⟨va,vc,hxe,hav⟩:=qi hf0 hfv hav;generalize hns:avs.flatMap (aX hf 9)=ns at hlo hK;have: ∀b,Decidable (∃n ob,eL hf ns n=some ob/\(C.only ns).mu n=b):=fun b=>Classical.propDecidable _
    have ho:=hh.only ns;have hvr:bC (PR (cj (C.only ns) (eL hf ns) w)) pvs (va++(c.args.toList.map a.eval++vc)):=by
     obtain⟨m1,m2⟩:=cC hargs;refine⟨by rw[<-m1];exact hav.1,fun j y v hy hv=> ?_⟩
     have hj:j<avs.length:=by have:=(cv.1 hy).1;omega
     refine qo ho 9 _ y v ((hav.2 j _ v (bG hj) hv).mono (C.wE ns)) ?_;rw[(tj (hf:=hf) (hf':=eL hf ns) 9 _ fun n hn=> ?_).1]
     ·exact m2 j _ y (bG hj) hy
     ·have:n∈ns:=by rw[<-hns];exact jS.2 ⟨_,jQ hj,hn⟩
      simp only[eL,this,aA]
    have hrdw: ∀b o v,cj (C.only ns) (eL hf ns) w b o=some v->w.cell? ⟨b,o,none⟩=some v:=by
     intro b o v hv;unfold cj at hv
     split at hv
     ·exact hv
     ·exact hh.rdw _ _ _ hv
    have hrun:=zB (P:=P) (w:=w) hcall0 hc hxe hen;refine rQ hnd hrun ?_;refine(hcall w _ _ (fun b o v hv=>uZ ho (htr b o v hv)) hrdw hvr).mono ?_
    rintro e w' ⟨v,rfl,hb,hpr⟩;obtain⟨gle,gh⟩:=hh.gave hb ns (nx+k);have hrest: ∀n ob,fY hf (ns.map fun n=>(n,none)) n=some ob->hf n=some ob:=by
     intro n ob hn;rw[jy]at hn
     split at hn
     ·cases hn
     ·exact hn
    refine hK _ _ ⟨_,?_,gh,?_,⟨hwf.trans (Wf.below hb),hC0.trans gle,fun n ob hn=>hst0 n ob (hrest n ob hn)⟩,?_,?_,?_⟩
    ·intro n;simp only[Cx.gave,hal]
    ·intro b hlt;rw[<-hrd b hlt]
     funext q
     have h1:b<w.heap.size:=ba (E.EU hlt) hwf.fr;simp only[Cx.gave,fW,h1,aA,cj];split
     ·rename_i hex;obtain⟨m,oc,hmm,hmu⟩:=hex
      exfalso
      simp only[eL]at hmm
      split at hmm
      ·rename_i hmem;have hmu:C.mu m=b:=hmu;rcases hlt with hlt|hlt
       case inr=>exact(E.lnf b hlt).2 (hmu▸hh.wr m oc hmm)
       rcases hst0 m oc hmm with⟨h2,-⟩|h2
       ·have:=E.lo m h2;have:=hlo m hmem;omega
       ·have hmu:C.mu m=b:=hmu;omega
      ·cases hmm
     ·rfl
    ·rw[put_defers];exact hdf
    ·rw[mE];exact hsz
    ·rw[hok.dst];exact rF hdlt (mG gle htm) (.v hpr)
  ·obtain⟨ha,hp⟩:=hop;obtain⟨val,w',C',hrun,hv,hh',hle,hal',hwf',hrd',hstay⟩:=TL hok.op ha hp hh ⟨fun b o v hv=>hC0.rd _ _ _ (E.gl _ _ _ hv),htm⟩ (base:=E.fr) (fun h=>hnm ((hal _).1 h)) hwr hwf.fr
   have goal:K (a.put o.dst val) w':=by
    refine hK _ _ ⟨C',?_,hh',?_,⟨hwf.trans hwf',hC0.trans hle,Fz hst0 (fun n ob hn=>(hstay n ob hn).imp id (fV E.frl))⟩,?_,?_,?_⟩
    ·intro n;rw[hal',hal]
    ·intro b hlt;rw[hrd' b (E.EU hlt)];exact hrd b hlt
    ·rw[put_defers];exact hdf
    ·rw[mE];exact hsz
    ·rw[hok.dst];exact rF hdlt (mG hle htm) hv
   rcases hrun with hrun|⟨hrun,rfl⟩
   ·exact rR hnd hrun goal
   ·exact OZ hnd hrun goal
end
end Go.Dom
namespace Go.Dom
open Go.RowKit
def SX.ts:SX->List Nat
 | .t n=>[n]
 | .c _=>[]
def SX.Sa:Option SX->List Nat
 |none=>[]
 |some x=>x.ts
def SO.ts:SO->List Nat
 | .mov x| .box x| .ld _ _ x| .un _ x| .cvi _ x| .cvs x| .b2s x| .s2b x| .fad _ x| .fld _ _ _ x| .ext x _| .len x| .lenS x| .nck x| .mki _ x| .cvp _ x| .sld x| .clr _ x| .snl _ x=>x.ts
 | .mset _ x k v=>x.ts++k.ts++v.ts
 | .pick c a b=>c.ts++a.ts++b.ts
 | .alloc _ _| .lenA _| .stop| .mkm=>[]
 | .build _ ps=>ps.flatMap fun p=>p.2.2.ts
 | .bsl _ _ ps=>ps.flatMap SX.ts
 | .st _ x y| .bin _ x y| .beq _ x y| .ceq _ _ x y| .mks _ _ x y| .ixs _ x y| .ixa _ _ x y| .ixS x y| .ixV _ _ _ x y| .mm _ x y| .app _ _ _ x y| .cpy _ x y| .peq _ x y| .ust _ x y| .mget _ _ _ x y=>x.ts++y.ts
 | .slS x lo hi=>x.ts++SX.Sa lo++SX.Sa hi
 | .slL _ x lo hi mx=>x.ts++SX.Sa lo++SX.Sa hi++SX.Sa mx
 | .slA _ _ x lo hi mx=>x.ts++SX.Sa lo++SX.Sa hi++SX.Sa mx
 | .call f args=>f.ts++args.flatMap SX.ts
 | .mkf _ a c=>a.flatMap SX.ts++c.flatMap SX.ts
section
variable {P:Program} [ct P] {tf tf':Nat->AV} {hf hf':Nat->Option aC}
variable {nm:Nat}
theorem aM {x:SX} (h: ∀t∈x.ts,tf t=tf' t):x.ev tf=x.ev tf':=by
 cases x with
 |t n=>exact h n (by simp[SX.ts])
 |c v=>rfl
theorem j8 {x:Option SX} (h: ∀t∈SX.Sa x,tf t=tf' t):x.map (SX.ev tf)=x.map (SX.ev tf'):=by
 cases x with
 |none=>rfl
 |some x=>simp only[Option.map_some,aM (x:=x) h]
theorem qh {l:List SX} (h: ∀t∈l.flatMap SX.ts,tf t=tf' t):l.map (SX.ev tf)=l.map (SX.ev tf'):=by
 apply qA;intro x hx;exact aM fun t ht=>h t (jS.2 ⟨x,hx,ht⟩)
theorem TN {o:SO} (h: ∀t∈o.ts,tf t=tf' t):fe nm o tf hf=fe nm o tf' hf:=by
 cases o<;>simp only[SO.ts,iM]at h
 case mov x=>simp only[fe,aM (x:=x) h]
 case box x=>simp only[fe,aM (x:=x) h]
 case ld x=>simp only[fe,aM (x:=x) h]
 case un x=>simp only[fe,aM (x:=x) h]
 case cvi x=>simp only[fe,aM (x:=x) h]
 case cvs x=>simp only[fe,aM (x:=x) h]
 case b2s x=>simp only[fe,aM (x:=x) h]
 case s2b x=>simp only[fe,aM (x:=x) h]
 case fad x=>simp only[fe,aM (x:=x) h]
 case fld x=>simp only[fe,aM (x:=x) h]
 case ext x k=>simp only[fe,aM (x:=x) h]
 case len x=>simp only[fe,aM (x:=x) h]
 case lenS x=>simp only[fe,aM (x:=x) h]
 case nck x=>simp only[fe,aM (x:=x) h]
 case mki x=>simp only[fe,aM (x:=x) h]
 case pick c a b=>simp only[fe,aM (x:=c) fun t ht=>h t (.inl (.inl ht)),aM (x:=a) fun t ht=>h t (.inl (.inr ht)),aM (x:=b) fun t ht=>h t (.inr ht)]
 case alloc=>rfl
 case lenA=>rfl
 case build z ps=>
  have e:(ps.map fun p=>(p.1,p.2.1,p.2.2.ev tf))=ps.map fun p=>(p.1,p.2.1,p.2.2.ev tf'):=by
   apply qA;intro p hp;rw[aM (x:=p.2.2) fun t ht=>h t (jS.2 ⟨p,hp,ht⟩)]
  simp only[fe,e]
 case bsl w z ps=>simp only[fe,qh h]
 case st z x y=>simp only[fe,aM (x:=x) fun t ht=>h t (.inl ht),aM (x:=y) fun t ht=>h t (.inr ht)]
 case bin op x y=>simp only[fe,aM (x:=x) fun t ht=>h t (.inl ht),aM (x:=y) fun t ht=>h t (.inr ht)]
 case beq ng x y=>simp only[fe,aM (x:=x) fun t ht=>h t (.inl ht),aM (x:=y) fun t ht=>h t (.inr ht)]
 case ceq ng ks x y=>simp only[fe,aM (x:=x) fun t ht=>h t (.inl ht),aM (x:=y) fun t ht=>h t (.inr ht)]
 case mks z b x y=>simp only[fe,aM (x:=x) fun t ht=>h t (.inl ht),aM (x:=y) fun t ht=>h t (.inr ht)]
 case ixs z x y=>simp only[fe,aM (x:=x) fun t ht=>h t (.inl ht),aM (x:=y) fun t ht=>h t (.inr ht)]
 case ixa n z x y=>simp only[fe,aM (x:=x) fun t ht=>h t (.inl ht),aM (x:=y) fun t ht=>h t (.inr ht)]
 case ixS x y=>simp only[fe,aM (x:=x) fun t ht=>h t (.inl ht),aM (x:=y) fun t ht=>h t (.inr ht)]
 case ixV ag n z x y=>simp only[fe,aM (x:=x) fun t ht=>h t (.inl ht),aM (x:=y) fun t ht=>h t (.inr ht)]
 case mm mx x y=>simp only[fe,aM (x:=x) fun t ht=>h t (.inl ht),aM (x:=y) fun t ht=>h t (.inr ht)]
 case app e z b x y=>simp only[fe,aM (x:=x) fun t ht=>h t (.inl ht),aM (x:=y) fun t ht=>h t (.inr ht)]
 case peq ng x y=>simp only[fe,aM (x:=x) fun t ht=>h t (.inl ht),aM (x:=y) fun t ht=>h t (.inr ht)]
 case ust e x y=>simp only[fe,aM (x:=x) fun t ht=>h t (.inl ht),aM (x:=y) fun t ht=>h t (.inr ht)]
 case cvp ok x=>simp only[fe,aM (x:=x) h]
 case sld x=>simp only[fe,aM (x:=x) h]
 case clr z x=>simp only[fe,aM (x:=x) h]
 case snl ng x=>simp only[fe,aM (x:=x) h]
 case stop=>rfl
 case mkm=>rfl
 case mget c st z x y=>simp only[fe,aM (x:=x) fun t ht=>h t (.inl ht),aM (x:=y) fun t ht=>h t (.inr ht)]
 case mset st c a b=>simp only[fe,aM (x:=c) fun t ht=>h t (.inl (.inl ht)),aM (x:=a) fun t ht=>h t (.inl (.inr ht)),aM (x:=b) fun t ht=>h t (.inr ht)]
 case cpy z x y=>simp only[fe,aM (x:=x) fun t ht=>h t (.inl ht),aM (x:=y) fun t ht=>h t (.inr ht)]
 case slS x lo hi=>simp only[fe,aM (x:=x) fun t ht=>h t (.inl (.inl ht)),j8 (x:=lo) fun t ht=>h t (.inl (.inr ht)),j8 (x:=hi) fun t ht=>h t (.inr ht)]
 case slL z x lo hi mx=>
  have em:=j8 (x:=mx) (tf:=tf) (tf':=tf') fun t ht=>h t (.inr ht)
  simp only[fe,aM (x:=x) fun t ht=>h t (.inl (.inl (.inl ht))),j8 (x:=lo) fun t ht=>h t (.inl (.inl (.inr ht))),j8 (x:=hi) fun t ht=>h t (.inl (.inr ht))]
  cases mx with
  |none=>
   generalize x.ev tf'=xv
   cases xv with
   |v y=>cases y<;>rfl
   | _=>rfl
  |some m=>
   simp only[Option.map_some,ai]at em;generalize x.ev tf'=xv
   cases xv with
   |v y=>cases y<;>first|rfl|simp only[em]
   | _=>first|rfl|simp only[em]
 case slA n z x lo hi mx=>
  simp only[fe,aM (x:=x) fun t ht=>h t (.inl (.inl (.inl ht))),j8 (x:=lo) fun t ht=>h t (.inl (.inl (.inr ht))),j8 (x:=hi) fun t ht=>h t (.inl (.inr ht))]
 case call f args=>rfl
 case mkf f a c=>
  have e1:=qh (l:=a) (tf:=tf) (tf':=tf') fun t ht=>h t (.inl ht)
  have e2:=qh (l:=c) (tf:=tf) (tf':=tf') fun t ht=>h t (.inr ht)
  simp only[fe,e1,e2]
theorem rM {z:Nat} {y:AV} {ys:List AV} {k:Nat} {p:Prop} {r:List Nat} (hs:qc hf z y=some (ys,k,p,r)) (h: ∀n∈r,hf' n=hf n):qc hf' z y=some (ys,k,p,r):=by
 unfold qc at hs⊢
 split at hs<;>try exact hs
 rename_i n ver o len z'
 cases hn:hf n with
 |none=>simp[hn]at hs
 |some ob=>
  rw[hn]at hs;simp only[ai,dJ]at hs;obtain⟨rfl,rfl,rfl,rfl⟩:=hs;have:hf' n=some ob:=by rw[h n (by simp),hn]
  simp[this]
theorem TK {o:SO} {ao:AO} (ha:fe nm o tf hf=some ao) (h: ∀n∈ao.rs,hf' n=hf n):fe nm o tf hf'=some ao:=by
 cases o<;>simp only[fe]at ha⊢ <;>try exact ha
 case ld ag z x=>
  unfold WZ at ha⊢
  split at ha<;>try exact ha
  rename_i n ver o hx
  cases hn:hf n with
  |none=>simp[hn]at ha
  |some ob=>
   rw[hn]at ha;simp only[ai]at ha;subst ha;have:hf' n=some ob:=by rw[h n (by simp),hn]
   simp[this]
 case clr z x=>
  split at ha<;>try exact ha
  rename_i n ver o len z' hx
  cases hn:hf n with
  |none=>simp[hn]at ha
  |some ob=>
   rw[hn]at ha;simp only[ai]at ha;subst ha;have:hf' n=some ob:=by rw[h n (by simp),hn]
   simp[this]
 case st z x y=>
  split at ha<;>try exact ha
  rename_i n ver o hx
  cases hn:hf n with
  |none=>simp[hn]at ha
  |some ob=>
   rw[hn]at ha;simp only[ai]at ha;subst ha;have:hf' n=some ob:=by rw[h n (by simp),hn]
   simp[this]
 case mget c st z x k=>
  split at ha<;>try exact ha
  rename_i n key hx hk
  cases hn:hf n with
  |none=>simp[hn]at ha
  |some ob=>
   rw[hn]at ha;simp only[ai]at ha;subst ha;have:hf' n=some ob:=by rw[h n (by simp),hn]
   simp[this]
 case mset st x k v=>
  split at ha<;>try exact ha
  rename_i n key val hx hk hv
  cases hn:hf n with
  |none=>simp[hn]at ha
  |some ob=>
   rw[hn]at ha;simp only[ai]at ha;subst ha;have:hf' n=some ob:=by rw[h n (by simp),hn]
   simp[this]
 case b2s x=>
  split at ha<;>try exact ha
  rename_i n ver o len z hx
  cases hn:hf n with
  |none=>simp[hn]at ha
  |some ob=>
   rw[hn]at ha;simp only[ai]at ha;subst ha;have:hf' n=some ob:=by rw[h n (by simp),hn]
   simp[this]
 case slA n z x lo hi mx=>
  split at ha<;>try exact ha
  rename_i m ver o hx
  cases hn:hf m with
  |none=>simp[hn]at ha
  |some ob=>
   rw[hn]at ha
   split at ha
   ·rename_i ob' l hh p e1 e2;injection e1 with e1;subst e1
    simp only[ai]at ha;subst ha;have:hf' m=some ob:=by rw[h m (by simp),hn]
    simp only[this];split
    ·rename_i e3 e4;injection e3 with e3;subst e3;rw[e2]at e4;injection e4 with e4;injection e4 with e4 e5;injection e5 with e5 e6;subst e4;subst e5;subst e6;rfl
    ·rename_i hne;exact aJ e2 (hne _ _ _ _ rfl)
   ·cases ha
 case peq ng x y=>
  unfold LL at ha⊢
  split at ha<;>try exact ha
  rename_i n ver o n' ver' o' h1 h2
  split at ha
  ·rename_i hc;rw[ah hc]
   cases hn:hf n with
   |none=>simp[hn]at ha
   |some ob=>
    rw[hn]at ha;simp only[ai]at ha;subst ha;have:hf' n=some ob:=by rw[h n (by simp),hn]
    simp[this]
  ·cases ha
 case cvp ok x=>
  unfold LK at ha⊢
  split at ha<;>try exact ha
  rename_i n ver o h1
  cases hn:hf n with
  |none=>simp[hn]at ha
  |some ob=>
   rw[hn]at ha;simp only at ha
   split at ha
   ·rename_i T hT;simp only[ai]at ha;subst ha;have:hf' n=some ob:=by rw[h n (by simp),hn]
    simp[this,hT]
   ·cases ha
 case ust e x y=>
  unfold LM at ha⊢
  split at ha<;>try exact ha
  rename_i n ver o len h1 h2
  cases hn:hf n with
  |none=>simp[hn]at ha
  |some ob=>
   rw[hn]at ha;simp only[ai]at ha;subst ha;have:hf' n=some ob:=by rw[h n (by simp),hn]
   simp[this]
 case app e z b x y=>
  split at ha
  ·rename_i ys k p r hs
   split at ha
   ·rename_i hx
    by_cases hk:k=0
    ·rw[ah hk,ai]at ha;subst ha;simp only[rM hs h];simp[hx,hk]
    ·rw[af hk,ai]at ha;subst ha;simp only[rM hs h];simp[hx,hk]
   ·rename_i l hx
    by_cases hk:k=0
    ·rw[ah hk,ai]at ha;subst ha;simp only[rM hs h];simp[hx,hk]
    ·rw[af hk,ai]at ha;subst ha;simp only[rM hs h];simp[hx,hk]
   ·rename_i n ver o len z' hx
    cases hn:hf n with
    |none=>simp[hn]at ha
    |some ob=>
     rw[hn]at ha;simp only[ai]at ha;subst ha;have:hf' n=some ob:=by rw[h n (by simp),hn]
     simp only[rM hs fun m hm=>h m (by simp[hm])];simp[hx,this]
   ·rename_i l hx
    by_cases hk:k=0
    ·rw[ah hk,ai]at ha;subst ha;simp only[rM hs h];simp[hx,hk]
    ·rw[af hk]at ha;cases ha
   ·cases ha
  ·cases ha
 case cpy z x y=>
  split at ha
  ·rename_i ys k p r n ver o len z' hs hx
   cases hn:hf n with
   |none=>simp[hn]at ha
   |some ob=>
    rw[hn]at ha;simp only[ai]at ha;subst ha;have:hf' n=some ob:=by rw[h n (by simp),hn]
    simp only[rM hs fun m hm=>h m (by simp[hm])];simp[hx,this]
  ·cases ha
theorem LN {fv:AV} {as:List AV} {ao:AO} (ha:lB P nm hf fv as ao) (h: ∀n∈ao.rs,hf' n=hf n):lB P nm hf' fv as ao:=by
 cases ha with
 |pure f avs pvs r hfv hargs he=>exact .pure f avs pvs r hfv hargs he
 |view f avs pvs r hfv hargs hr he=>
  have hl: ∀x∈avs,Dom.view hf' 9 x=Dom.view hf 9 x/\aX hf' 9 x=aX hf 9 x:=fun x hx=>tj 9 x fun n hn=>h n (jS.2 ⟨x,hx,hn⟩)
  have:=lB.view (nm:=nm) f avs pvs r hfv (by rw[iH fun x hx=>(hl x hx).1];exact hargs) hr he (hf:=hf')
  rw[eV fun x hx=>(hl x hx).2]at this
  exact this
 |give f avs pvs r hfv hargs hlo he=>
  have hl: ∀x∈avs,Dom.view hf' 9 x=Dom.view hf 9 x/\aX hf' 9 x=aX hf 9 x:=fun x hx=>tj 9 x fun n hn=>h n (jS.2 ⟨x,hx,hn⟩)
  have e2:=eV fun x hx=>(hl x hx).2
  have:=lB.give (nm:=nm) f avs pvs r hfv (by rw[iH fun x hx=>(hl x hx).1];exact hargs) (by rw[e2];exact hlo) he (hf:=hf')
  rw[e2]at this;exact this
 |eff f avs hs v up hfv hhs he=>
  exact .eff f avs hs v up hfv (fun p hp=>by rw[h p.1 (cG.2 ⟨p,hp,rfl⟩)];exact hhs p hp) he
 |same f v hfv he=>exact .same f v hfv he
 |ext f avs pvs r hfv hargs he=>exact .ext f avs pvs r hfv hargs he
theorem Ku {o:SO} {ao:AO} (ht: ∀t∈o.ts,tf t=tf' t) (hr: ∀n∈ao.rs,hf' n=hf n) (h:Sv P nm o tf hf ao):Sv P nm o tf' hf' ao:=by
 unfold Sv at h⊢
 split at h
 ·rename_i f args;simp only[SO.ts,iM]at ht;have e1:=aM (x:=f) (tf:=tf) (tf':=tf') fun t h=>ht t (.inl h)
  have e2:=qh (l:=args) (tf:=tf) (tf':=tf') fun t h=>ht t (.inr h)
  simp only[<-e1,<-e2];exact LN h hr
 ·rename_i hne;obtain⟨h1,h2⟩:=h;have h3:fe nm o tf' hf'=some ao/\ao.pre:=⟨TK (by rw[<-TN ht];exact h1) hr,h2⟩
  cases o<;>first|exact h3|exact aJ rfl (hne _ _)
end
