/- Part of the proof. -/
import Derived.Recover
import Derived.Test.YtipbhapfacgabaaGreatDoorUH15
import Derived.SizedLaws
set_option linter.all false
namespace Go.Dom
open Go.RowKit
section
variable {P:Program} [ct P]
def ur:Code->Code
 | .seq a _=>a
 |c=>c
def Zo:Code->Code
 | .seq _ b=>b
 |c=>c
def Idle (P:Program) (d:Deferred):Prop:= ∃fv cap f args,d.target= .fn fv cap/\ ∀w:World,(invoke d.target d.args).run P w= .ok (.enter f args) w/\CallsD P f args .returning w fun e u' w'=>e= .returned (.tuple #[])/\u'= .returning/\w'=w
theorem stage {E:Env P} (hm:P.follows .mixedOrders=true) (hwr: ∀b,E.fr<=b->E.wr b) (hpn: ∀p∈E.pin,p.1<E.fr) (hro:E.ro=none) {code:Code} {sc:SC} (hc:comp P E.nt code=some sc) (hng:sc.ek=true) {s0 s1:AS} (h:aw P sc (fun e s=>e= .normal/\s1.Le s) s0) (hN: ∀n,E.C0.al n\/E.Ce.al n->n<s1.nx) {a:Act} {w:World} (hs:mK E s0 a w):
  code.wp P (fun e a' w'=>e= .normal/\mK E s1 a' w') a w:=by
 have:=HI hm code sc E hc hwr hpn (.inl hro) _ _ _ _ h hs;rw[hro]at this;refine wp_mono (wpIn_wide.1 this) ?_;rintro e a' w' ⟨E',x,s,-,hE,hxr,⟨rfl,hle⟩,hsr⟩;obtain rfl:=hE hng;cases hxr;exact⟨rfl,hsr.weaken hle hN⟩
def FV:Nat->Code->Code
 |0,c=>c
 |n+1,c=>FV n (Zo c)
def RV:List Code->Code->Code
 |[],k=>k
 |c::r,k=> .seq c (RV r k)
inductive Pre (P:Program) [ct P] (nt:Nat):List Code->AS->AS->Prop
 |nil (s:AS):Pre P nt [] s s
 |cons {c:Code} {sc:SC} {r:List Code} {s s1 s2:AS} (hc:comp P nt c=some sc) (hng:sc.ek=true) (h:aw P sc (fun e s=>e= .normal/\s1.Le s) s) (hr:Pre P nt r s1 s2):Pre P nt (c::r) s s2
theorem Wb {E:Env P} (hm:P.follows .mixedOrders=true) (hwr: ∀b,E.fr<=b->E.wr b) (hpn: ∀p∈E.pin,p.1<E.fr) (hro:E.ro=none) (hN: ∀n,¬(E.C0.al n\/E.Ce.al n)) {l:List Code} {s0 s1:AS} (h:Pre P E.nt l s0 s1) {k:Code} {Q:Exit->Act->World->Prop} (hk: ∀a w,mK E s1 a w->k.wp P Q a w): ∀{a:Act} {w:World},mK E s0 a w->(RV l k).wp P Q a w:=by
 induction h with
 |nil s=>exact fun hs=>hk _ _ hs
 |cons hc hng h hr ih=>
  intro a w hs;refine wp_seq (wp_mono (stage (E:=E) hm hwr hpn hro hc hng h (fun n hn=>(hN n hn).elim) hs) ?_)
  rintro e a1 w1 ⟨rfl,hs1⟩;exact ih hk hs1
theorem qO.NI {f:FuncId} {fn:Func} {pre:List Code} {cD c2:Code} {sc2:SC} {rs:List pM} {sl:Nat} (hm:P.follows .mixedOrders=true) (hent:Enters P f f) (hfn:P.funcs[f]?=some fn) (hbody:fn.body=some (RV pre (.seq cD c2)))
  (hng2:sc2.ek=true) (hc2:comp P fn.ntmps c2=some sc2) (hres:gT P fn.results.toList=some rs)
  (hD: ∀(a:Act) (w:World) (Q:Exit->Act->World->Prop),a.defers=[]->a.tmps.size=fn.ntmps->(∀a' d,a'.tmps.size=fn.ntmps->(∀k,k≠sl->a'.tmps.getD k undef=a.tmps.getD k undef)->a'.defers=[d]->Idle P d->Q .normal a' w)->cD.wp P Q a w)
  {args:List PV} {r:PV} (hlen:args.length<=fn.ntmps) {s2:AS} (hsl:aO s2.t sl= .u)
  (hpre:Pre P fn.ntmps pre ⟨args.mapIdx (fun i x=>(i, .v x)),[],1000⟩ s2) (h2:aw P sc2 (Jr rs r) s2):qO P f args r:=by
 refine⟨f,hent,fun w rd vs htr hrd hargs=> ?_⟩
 let E:Env P:=⟨w,rd,fun b=>w.heap.size<=b,fn.ntmps,⟨rd,fun _=>False,fun _=>none,fun _=>0,fun _=>0,fun _=>false⟩,[],fun _ h=>h.elim,htr,w.heap.size,[],none,⟨rd,fun _=>False,fun _=>none,fun _=>0,fun _=>0,fun _=>false⟩,aB _,by simp,[],by simp⟩
 refine calls_of_wp_defers hfn hbody ?_;have hvl:vs.length=args.length:=hargs.1.symm;have hget: ∀(l:List PV) (n k:Nat),aO (l.mapIdx (fun i x=>(i+n,AV.v x))) (k+n)=match l[k]? with|some x=> .v x|none=> .u:=by
  intro l
  induction l with
  |nil=>intro n k;rfl
  |cons x l ih=>
   intro n k;rw[nr];simp only[aO]
   cases k with
   |zero=>simp
   |succ k=>
    rw[af (by omega)]
    have:=ih (n+1) k;rw[show k+1+n=k+(n+1) by omega]
    have e:(l.mapIdx fun i x=>(i+1+n,AV.v x))=l.mapIdx fun i x=>(i+(n+1),AV.v x):=by
     congr 1;funext i x;congr 1;omega
    rw[e,this];rfl
 have hs0:mK E ⟨args.mapIdx (fun i x=>(i, .v x)),[],1000⟩ {tmps:=vs.toArray++Array.replicate (fn.ntmps-vs.toArray.size) undef,defers:=[]} w:=by
  refine⟨⟨⟨rd,fun n=>n<1000,fun _=>none,fun _=>0,fun _=>0,fun _=>false⟩,?_,⟨hrd,?_,fun _ _=>rfl,?_,?_,?_,?_,?_,fun n ob hn=>by simp[Dom.hget]at hn⟩,fun _ _=>rfl,⟨⟨Wf.refl _ _,aB _,by simp[E]⟩,⟨⟨fun _ _ _ h=>h,fun _ h=>h.elim,fun _ h=>h.elim,fun _ h=>h.elim⟩,⟨fun _ _ _ h=>h,fun _ h=>h.elim,fun _ h=>h.elim,fun _ h=>h.elim⟩⟩,fun n ob hn=>by simp[Dom.hget]at hn⟩,rfl,?_,?_⟩,fun n hn=>hn.elim False.elim False.elim⟩
  ·intro n;simp
  ·intro n ob hn;simp[Dom.hget]at hn
  ·intro n ob hn;simp[Dom.hget]at hn
  ·intro n m ob oc hn;simp[Dom.hget]at hn
  ·intro n ob hn;simp[Dom.hget]at hn
  ·intro n ob hn;simp[Dom.hget]at hn
  ·intro n ob hn;simp[Dom.hget]at hn
  ·show(vs.toArray++Array.replicate (fn.ntmps-vs.toArray.size) undef).size=fn.ntmps;simp;omega
  ·intro k;have:=hget args 0 k;simp only[Nat.add_zero]at this;rw[this]
   cases hk:args[k]? with
   |none=>exact .u _
   |some x=>
    obtain⟨v,hv,hxv⟩:=hargs.get hk;have hlt:k<vs.length:=(cv.1 hv).1;refine .v ?_;have e:(vs.toArray++Array.replicate (fn.ntmps-vs.toArray.size) undef).getD k undef=v:=by
     rw[ja,tH (by simpa using hlt)]
     simp[hv]
    show PR rd x ((vs.toArray++Array.replicate (fn.ntmps-vs.toArray.size) undef).getD k undef);rw[e];exact hxv
 refine Wb (E:=E) hm (fun b hb=>hb) (by simp[E]) rfl (fun n hn=>hn.elim False.elim False.elim) hpre (fun a2 w2 hs2=> ?_) hs0
 refine wp_seq (hD a2 w2 _ hs2.1.choose_spec.2.2.2.2.1 hs2.1.choose_spec.2.2.2.2.2.1 fun a3 d hsz3 hk3 hd3 hid=> ?_)
 let E':Env P:={E with df:=[d]}
 have hs3:mK E' s2 a3 w2:=by
  obtain⟨⟨C,q1,q2,q3,q4,q5,q6,q7⟩,q8⟩:=hs2;refine⟨⟨C,q1,q2,q3,⟨⟨q4.1.wf,q4.1.fr,q4.1.pn⟩,⟨q4.2.1.c0,q4.2.1.ce⟩,q4.2.2⟩,hd3,hsz3,fun k=> ?_⟩,q8⟩
  by_cases hk:k=sl
  ·subst hk;rw[hsl];exact .u _
  ·rw[hk3 k hk];exact q7 k
 refine wp_mono (wpIn_wide.1 (HI hm c2 sc2 E' hc2 (fun b hb=>hb) (by simp[E',E]) (.inl rfl) _ _ _ _ h2 hs3)) ?_
 rintro e a' w' ⟨E2,x,s,-,hE,hxr,⟨hx,hq⟩,hsr⟩;obtain rfl:=hE hng2;obtain⟨⟨C,hal,hh,hrd',⟨hwf,-,-⟩,hdf,hsz,htm⟩,-⟩:=hsr
 split at hq
 ·rename_i l p hl;obtain⟨hp,rfl⟩:=hq;have: ∀b,Decidable (∃n ob,Dom.hget s.h n=some ob/\C.mu n=b):=fun b=>Classical.propDecidable _
  obtain⟨us,hus,hrel⟩:=Oh (P:=P) hh htm fn.results.toList rs hres l p hl hp;have hrun:(results fn a'.tmps).run P w'= .ok (if h:us.length=1 then us[0]else .tuple us.toArray) w':=by
   have key:results fn a'.tmps=(Functor.map List.toArray (fn.results.toList.mapM (fun
     | .tmp t=>pure (a'.tmps.getD t undef)
     | .cell q ty=>do loadVar ty (<-asAddr (a'.tmps.getD q undef)):ResultVar->Sem Value)))>>=fun vs=>pure (if h:vs.size=1 then vs[0]else .tuple vs):=by
    unfold results;rw[wY];rfl
   have hus2:(fn.results.toList.mapM (fun
     | .tmp t=>pure (a'.tmps.getD t undef)
     | .cell q ty=>do loadVar ty (<-asAddr (a'.tmps.getD q undef)):ResultVar->Sem Value)).run P w'= .ok us w':=hus
   rw[key];simp only[bT,wV,hus2,Result.andThen,Sem.run_pure]
   by_cases h1:us.length=1
   ·simp[h1]
   ·simp[h1]
  have hbelow:Below w.heap.size w w':=⟨hwf.wf.os,hwf.wf.tape,hwf.wf.output,hwf.wf.size,fun k hk=>hwf.wf.blk k hk (by show¬(w.heap.size<=k);omega)⟩
  have hle: ∀b o v,cj C (Dom.hget s.h) w' b o=some v->fW rd w w' b o=some v:=by
   intro b o v hv;unfold cj at hv;unfold fW
   by_cases hb:b<w.heap.size
   ·rw[ah hb]
    split at hv
    ·rename_i hex;obtain⟨n,ob,hn,hmu⟩:=hex;have:=hh.wr n ob hn;have:w.heap.size<=C.mu n:=this;omega
    ·rw[hrd' b (.inl hb)]at hv;exact hv
   ·rw[af hb]
    split at hv
    ·exact hv
    ·exact hh.rdw _ _ _ hv
  have hpr:PR (fW rd w w') (yJ l) (if h:us.length=1 then us[0]else .tuple us.toArray):=by
   have hrel':bC (PR (fW rd w w')) l us:=hrel.imp fun x v hx=>hx.mono hle
   unfold yJ;split
   ·rename_i y;obtain⟨v,us',rfl,hv,hnil⟩:=hrel'.fO;rw[hnil.dx];simpa using hv
   ·rename_i hne;have hl1:us.length≠1:=by
     intro h1;have:=hrel'.1;rw[h1]at this;obtain⟨y,rfl⟩:=pj.1 this;exact hne y rfl
    rw[dif_neg hl1];exact .tup l us hrel'.1 hrel'.2
  obtain⟨fv,cap,g,gargs,ht,hinv⟩:=hid;have hdf':a'.defers=[d]:=hdf;have fin:Leaves P fn a'.tmps (fun e w'=> ∃v,e= .returned v/\Below w.heap.size w w'/\PR (fW rd w w') (yJ l) v) a'.defers .returning w':=by
   rw[hdf'];refine⟨by simp,fv,cap,g,gargs,ht,(hinv w').1,(hinv w').2.mono ?_⟩
   rintro e u' w'' ⟨rfl,rfl,rfl⟩;exact⟨_,hrun,_,rfl,hbelow,hpr⟩
  cases hxr with
  |normal=>exact fin
  |ret=>exact fin
  |exit id=>exact hx.elim
 ·exact hq.elim
end
end Go.Dom
namespace Go.Dom
open Go.RowKit
theorem yF {α β:Type} {f:α->Option β}: ∀{l:List α} {r:List β},l.mapM f=some r->l.length=r.length/\ ∀(i:Nat) (x:α) (y:β),l[i]?=some x->r[i]?=some y->f x=some y:=by
 intro l
 induction l with
 |nil=>intro r h;simp at h;subst h;exact⟨rfl,fun i x y hx=>by simp at hx⟩
 |cons a l ih=>
  intro r h;rw[xh]at h;simp only[Option.bind_eq_bind,bu,Option.pure_def,ai]at h;obtain⟨b,hb,bs,hbs,rfl⟩:=h;obtain⟨h1,h2⟩:=ih hbs;refine⟨by simp[h1],fun i x y hx hy=> ?_⟩
  cases i with
  |zero=>simp at hx hy;subst hx;subst hy;exact hb
  |succ i=>exact h2 i x y (by simpa using hx) (by simpa using hy)
def Lv (w:World):Rd:=fun b o=>w.cell? ⟨b,o,none⟩
def Ac (P:Program) (T:TypeId->List PV->Prop):List Field->List PV->Prop
 |[],ps=>ps=[]
 |fl::r,ps=>T fl.type (ps.take (P.cellsOf fl.type))/\Ac P T r (ps.drop (P.cellsOf fl.type))
def nT (P:Program) (t:TypeId):Bool:=
 match P.underlying t with
 |some (.struct _)=>true
 | _=>false
def qP (P:Program):Nat->TypeId->List PV->Prop
 |0,_,_=>False
 |k+1,t,ps=>match P.underlying t with
  |some .bool=> ∃b,ps=[.b b]
  |some (.int q)=> ∃n,ps=[.i q n]/\(Lit.int q n).wf=true
  |some .string=> ∃x,ps=[.s x]/\x.length<=reachBytes
  |some (.slice e)=> ∃l,ps=[.sl l]/\l.length*P.bytesOf e<=reachBytes/\ ∀x∈l,qP P k e x.cells/\(if nT P e then∃m,x= .agg m else x.one=true)
  |some (.struct fs)=>Ac P (qP P k) fs.toList ps
  | _=>False
def FE (P:Program):Nat->List Field->Nat->Bool
 |o,[],n=>o==n
 |o,f::r,n=>(f.offset==o)&&FE P (o+P.cellsOf f.type) r n
def Wx (P:Program):Nat->TypeId->Bool
 |0,_=>false
 |k+1,t=>match P.underlying t with
  |some .bool=>true
  |some (.int _)=>true
  |some .string=>true
  |some (.slice e)=>Wx P k e&&decide (0<P.cellsOf e)&&(nT P e||P.cellsOf e==1)
  |some (.struct fs)=>fs.toList.all (fun f=>Wx P k f.type)&&FE P 0 fs.toList (P.cellsOf t)
  | _=>false
section
variable {H:Type} {enc:TypeId×Value->H} {P:Program} {w:World} {sp:Nat->Bool} {held:Bool}
theorem zP {e:TypeId}: ∀{l:List (DataW H)} {d:DataW H},d∈l-> ∀n∈d.weights P e,n∈DataW.weightsAll P e l:=by
 intro l
 induction l with
 |nil=>intro d hd;cases hd
 |cons x l ih=>
  intro d hd n hn;simp only[DataW.weightsAll,iM];rcases bV.1 hd with rfl|hd
  ·exact .inl hn
  ·exact .inr (ih hd n hn)
theorem AG {a:Addr} {z:Nat} {cs:List Value} (h:w.cells? 0 a z=some cs):cs.length=z/\ ∀(j:Nat) (v:Value),cs[j]?=some v->w.cell? (a.add j)=some v:=by
 unfold World.cells? at h;rw[ah (aT _)]at h;obtain⟨h1,h2⟩:=yF h;have h1':z=cs.length:=by simpa using h1
 refine⟨h1'.symm,fun j v hv=> ?_⟩
 have hj:=(cv.1 hv).1;exact h2 j j v (by rw[tJ (by omega)]) hv
section
variable {n:Nat} {t:TypeId} {cs:List Value} {d:DataW H} {ps:List MemPlace} (h:DataW.trod enc P w 0 sp held (n+1) t cs=some (d,ps))
include h
theorem trod_bool (hu:P.underlying t=some .bool): ∃b,cs=[.bool b]:=by
 simp only[DataW.trod,hu]at h
 split at h<;>first|exact⟨_,rfl⟩|(rename_i he;cases he;done)|(cases h;done)
theorem trod_int {q:IntKind} (hu:P.underlying t=some (.int q)): ∃m,cs=[.int q m]/\(Lit.int q m).wf=true:=by
 simp only[DataW.trod,hu]at h
 split at h
 all_goals first
  |(rename_i he;cases he;done)
  |(cases h;done)
  |(
   rename_i k' q' m he;injection he with he;injection he with he;subst he
   split at h
   ·rename_i hc;obtain⟨rfl,hc⟩:=hc;exact⟨_,rfl,hc⟩
   ·cases h)
theorem trod_string (hu:P.underlying t=some .string): ∃s:ByteArray,cs=[.string s]/\d= .lit (.string s.data.toList):=by
 simp only[DataW.trod,hu]at h
 split at h
 all_goals first
  |(rename_i he;cases he;done)
  |(cases h;done)
  |(
   split at h
   ·injection h with h;injection h with h1 h2;exact⟨_,rfl,h1.symm⟩
   ·cases h)
theorem trod_slice {e:TypeId} (hu:P.underlying t=some (.slice e)):(cs=[.slice none 0 0]/\d= .nil)\/ ∃a len cap elems rest,cs=[.slice (some a) len cap]/\len<=cap/\d= .slice elems rest/\elems.length=len/\
  ∀i,i<len-> ∃ci di pi,w.cells? 0 (a.add (i*P.cellsOf e)) (P.cellsOf e)=some ci/\DataW.trod enc P w 0 sp held n e ci=some (di,pi)/\elems[i]?=some di:=by
 simp only[DataW.trod,hu]at h
 split at h
 all_goals first
  |(rename_i he;cases he;done)
  |(cases h;done)
  |skip
 ·injection h with h;injection h with h1 h2
  exact .inl ⟨rfl,h1.symm⟩
 ·rename_i e' a len cap he;injection he with he;injection he with he;subst he
  split at h
  ·rename_i hc;simp only[bu,dM]at h;obtain⟨elems,he,rest,-,hd⟩:=h;injection hd with hd _
   obtain⟨h1,h2⟩:=yF he;have h1':len=elems.length:=by simpa using h1
   refine .inr ⟨a,len,cap,_,_,rfl,hc.2.1,hd.symm,by simp[h1'],fun i hi=> ?_⟩
   have hx:elems[i]?=some (elems[i]'(by omega)):=bG _
   have:=h2 i i _ (by rw[tJ hi]) hx
   simp only[bu]at this;obtain⟨ci,hci,htr⟩:=this;exact⟨ci,(elems[i]'(by omega)).1,(elems[i]'(by omega)).2,hci,htr,by simp[hx]⟩
  ·cases h
theorem trod_struct {fs:Array Field} (hu:P.underlying t=some (.struct fs)):cs.length=P.cellsOf t/\ ∃xs:List (DataW H×List MemPlace),d= .agg (xs.map (·.1))/\fs.toList.length=xs.length/\
  ∀(i:Nat) (f:Field) (x:DataW H×List MemPlace),fs.toList[i]?=some f->xs[i]?=some x->DataW.trod enc P w 0 sp held n f.type ((cs.drop f.offset).take (P.cellsOf f.type))=some x:=by
 simp only[DataW.trod,hu]at h
 split at h
 all_goals first
  |(rename_i he;cases he;done)
  |(cases h;done)
  |skip
 rename_i hc;simp only[dM]at h;obtain⟨xs,hx,hd⟩:=h;injection hd with hd _
 obtain⟨h1,h2⟩:=yF hx;exact⟨hc,xs,hd.symm,h1,h2⟩
end
theorem wk: ∀{ts:List TypeId} {ds:List (DataW H)} {i:Nat} {t:TypeId} {d:DataW H},ts[i]?=some t->ds[i]?=some d-> ∀n∈d.weights P t,n∈DataW.weightsEach P ts ds:=
 fun ht hd n hn=>DataW.weights_mem_each ht hd n hn
theorem J1 {T:TypeId->List PV->Prop} {cs:List Value} {N:Nat}: ∀(fs:List Field) (o:Nat),FE P o fs N=true->cs.length=N->
  (∀f∈fs,∃pvs,bC (PR (Lv w)) pvs ((cs.drop f.offset).take (P.cellsOf f.type))/\(∀y∈pvs,y.one=true)/\T f.type pvs)->
  ∃pvs,bC (PR (Lv w)) pvs (cs.drop o)/\(∀y∈pvs,y.one=true)/\Ac P T fs pvs/\o<=N:=by
 intro fs
 induction fs with
 |nil=>
  intro o ht hl _;simp only[FE,dZ]at ht;refine⟨[],?_,by simp,rfl,by omega⟩
  rw[jM (by omega)]
  exact .nil
 |cons f fs ih=>
  intro o ht hl hT;simp only[FE,aV,dZ]at ht;obtain⟨ho,ht⟩:=ht;obtain⟨p1,q1,q2,q3⟩:=hT f (by simp)
  obtain⟨p2,r1,r2,r3,r4⟩:=ih _ ht hl fun g hg=>hT g (by simp[hg])
  have hlen:p1.length=P.cellsOf f.type:=by rw[q1.1];simp;omega
  refine⟨p1++p2,?_,?_,?_,by omega⟩
  ·have:=bC.app q1 r1;rw[ho]at this;rw[<-List.drop_drop,tN]at this;exact this
  ·intro y hy;rcases iM.1 hy with hy|hy
   ·exact q2 y hy
   ·exact r2 y hy
  ·refine⟨?_,?_⟩
   ·rw[List.take_append_of_le_length (by omega),dc (by omega)];exact q3
   ·rw[List.drop_append_of_le_length (by omega),jM (by omega),List.nil_append];exact r3
theorem R8: ∀(k n:Nat) (t:TypeId) (cs:List Value) (d:DataW H) (ps:List MemPlace),Wx P k t=true->DataW.trod enc P w 0 sp held n t cs=some (d,ps)->(∀m∈d.weights P t,m<=reachBytes)->
  ∃pvs,bC (PR (Lv w)) pvs cs/\(∀y∈pvs,y.one=true)/\qP P k t pvs:=by
 intro k
 induction k with
 |zero=>intro n t cs d ps h;simp[Wx]at h
 |succ k ih=>
  intro n t cs d ps hok h hw
  cases n with
  |zero=>simp[DataW.trod]at h
  |succ n=>
   simp only[Wx]at hok
   split at hok
   ·rename_i hu;obtain⟨b,rfl⟩:=trod_bool h hu;exact⟨[.b b], .cons (.b b) .nil,by simp[PV.one],by simp only[qP,hu];exact⟨b,rfl⟩⟩
   ·rename_i q hu;obtain⟨m,rfl,hm⟩:=trod_int h hu;exact⟨[.i q m], .cons (.i q m) .nil,by simp[PV.one],by simp only[qP,hu];exact⟨m,rfl,hm⟩⟩
   ·rename_i hu;obtain⟨s,rfl,rfl⟩:=trod_string h hu;have es:s=⟨s.data.toList.toArray⟩:=by cases s;simp
    have hps:PR (Lv w) (.s s.data.toList) (.string s):=by
     conv=>rhs;rw[es]
     exact .s _
    refine⟨[.s s.data.toList], .cons hps .nil,by simp[PV.one],?_⟩
    simp only[qP,hu];exact⟨_,rfl,hw _ (by simp[DataW.weights])⟩
   ·rename_i e hu;simp only[aV,bc]at hok;obtain⟨⟨ok1,ok2⟩,ok3⟩:=hok;rcases trod_slice h hu with⟨rfl,rfl⟩|⟨a,len,cap,elems,rest,rfl,hcap,rfl,hel,hE⟩
    ·refine⟨[.sl []], .cons .sl0 .nil,by simp[PV.one],?_⟩
     simp only[qP,hu];exact⟨[],rfl,by simp,by simp⟩
    ·have hel': ∀i,i<len-> ∃x:PV,∃ci,w.cells? 0 (a.add (i*P.cellsOf e)) (P.cellsOf e)=some ci/\bC (PR (Lv w)) x.cells ci/\(∀y∈x.cells,y.one=true)/\qP P k e x.cells/\(if nT P e then∃m,x= .agg m else x.one=true):=by
      intro i hi;obtain⟨ci,di,pi,g1,g2,g3⟩:=hE i hi;obtain⟨pv,q1,q2,q3⟩:=ih n e ci di pi ok1 g2 fun m hm=>hw m (by
       simp only[DataW.weights,hu,bV,iM];exact .inr (.inl (zP (jb g3) m hm)))
      by_cases hs:nT P e=true
      ·exact⟨.agg pv,ci,g1,q1,q2,q3,by rw[ah hs];exact⟨pv,rfl⟩⟩
      ·have hone:P.cellsOf e=1:=by simpa[hs]using ok3
       have hl1:pv.length=1:=by rw[q1.1,(AG g1).1,hone]
       obtain⟨y,rfl⟩:=pj.1 hl1;have hy:=q2 y (by simp)
       have hyc:y.cells=[y]:=by cases y<;>first|rfl|(simp[PV.one]at hy)
       exact⟨y,ci,g1,by rw[hyc];exact q1,by rw[hyc];exact q2,by rw[hyc];exact q3,by rw[af hs];exact hy⟩
     have hbound:len*P.bytesOf e<=reachBytes:=by
      have:=hw ((elems.length+rest.length)*P.bytesOf e) (by simp[DataW.weights,hu])
      rw[hel,cO]at this;omega
     have build: ∀m,m<=len-> ∃(l:List PV) (vs:List Value),l.length=m/\(∀x∈l,x.cells.length=P.cellsOf e/\(∀y∈x.cells,y.one=true)/\qP P k e x.cells/\(if nT P e then∃m,x= .agg m else x.one=true))/\bC (PR (Lv w)) (l.flatMap PV.cells) vs/\vs.length=m*P.cellsOf e/\ ∀(j:Nat) (v:Value),vs[j]?=some v->w.cell? (a.add j)=some v:=by
      intro m
      induction m with
      |zero=>intro _;exact⟨[],[],rfl,by simp, .nil,by simp,by simp⟩
      |succ m ihm=>
       intro hm;obtain⟨l,vs,b1,b2,b3,b4,b5⟩:=ihm (by omega)
       obtain⟨x,ci,c1,c2,c3,c4,c5⟩:=hel' m (by omega)
       obtain⟨d1,d2⟩:=AG c1;refine⟨l++[x],vs++ci,by simp[b1],?_,?_,?_,?_⟩
       ·intro y hy;rcases iM.1 hy with hy|hy
        ·exact b2 y hy
        ·simp only[ik]at hy;subst hy;exact⟨by rw[c2.1,d1],c3,c4,c5⟩
       ·rw[tS];simpa using bC.app b3 c2
       ·rw[bU,b4,d1,kz]
       ·intro j v hv
        by_cases hj:j<vs.length
        ·rw[tE hj]at hv;exact b5 j v hv
        ·rw[DE (by omega)]at hv
         have:=d2 _ v hv;have e1:(a.add (m*P.cellsOf e)).add (j-vs.length)=a.add j:=by
          rw[b4];simp only[Addr.add]
          by_cases h0:m*P.cellsOf e=0
          ·simp[h0]
          ·by_cases h1:j-m*P.cellsOf e=0
           ·have:j=m*P.cellsOf e:=by omega
            subst this;simp[h0]
           ·have: ¬j=0:=by omega
            simp only[h0,h1,this,ak];congr 1;omega
         rw[e1]at this;exact this
     obtain⟨l,vs,b1,b2,b3,b4,b5⟩:=build len (aB _);refine⟨[.sl l],?_,by simp[PV.one],?_⟩
     ·refine .cons ?_ .nil
      by_cases h0:len=0
      ·subst h0;have:l=[]:=kD b1;subst this;exact .sle a cap
      ·have hpos:0<vs.length:=by rw[b4];exact o7 (by omega) ok2
       have hc0:=b5 0 vs[0] (bG hpos);have ha0:a.add 0=a:=by simp[Addr.add]
       rw[ha0]at hc0;have hspot:a.spot=none:=by
        unfold World.cell? at hc0
        split at hc0
        ·split at hc0
         ·cases hc0
         ·rename_i hh;simpa using hh
        ·cases hc0
       obtain⟨bk,of,spt⟩:=a;simp only at hspot;subst hspot;have:=PR.sl (rd:=Lv w) l (P.cellsOf e) vs bk of cap (by omega) (fun x hx=>(b2 x hx).1) (fun y hy=>by
        obtain⟨x,hx,hy⟩:=jS.1 hy;exact(b2 x hx).2.1 y hy) b3.1 (fun j v hv=>by
        have:=b5 j v hv;simp only[Addr.add]at this
        by_cases hj:j=0
        ·subst hj;simpa[Lv]using this
        ·simpa[Lv,hj]using this) b3.2
       rw[b1]at this;exact this
     ·simp only[qP,hu];exact⟨l,rfl,by rw[b1];exact hbound,fun x hx=>⟨(b2 x hx).2.2.1,(b2 x hx).2.2.2⟩⟩
   ·rename_i fs hu;simp only[aV,bJ]at hok;obtain⟨ok1,ok2⟩:=hok;obtain⟨hl,xs,rfl,hxl,hx⟩:=trod_struct h hu;obtain⟨pvs,q1,q2,q3,-⟩:=J1 (w:=w) (T:=qP P k) fs.toList 0 ok2 hl (fun f hf=>by
     obtain⟨i,hi,rfl⟩:=iv hf;have e1:fs.toList[i]?=some fs.toList[i]:=bG hi;have e2:xs[i]?=some (xs[i]'(by omega)):=bG _
     exact ih n _ _ _ _ (ok1 _ (jQ hi)) (hx i _ _ e1 e2) fun m hm=>hw m (by
      simp only[DataW.weights,hu];exact wk (i:=i) (by rw[gY,e1];rfl) (by rw[gY,e2];rfl) m hm))
    rw[List.drop_zero]at q1;exact⟨pvs,q1,q2,by simp only[qP,hu];exact q3⟩
   ·cases hok
end
