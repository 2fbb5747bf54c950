/-
  Part of the proof, part KC6. Own work.
-/
import Derived.Lib.Builder
import Derived.Lib.UnsafeStr
import Derived.Laws.StructEq
import Derived.Test.YtmobkhegihemeaaGreatDoorKC5
import Derived.MapKept
set_option linter.all false
namespace Go.Dom
open Go.RowKit
section
variable {P:Program} {C:Cx} {hf:Nat→Option ax} {wr:Nat→Prop} {base nm:Nat} {w:World} {tf:Nat→AV}
theorem kW {ng:Bool} {tp te:TypeId} {j:TypeInfo} (ox oy:Operand) (hp:P.underlying tp=some (.pointer te)) (hte:P.info? te=some j) {p q:Option Addr} {r:Bool} (hpq:(p=q∧r=true)∨(p.isSome≠q.isSome∧r=false)) (w:World):
  (do eqGuard (if ng then .neq else .eql) tp ox oy (.pointer p) (.pointer q);binOp (if ng then .neq else .eql) tp (.pointer p) (.pointer q):Sem Value).run P w= .ok (.bool (if ng then !r else r)) w:=by
 have h: ∀d:Nat,(Op.equalIn (d+1) tp (.pointer p) (.pointer q)).run P w= .ok r w:=fun d=>by
  rcases hpq with⟨rfl,rfl⟩|⟨hne,rfl⟩
  ·cases p with
   |none=>simp[Op.equalIn,run_underlying hp]
   |some a=>
    simp only[Op.equalIn,bw,run_underlying hp,Result.andThen,sizeOf,typeInfo,hte];simp[hte,run_sameAddr_same]
  ·cases p<;>cases q<;>simp_all[Op.equalIn,run_underlying hp]
 have h':(Op.equal tp (.pointer p) (.pointer q)).run P w= .ok r w:=h 9999
 cases ng<;>simp[eqGuard,binOp,h']
theorem js {ng:Bool} {t e:TypeId} (ox oy:Operand) (hp:P.underlying t=some (.slice e)) (q:Option Addr) (l c:Nat) (w:World):
  (do eqGuard (if ng then .neq else .eql) t ox oy (.slice q l c) (.slice none 0 0);binOp (if ng then .neq else .eql) t (.slice q l c) (.slice none 0 0):Sem Value).run P w= .ok (.bool (if ng then !q.isNone else q.isNone)) w:=by
 have h: ∀d:Nat,(Op.equalIn (d+1) t (.slice q l c) (.slice none 0 0)).run P w= .ok q.isNone w:=fun d=>by
  cases q<;>simp[Op.equalIn,run_underlying hp]
 have h':(Op.equal t (.slice q l c) (.slice none 0 0)).run P w= .ok q.isNone w:=h 9999
 cases ng<;>simp[eqGuard,binOp,h']
theorem Kq (h:HR C hf wr w) {ng:Bool} {t e:TypeId} (ox oy:Operand) (hp:P.underlying t=some (.slice e)) {x:Value} {sx':SX} (hx:AR C (sx'.ev tf) x) {ao:AO} (ha:dU nm (.snl ng sx') tf hf=some ao):
  dr P C hf wr base nm (vS (do eqGuard (if ng then .neq else .eql) t ox oy x (.slice none 0 0);binOp (if ng then .neq else .eql) t x (.slice none 0 0))) w ao.v ao.up:=by
 simp only[dU]at ha;generalize sx'.ev tf=vx at hx ha
 split at ha
 ·simp only[cv,af]at ha;subst ha
  cases hx with|v hx=>cases hx<;>exact .val h (js ox oy hp _ _ _ w) (.ub _)
 ·simp only[cv,af]at ha;subst ha
  cases hx with|v hx=>cases hx;exact .val h (js ox oy hp _ _ _ w) (by cases ng<;>exact .v (.b _))
 ·simp only[cv,af]at ha;subst ha
  cases hx;exact .val h (js ox oy hp _ _ _ w) (by cases ng<;>exact .v (.b _))
 ·simp only[cv,af]at ha;subst ha
  cases hx;exact .val h (js ox oy hp _ _ _ w) (.ub _)
 ·simp only[cv,af]at ha;subst ha
  cases hx with|fs _ _ hx=>cases hx;exact .val h (js ox oy hp _ _ _ w) (by cases ng<;>exact .v (.b _))
 ·simp only[cv,af]at ha;subst ha
  cases hx;exact .val h (js ox oy hp _ _ _ w) (by cases ng<;>exact .v (.b _))
 ·cases ha
theorem Kp (h:HR C hf wr w) {ng:Bool} {tp te:TypeId} {j:TypeInfo} (ox oy:Operand) (hp:P.underlying tp=some (.pointer te)) (hte:P.info? te=some j) {x y:Value} {vx vy:AV} (hx:AR C vx x) (hy:AR C vy y) {ao:AO} (ha:Ir hf ng vx vy=some ao) (hpre:ao.pre):
  dr P C hf wr base nm (vS (do eqGuard (if ng then .neq else .eql) tp ox oy x y;binOp (if ng then .neq else .eql) tp x y)) w ao.v ao.up:=by
 unfold Ir at ha
 replace hx:=hx.nz
 generalize vx.nz=vx at hx ha
 split at ha
 ·simp only[cv,af]at ha;subst ha
  cases hx with|v hx=>cases hx;cases hy with|v hy=>cases hy;exact .val h (kW ox oy hp hte (r:=true) (.inl ⟨rfl,rfl⟩) w) (by cases ng<;>exact .v (.b _))
 ·simp only[cv,af]at ha;subst ha
  cases hx;cases hy with|v hy=>cases hy;exact .val h (kW ox oy hp hte (r:=false) (.inr ⟨by simp,rfl⟩) w) (by cases ng<;>exact .v (.b _))
 ·simp only[cv,af]at ha;subst ha
  cases hy;cases hx with|v hx=>cases hx;exact .val h (kW ox oy hp hte (r:=false) (.inr ⟨by simp,rfl⟩) w) (by cases ng<;>exact .v (.b _))
 ·simp only[cv,af]at ha;subst ha
  cases hx;cases hy with|v hy=>cases hy;exact .val h (kW ox oy hp hte (r:=false) (.inr ⟨by simp,rfl⟩) w) (by cases ng<;>exact .v (.b _))
 ·split at ha
  ·rename_i hc;obtain⟨rfl,rfl,rfl⟩:=hc
   split at ha
   ·rename_i ob hn;simp only[af]at ha;subst ha;rw[sV hx h hn hpre,sV hy h hn hpre];exact .val h (kW ox oy hp hte (r:=true) (.inl ⟨rfl,rfl⟩) w) (by cases ng<;>exact .v (.b _))
   ·cases ha
  ·cases ha
 ·cases ha
theorem yR {t:TypeId} {k:Nat} (hk:BR P t k=true) {vs:List Value} {q:Nat} {v:Value} (hv:vs[q]?=some v) (w:World):(part t vs.toArray q).run P w= .ok v w:=by
 have h:(isAgg t).run P w= .ok false w:=by
  refine fC ?_ w;unfold BR at hk;unfold kf
  cases hu:P.underlying t with
  |none=>rw[hu]at hk;cases hk
  |some d=>rw[hu]at hk;cases d<;>first|rfl|cases hk
 simp only[part,bw,h,Result.andThen,aW,if_false];simp[hv]
theorem qK {rd:Rd} (d:Nat): ∀(fs:List Field) (ks:List Nat) (q:Nat) (l m:List PV) (vs us:List Value) (r:Bool),MI P q fs ks=true→LJ ks l m=some r→
  (∀(k:Nat) (x:PV),l[k]?=some x→ ∃v,vs[q+k]?=some v∧PR rd x v)→(∀(k:Nat) (x:PV),m[k]?=some x→ ∃v,us[q+k]?=some v∧PR rd x v)→ ∀w:World,
  (Op.eqFields (d+1) vs.toArray us.toArray fs).run P w= .ok r w
 |[],ks,q,l,m,vs,us,r,hf,hc,_,_,w=>by
  cases ks with
  |cons=>cases hf
  |nil=>
   cases l<;>cases m<;>simp[LJ]at hc
   subst hc;simp[Op.eqFields]
 |f::fs,[],q,l,m,vs,us,r,hf,hc,_,_,w=>by cases hf
 |f::fs,k::ks,q,l,m,vs,us,r,hf,hc,hl,hm,w=>by
  simp only[MI,aZ,beq_iff_eq,bne_iff_ne,ne_eq]at hf;obtain⟨⟨⟨h1,h2⟩,h3⟩,h4⟩:=hf;have key: ∀(x y:PV) (l' m':List PV) (e r':Bool),l=x::l'→m=y::m'→LJ ks l' m'=some r'→r=(e&&r')→
    (∀v u,PR rd x v→PR rd y u→(Op.equalIn (d+1) f.type v u).run P w= .ok e w)→(Op.eqFields (d+1) vs.toArray us.toArray (f::fs)).run P w= .ok r w:=by
   intro x y l' m' e r' e1 e2 hr' er hx;subst e1;subst e2;subst er;obtain⟨v,hv,hxv⟩:=hl 0 x rfl;obtain⟨u,hu,hyu⟩:=hm 0 y rfl;rw[Nat.add_zero]at hv hu;have ih:=qK d fs ks (q+1) l' m' vs us r' h4 hr'
    (fun k z hz=>by have:=hl (k+1) z (by simpa using hz);simpa[iU,fP 1 k]using this)
    (fun k z hz=>by have:=hm (k+1) z (by simpa using hz);simpa[iU,fP 1 k]using this) w
   simp only[Op.eqFields,ne_eq,h1,not_false_eq_true,if_true,bw,h2,yR h3 hv,yR h3 hu,Result.andThen,hx v u hxv hyu];cases e
   ·simp
   ·simpa using ih
  unfold LJ at hc
  split at hc
  ·cases‹_:: _=[]›
  ·rename_i a l' b m' e;injection e with e0 e1;subst e0;subst e1
   cases hr:LJ ks l' m' with
   |none=>rw[hr]at hc;cases hc
   |some r'=>
    rw[hr]at hc;simp only[Option.map_some,af]at hc;refine key _ _ l' m' (a==b) r' rfl rfl hr hc.symm fun v u hv hu=> ?_
    cases hv;cases hu
    unfold BR at h3
    split at h3<;>first|(cases h3;done)|skip
    rename_i hb;exact run_equalIn_bool d hb _ _ w
  ·rename_i a l' b m' e;injection e with e0 e1;subst e0;subst e1
   cases hr:LJ ks l' m' with
   |none=>rw[hr]at hc;cases hc
   |some r'=>
    rw[hr]at hc;simp only[Option.map_some,af]at hc;refine key _ _ l' m' (a==b) r' rfl rfl hr hc.symm fun v u hv hu=> ?_
    cases hv;cases hu
    unfold BR at h3
    split at h3<;>first|(cases h3;done)|skip
    rename_i hb;have:=run_equalIn_string (P:=P) w d f.type ⟨a.toArray⟩ ⟨b.toArray⟩ hb;simpa[ByteArray.toList_eq]using this
  ·cases hc
theorem Kn (h:HR C hf wr w) {ng:Bool} {t:TypeId} {fs:Array Field} (ox oy:Operand) (hu:P.underlying t=some (.struct fs)) {ks:List Nat} (hk:QS P t ks=true) {x y:Value} {l m:List PV} {r:Bool} (hr:LJ ks l m=some r) (hx:AR C (.v (.agg l)) x) (hy:AR C (.v (.agg m)) y):
  dr P C hf wr base nm (vS (do eqGuard (if ng then .neq else .eql) t ox oy x y;binOp (if ng then .neq else .eql) t x y)) w (.v (.b (if ng then !r else r))) []:=by
 cases hx with|v hx=>cases hx with|agg _ vs a1 a2 a3=>
 cases hy with|v hy=>cases hy with|agg _ us b1 b2 b3=>
 have hfo:P.fieldsOf t=fs:=by simp[Program.fieldsOf,hu]
 simp only[QS,hu,aZ,fF]at hk;obtain⟨⟨k1,k2⟩,k3⟩:=hk;have g:(Op.equalIn 10000 t (.agg vs.toArray) (.agg us.toArray)).run P w= .ok r w:=by
  rw[run_equalIn_struct (P:=P) w 9999 t _ _ (by rw[hfo];exact hu) k2,hfo]
  refine qK (rd:=C.rd) 9998 fs.toList ks 0 l m vs us r k1 hr (fun k x hx=> ?_) (fun k x hx=> ?_) w
  ·obtain⟨hk,_⟩:=bO.1 hx;rw[cW];exact⟨vs[k]'(by omega),by simp[show k<vs.length by omega],a3 k x _ hx (by simp[show k<vs.length by omega])⟩
  ·obtain⟨hk,_⟩:=bO.1 hx;rw[cW];exact⟨us[k]'(by omega),by simp[show k<us.length by omega],b3 k x _ hx (by simp[show k<us.length by omega])⟩
 refine .val h (val:= .bool (if ng then !r else r)) ?_ (.v (.b _))
 cases ng
 ·simp only[aW,if_false,bw,run_eqGuard_agg w .eql t ox oy _ _ k3,Result.andThen,run_eql_struct,g]
 ·simp only[if_true,bw,run_eqGuard_agg w .neq t ox oy _ _ k3,Result.andThen,run_neq_struct,g]
theorem Ko (h:HR C hf wr w) {s d:TypeId} {ok:TypeId→Nat→Nat→Bool} {x:Value} {vx:AV} (hx:AR C vx x)
  (hrun: ∀(b o T n:Nat),w.shape? b=some (T,n)→o<n→ok T n o=true→(convert s d (.pointer (some ⟨b,o,none⟩))).run P w= .ok (.pointer (some ⟨b,o,none⟩)) w)
  {ao:AO} (ha:Iq hf ok vx=some ao) (hpre:ao.pre):dr P C hf wr base nm (vS (convert s d x)) w ao.v ao.up:=by
 unfold Iq at ha
 split at ha
 ·rename_i n ver o
  split at ha
  ·rename_i ob hn
   split at ha
   ·rename_i T hT;simp only[af]at ha;subst ha;obtain⟨p1,p2,p3,p4⟩:=hpre;have hm:=Hl hx;obtain⟨cs,el,g1,g2,g3,g4,g5⟩:=h.obj n ob hn hm;obtain⟨cs',g6⟩:=h.typ n ob hn hm T hT;rw[g1]at g6;injection g6 with g6;injection g6 with e1 e2 e3
    subst e1;subst e2;have hv:=sV hx h hn p1;subst hv;exact .val h (hrun (C.mu n) o el cs.size (by simp[World.shape?,g1]) (by rw[←g4 p3];exact p2) (by rw[←g4 p3];exact p4)) hx
   ·cases ha
  ·cases ha
 ·cases ha
theorem RR (h:HR C hf wr w) {ts:Array TypeId} {ty:TypeId} {x:Value} {vx:AV} (hx:AR C vx x) {ao:AO} (ha:Me vx=some ao) (hpre:ao.pre):
  dr P C hf wr base nm (vS (Builtin.unsafeSliceData_ ts ty #[x])) w ao.v ao.up:=by
 unfold Me at ha
 split at ha
 ·simp only[cv,af]at ha;subst ha;cases hx;exact .val h (Lib.run_unsafeSliceData_nil w ts ty 0 0) (.v .p0)
 ·rename_i n ver o len z;simp only[cR,af]at ha;subst ha
  cases hx with
  |rs _ _ _ _ _ b o' cap hal hm hcap ho hx=>
   have hpre:0<len:=hpre;have hc:cap≠0:=by omega
   have ho':o'=o:=by rcases ho with ho|ho;exact absurd ho hc;exact ho
   subst ho';exact .val h (Lib.run_unsafeSliceData_row w ts ty ⟨b,o',none⟩ len cap hc) (.p n ver o' b hal hm fun c hc=>⟨(hx c hc).1,fun e=>((hx c hc).2 e).1⟩)
 ·cases ha
theorem G9 {x:AV} {v:Value} (h:AR C x v) (hb:x= .v (u8 x.byte)):v= .int .u8 x.byte.toNat:=by
 rw[hb]at h
 cases h with|v h=>cases h;rfl
def Cx.kill (C:Cx) (nm n:Nat):Cx:={C with al:=fun k=>C.al k∨k=nm,cur:=fun k=>if k=n then none else C.cur k}
theorem Cx.Fu (C:Cx) (nm n:Nat):C.Le (C.kill nm n):=by
 refine⟨fun _ _ _ h=>h,fun _ h=> .inl h,fun k _ d hd=> ?_,fun _ _=>⟨rfl,fun _=>rfl⟩⟩
 by_cases e:k=n
 ·simp[Cx.kill,e]at hd
 ·simp only[Cx.kill,e,if_false]at hd;exact⟨d,hd,au _,fun _=>⟨rfl,rfl⟩⟩
theorem HR.kill (h:HR C hf wr w) (nm:Nat) {n:Nat} {ob:ax} (hn:hf n=some ob) {w':World} (hoth: ∀b,b<w.heap.size→b≠C.mu n→w'.heap[b]?=w.heap[b]?):HR (C.kill nm n) (fun k=>if k=n then none else hf k) wr w':=by
 have hle:=C.Fu nm n;have hold: ∀m oc,(if m=n then none else hf m)=some oc→m≠n∧hf m=some oc:=by
  intro m oc hm
  by_cases e:m=n
  ·simp[e]at hm
  ·simp only[e,if_false]at hm;exact⟨e,hm⟩
 have hblk: ∀m oc,hf m=some oc→m≠n→w'.heap[C.mu m]?=w.heap[C.mu m]?:=fun m oc hm e=>hoth _ (h.eX hm) fun he=>e (h.inj _ _ _ _ hm hn he)
 refine⟨?_,?_,?_,?_,?_,?_,?_,?_,?_⟩
 ·intro b o v hv;have h1:=h.rdw b o v hv;have hne:b≠C.mu n:=fun e=>by have hv':C.rd b o=some v:=hv;rw[e,h.sep n ob hn]at hv';cases hv'
  rw[←h1];exact jC (hoth b (gZ h1) hne)
 ·intro m oc hm;obtain⟨e,hm⟩:=hold m oc hm;exact⟨.inl (h.live m oc hm).1,by simp[Cx.kill,e,(h.live m oc hm).2]⟩
 ·intro m hm
  by_cases e:m=n
  ·simp[Cx.kill,e]
  ·simp only[e,if_false]at hm;simp[Cx.kill,e,h.dead m hm]
 ·intro m oc hm k;obtain⟨e,hm⟩:=hold m oc hm;exact h.sep m oc hm k
 ·intro m m' oc oc' hm hm' hmu;exact h.inj _ _ _ _ (hold m oc hm).2 (hold m' oc' hm').2 hmu
 ·intro m oc hm;exact h.wr m oc (hold m oc hm).2
 ·intro m oc hm hk;obtain⟨e,hm⟩:=hold m oc hm;obtain⟨cs,el',h1,h2,h3,h4,h5⟩:=h.obj m oc hm hk;exact⟨cs,el',(hblk m oc hm e).trans h1,h2,h3,h4,fun k x v hx hv=>(h5 k x v hx hv).mono hle⟩
 ·intro m oc hm hk t ht;obtain⟨e,hm⟩:=hold m oc hm;obtain⟨cs,h1⟩:=h.typ m oc hm hk t ht;exact⟨cs,(hblk m oc hm e).trans h1⟩
 ·intro m oc hm hk;obtain⟨e,hm⟩:=hold m oc hm;obtain⟨es,clk,h1,h2⟩:=h.mp m oc hm hk;exact⟨es,clk,(hblk m oc hm e).trans h1,h2⟩
theorem Wf.freeze (w:World) {a:Addr} (ha:wr a.block) (n:Nat):Wf wr w (w.freeze a n):=by
 unfold World.freeze;split
 ·exact Wf.refl _ _
 ·refine⟨rfl,rfl,rfl,by simp,fun b hb hn=> ?_⟩
  have hne:a.block≠b:=fun e=>hn (e▸ha)
  simp[ru,hne]
theorem RS (h:HR C hf wr w) {pt it ty e:TypeId} (hp:P.underlying pt=some (.pointer e)) (hce:P.cellsOf e=1) {x y:Value} {vx vy:AV} (hx:AR C vx x) (hy:AR C vy y) {ao:AO} (ha:Is hf e vx vy=some ao) (hpre:ao.pre):
  dr P C hf wr base nm (vS (Builtin.unsafeString_ #[pt,it] ty #[x,y])) w ao.v ao.up:=by
 unfold Is at ha
 split at ha
 ·simp only[cv,af]at ha;subst ha
  cases hx with|v hx=>cases hx;cases hy with|v hy=>cases hy;exact .val h (Lib.run_unsafeString_none w pt it ty none) (.v (.s []))
 ·rename_i n ver o len
  split at ha
  ·rename_i ob hn;simp only[af]at ha;subst ha;obtain⟨p1,p2,p3,p4,p5,p6,p7⟩:=hpre;subst p2;have hm:=Hl hx;have hv:=sV hx h hn p1;subst hv;have hv:=eK hy;subst hv;obtain⟨cs,el,g1,g2,g3,g4,g5⟩:=h.obj n ob hn hm;obtain⟨cs',g6⟩:=h.typ n ob hn hm e p3;rw[g1]at g6;injection g6 with g6;injection g6 with e1 e2 e3
   subst e1;subst e2;have hll:((ob.cells.take len.toNat).map AV.byte).length=len.toNat:=by simp;omega
   have hli:(len:Int)=(((ob.cells.take len.toNat).map AV.byte).length:Nat):=by rw[hll];omega
   have hne:(ob.cells.take len.toNat).map AV.byte≠[]:=by
    intro e0;rw[e0]at hll;simp at hll;omega
   have hrun:=Lib.run_unsafeString_row (P:=P) w pt it ty el hp hce (C.mu n) cs.size (by simp[World.shape?,g1]) ((ob.cells.take len.toNat).map AV.byte) hne (by rw[hll];omega) (by rw[hll];omega) (by
    intro j b hb;rw[eJ,cell_of_heap g1,cW];rw[cH,dw]at hb;obtain⟨a,ha,rfl⟩:=hb;rw[fz]at ha
    split at ha
    ·have hj:j<cs.size:=by have:=(bO.1 ha).1;omega
     have har:=g5 j a cs[j] ha (by simp[hj])
     have hby:=p7 a (by
      have:(ob.cells.take len.toNat)[j]?=some a:=by rw[fz,if_pos (by assumption)];exact ha
      exact gQ this)
     rw[←G9 har hby];simp[hj]
    ·cases ha)
   rw[←hli]at hrun;refine⟨_,_,C.kill nm n, .inl (by simp only[vS,bw,hrun,Result.andThen,Sem.run_pure];rfl), .v (.s _),?_,C.Fu nm n,fun _=>gi,Wf.freeze w (h.wr n ob hn) _,fun _ _=>rfl, .one (.inl rfl) fun _ _=>rfl⟩
   rw[fI];refine h.kill nm hn fun b _ hb=> ?_
   unfold World.freeze;split
   ·rfl
   ·simp[ru,l7 hb]
  ·cases ha
 ·cases ha
end
end Go.Dom
namespace Go.Dom
open Go.RowKit
def Cx.de (C:Cx) (w:World) (nm:Nat):Cx:=
 {rd:=C.rd,al:=fun n=>C.al n∨n=nm,cur:=fun k=>if k=nm then some 0 else C.cur k,
  mu:=fun k=>if k=nm then w.heap.size else C.mu k,sz:=C.sz,mpn:=fun k=>if k=nm then true else C.mpn k}
def MQ:Bool→TypeDesc→Prop
 |true,d=>d= .string
 |false,d=> ∃q,d= .int q
section
variable {P:Program} {C:Cx} {hf:Nat→Option ax} {wr:Nat→Prop} {base nm:Nat} {w:World} {tf:Nat→AV}
theorem Cx.yu {C:Cx} (w:World) {nm:Nat} (hnm: ¬C.al nm):C.Le (C.de w nm):=by
 refine⟨fun _ _ _ h=>h,fun _ h=> .inl h,fun n hn d hd=> ?_,fun n hn=>by
  have hne:n≠nm:=fun e=>hnm (e▸hn)
  simp[Cx.de,hne]⟩
 have hne:n≠nm:=fun e=>hnm (e▸hn)
 have hd':C.cur n=some d:=by simpa[Cx.de,hne]using hd
 exact⟨d,hd',au _,fun _=>⟨by simp[Cx.de,hne],rfl⟩⟩
theorem HR.de (h:HR C hf wr w) {nm:Nat} (hnm: ¬C.al nm) (hwr:wr w.heap.size):
  HR (C.de w nm) (fun k=>if k=nm then some ⟨0,[],false,none⟩else hf k) wr (w.alloc (.map #[] 0)):=by
 have hle:=Cx.yu w hnm;refine⟨?_,?_,?_,?_,?_,?_,?_,?_,?_⟩
 ·intro b o v hv;have h1:=h.rdw b o v hv;rw[←h1];exact jC (heap_alloc_old _ _ _ (gZ h1))
 ·intro n ob hn
  by_cases e:n=nm
  ·subst e;simp at hn;subst hn;exact⟨.inr rfl,by simp[Cx.de]⟩
  ·simp only[e,if_false]at hn;exact⟨.inl (h.live n ob hn).1,by simp[Cx.de,e,(h.live n ob hn).2]⟩
 ·intro n hn
  by_cases e:n=nm
  ·subst e;simp at hn
  ·simp only[e,if_false]at hn;simp[Cx.de,e,h.dead n hn]
 ·intro n ob hn k
  by_cases e:n=nm
  ·subst e;simp only[Cx.de,if_true];exact h.FX k
  ·simp only[e,if_false]at hn;simp only[Cx.de,e,if_false];exact h.sep n ob hn k
 ·intro n m ob oc hn hm hmu
  by_cases e:n=nm<;>by_cases f:m=nm
  ·rw[e,f]
  ·exfalso
   simp only[f,if_false]at hm;simp only[Cx.de,e,f,if_true,if_false]at hmu;have:=h.eX hm;omega
  ·exfalso
   simp only[e,if_false]at hn;simp only[Cx.de,e,f,if_true,if_false]at hmu;have:=h.eX hn;omega
  ·simp only[e,f,if_false]at hn hm;simp only[Cx.de,e,f,if_false]at hmu;exact h.inj n m ob oc hn hm hmu
 ·intro n ob hn
  by_cases e:n=nm
  ·simp only[Cx.de,e,if_true];exact hwr
  ·simp only[e,if_false]at hn;simp only[Cx.de,e,if_false];exact h.wr n ob hn
 ·intro n ob hn hk
  by_cases e:n=nm
  ·subst e;simp[Cx.de]at hk
  ·simp only[e,if_false]at hn;simp only[Cx.de,e,if_false]at hk;obtain⟨cs,el',h1,h2,h3,h4,h5⟩:=h.obj n ob hn hk;refine⟨cs,el',?_,h2,h3,h4,fun k x v hx hv=>(h5 k x v hx hv).mono hle⟩
   simp only[Cx.de,e,if_false];rw[heap_alloc_old _ _ _ (h.eX hn)];exact h1
 ·intro n ob hn hk t ht
  by_cases e:n=nm
  ·subst e;simp[Cx.de]at hk
  ·simp only[e,if_false]at hn;simp only[Cx.de,e,if_false]at hk;obtain⟨cs,h1⟩:=h.typ n ob hn hk t ht;exact⟨cs,by simp only[Cx.de,e,if_false];rw[heap_alloc_old _ _ _ (h.eX hn)];exact h1⟩
 ·intro n ob hn hk
  by_cases e:n=nm
  ·subst e;simp at hn;subst hn;exact⟨#[],0,by simp only[Cx.de,if_true];exact heap_alloc_new _ _, .nil⟩
  ·simp only[e,if_false]at hn;simp only[Cx.de,e,if_false]at hk;obtain⟨es,clk,h1,h2⟩:=h.mp n ob hn hk;exact⟨es,clk,by simp only[Cx.de,e,if_false];rw[heap_alloc_old _ _ _ (h.eX hn)];exact h1,h2⟩
theorem RK (h:HR C hf wr w) (hnm: ¬C.al nm) (hwr: ∀b,base≤b→wr b) (hbase:base≤w.heap.size) {s:Sem Next} (hrun:s.run P w= .ok (.value (.map (some w.heap.size))) (w.alloc (.map #[] 0))):
  dr P C hf wr base nm s w (.mp nm) [(nm,some ⟨0,[],false,none⟩)]:=by
 refine⟨_,_,C.de w nm, .inl hrun, .mp nm _ (.inr rfl) (by simp[Cx.de]) (fun c _=>by simp[Cx.de]),?_,Cx.yu w hnm,fun _=>gi,Wf.alloc _ _ _,fun _ _=>rfl, .one (.inr (.inr (by simpa[Cx.de]using hbase))) fun k e=>by simp[Cx.de,e]⟩
 rw[fI];exact h.de hnm (hwr _ hbase)
theorem HR.Lz (h:HR C hf wr w) (nm:Nat) {n:Nat} {ob:ax} (hn:hf n=some ob) (hk0:C.mpn n=true) (cells:List AV) {w':World} {es:Array MapEntry} {clk:Nat} (hw:w'.heap[C.mu n]?=some (.map es clk))
  (hmr:MR C.rd cells es.toList) (hoth: ∀b,b≠C.mu n→w'.heap[b]?=w.heap[b]?):
  HR (C.bump nm n ob.ver) (fun k=>if k=n then some ⟨ob.ver,cells,ob.gr,ob.el⟩else hf k) wr w':=by
 have hle:C.Le (C.bump nm n ob.ver):=Cx.lG nm (h.live n ob hn).2 (au _);have ne: ∀m oc,hf m=some oc→m≠n→C.mu m≠C.mu n:=fun m oc hm e he=>e (h.inj _ _ _ _ hm hn he)
 refine⟨?_,?_,?_,?_,?_,?_,?_,?_,?_⟩
 ·intro b o v hv;have h1:=h.rdw b o v hv;have hne:b≠C.mu n:=fun e=>by have hv':C.rd b o=some v:=hv;rw[e,h.sep n ob hn]at hv';cases hv'
  rw[←h1];exact jC (hoth b hne)
 ·intro m oc hm
  by_cases e:m=n
  ·subst e;simp at hm;subst hm;exact⟨.inl (h.live m ob hn).1,by simp[Cx.bump]⟩
  ·simp only[e,if_false]at hm;exact⟨.inl (h.live m oc hm).1,by simp[Cx.bump,e,(h.live m oc hm).2]⟩
 ·intro m hm
  by_cases e:m=n
  ·subst e;simp at hm
  ·simp only[e,if_false]at hm;simp[Cx.bump,e,h.dead m hm]
 ·intro m oc hm k
  by_cases e:m=n
  ·subst e;exact h.sep m ob hn k
  ·simp only[e,if_false]at hm;exact h.sep m oc hm k
 ·intro m m' oc oc' hm hm' hmu
  by_cases e:m=n<;>by_cases f:m'=n
  ·rw[e,f]
  ·simp only[f,if_false]at hm';subst e;exact h.inj _ _ _ _ hn hm' hmu
  ·simp only[e,if_false]at hm;subst f;exact h.inj _ _ _ _ hm hn hmu
  ·simp only[e,f,if_false]at hm hm';exact h.inj _ _ _ _ hm hm' hmu
 ·intro m oc hm
  by_cases e:m=n
  ·subst e;exact h.wr m ob hn
  ·simp only[e,if_false]at hm;exact h.wr m oc hm
 ·intro m oc hm hk
  by_cases e:m=n
  ·subst e;exact absurd (hk0.symm.trans hk) (by simp)
  ·simp only[e,if_false]at hm;obtain⟨cs,el',h1,h2,h3,h4,h5⟩:=h.obj m oc hm hk;exact⟨cs,el',(hoth _ (ne m oc hm e)).trans h1,h2,h3,h4,fun k x v hx hv=>(h5 k x v hx hv).mono hle⟩
 ·intro m oc hm hk t ht
  by_cases e:m=n
  ·subst e;exact absurd (hk0.symm.trans hk) (by simp)
  ·simp only[e,if_false]at hm;obtain⟨cs,h1⟩:=h.typ m oc hm hk t ht;exact⟨cs,(hoth _ (ne m oc hm e)).trans h1⟩
 ·intro m oc hm hk
  by_cases e:m=n
  ·subst e;simp at hm;subst hm;exact⟨es,clk,hw,hmr⟩
  ·simp only[e,if_false]at hm;obtain⟨es',clk',h1,h2⟩:=h.mp m oc hm hk;exact⟨es',clk',(hoth _ (ne m oc hm e)).trans h1,h2⟩
theorem Hc {rd:Rd} {st:Bool} {d:TypeDesc} (hd:MQ st d) {x y:PV} {a b:Value} (hx:PR rd x a) (hy:PR rd y b) {r:Bool} (h:iE st x y=some r):Instr.sameNow d a b=some r∧(r=true→b=a):=by
 unfold iE at h
 split at h
 ·rename_i p q
  cases hx;cases hy
  simp only[MQ]at hd;subst hd;simp only[af]at h;subst h;have e:((⟨p.toArray⟩:ByteArray)==⟨q.toArray⟩)=(p==q):=by
   by_cases e:p=q
   ·subst e;simp[(MapKept.bytes_beq _ _).2 rfl]
   ·have h1:(p==q)=false:=by simpa using e
    rw[h1]
    cases h2:((⟨p.toArray⟩:ByteArray)==⟨q.toArray⟩)
    ·rfl
    ·have:=(MapKept.bytes_beq _ _).1 h2;simp only[ByteArray.mk.injEq]at this;exact absurd (by simpa using congrArg Array.toList this) e
  refine⟨by simp only[Instr.sameNow,e],fun h=> ?_⟩
  have:p=q:=by simpa using h
  rw[this]
 ·rename_i k p k' q
  cases hx;cases hy
  obtain⟨j,rfl⟩:=hd
  split at h
  ·rename_i e;subst e;simp only[af]at h;subst h;refine⟨by simp[Instr.sameNow],fun h=> ?_⟩
   have:p=q:=by simpa using h
   rw[this]
  ·cases h
 ·cases h
theorem Fi {rd:Rd} {st:Bool} {d:TypeDesc} (hd:MQ st d) {key:PV} {kv:Value} (hk:PR rd key kv) {l:List AV} {es:List MapEntry} (h:MR rd l es):J6 st key l→ ∀i,
  (Instr.findNow d kv es i=some none∧wB st key l=false∧(∀z,nY st z key l=z)∧ ∀val vv bn,PR rd val vv→MR rd (si st key val l) (es++[{key:=kv,val:=vv,born:=bn}]))∨
  ∃j e,Instr.findNow d kv es i=some (some (i+j,e.val))∧es[j]?=some e∧e.key=kv∧wB st key l=true∧(∀z,PR rd (nY st z key l) e.val)∧ ∀val vv,PR rd val vv→MR rd (si st key val l) (es.modify j fun e=>{e with key:=kv,val:=vv}):=by
 induction h with
 |nil=>exact fun _ i=> .inl ⟨rfl,rfl,fun _=>rfl,fun val vv bn hv=> .cons key val [] _ [] hk hv .nil⟩
 |cons a b l e es ha hb hr ih=>
  rintro⟨h1,h2⟩ i;obtain⟨r,hr1⟩:=rj.1 h1;obtain⟨g1,g2⟩:=Hc hd hk ha hr1
  cases r with
  |true=>exact .inr ⟨0,e,by simp[Instr.findNow,g1],rfl,g2 rfl,by simp[wB,hr1],fun z=>by simp[nY,hr1,hb],fun val vv hv=>by
    simp only[si,hr1,if_true,List.modify_zero_cons];exact .cons key val l _ es hk hv hr⟩
  |false=>
   rcases ih h2 (i+1)with⟨k1,k2,k3,k4⟩|⟨j,e',k1,k2,k3,k4,k5,k6⟩
   ·refine .inl ⟨by simp[Instr.findNow,g1,k1],by simp[wB,hr1,k2],fun z=>by simp[nY,hr1,k3],fun val vv bn hv=> ?_⟩
    simp only[si,hr1,af,aW,if_false,List.cons_append];exact .cons a b _ e _ ha hb (k4 val vv bn hv)
   ·refine .inr ⟨j+1,e',by simp[Instr.findNow,g1,k1];omega,by simpa using k2,k3,by simp[wB,hr1,k4],fun z=>by simpa[nY,hr1]using k5 z,fun val vv hv=> ?_⟩
    simp only[si,hr1,af,aW,if_false,List.modify_succ_cons];exact .cons a b _ e _ ha hb (k6 val vv hv)
theorem tR {st:Bool} {key:PV}: ∀{l:List AV},J6 st key l→(iE st key key).isSome=true
 |[],h=>h
 |[.v _],h=>h.elim
 | .v a:: .v b::r,h=>tR h.2
termination_by l=>l.length
theorem BQ {rd:Rd} {st:Bool} {key:PV} {kv:Value} (hk:PR rd key kv) (h:(iE st key key).isSome=true):(st=true∧ ∃s,kv= .string s)∨(st=false∧ ∃k n,kv= .int k n):=by
 cases st<;>cases hk<;>simp[iE]at h⊢
theorem yQ {kt:TypeId} {d:TypeDesc} {st:Bool} (hd:P.underlying kt=some d) (h:MQ st d) {rd:Rd} {key:PV} {kv:Value} (hk:PR rd key kv) (hm:(iE st key key).isSome=true) (em:Bool) (w:World):(Instr.checkKey em 10000 kt kv).run P w= .ok () w:=by
 show(Instr.checkKey em (9999+1) kt kv).run P w= .ok () w;unfold Instr.checkKey;simp only[bw,run_underlying hd,Result.andThen];rcases BQ hk hm with⟨rfl,s,rfl⟩|⟨rfl,k,n,rfl⟩
 ·simp only[MQ]at h;subst h;simp
 ·obtain⟨q,rfl⟩:=h;simp
theorem HN {st:Bool} {rd:Rd} {key:PV} {kv:Value} (hk:PR rd key kv) (hm:(iE st key key).isSome=true) (w:World):(Instr.keyThatStays kv kv).run P w= .ok kv w:=by
 rcases BQ hk hm with⟨-,s,rfl⟩|⟨-,k,n,rfl⟩
 ·exact MapKept.run_keyThatStays (d:= .string) trivial
 ·exact MapKept.run_keyThatStays (d:= .int k) rfl
theorem JP {n:Nat} {v:Value} (h:AR C (.mp n) v) {ob:ax} (hh:HR C hf wr w) (hn:hf n=some ob):v= .map (some (C.mu n))∧C.mpn n=true:=by
 cases h with
 |mp n b ha hk h=>rw[h _ (hh.live _ _ hn).2];exact⟨rfl,hk⟩
theorem H7 {t:TypeId} {z:PV} (h:C8 P t=some z): ∃v:Value,(∀w,(zeroValue t).run P w= .ok v w)∧AR C (.v z) v:=by
 unfold C8 at h;simp only[Option.bind_eq_bind,aT]at h;obtain⟨i,hi,v,hv,h⟩:=h
 split at h
 ·rename_i z' hz;simp only[af]at h;subst h;exact⟨v,fun w=>by simp[zeroValue,typeInfo,hi,hv],zk hz⟩
 ·cases h
theorem NP (h:HR C hf wr w) {t kt et:TypeId} {d:TypeDesc} {st c:Bool} {z key:PV} (hu:P.underlying t=some (.map kt et)) (hkd:P.underlying kt=some d) (hd:MQ st d) (hz:C8 P et=some z)
  {n:Nat} {ob:ax} (hn:hf n=some ob) {x k:Value} (hx:AR C (.mp n) x) (hk:AR C (.v key) k) (hp:J6 st key ob.cells):
  dr P C hf wr base nm (vS (Instr.lookup t x k c)) w (if c then .tup [.v (nY st z key ob.cells), .v (.b (wB st key ob.cells))]else .v (nY st z key ob.cells)) []:=by
 obtain⟨rfl,hm⟩:=JP hx h hn;obtain⟨es,clk,hb,hmr⟩:=h.mp n ob hn hm
 cases hk with
 |v hk=>
  have hck:=yQ (P:=P) hkd hd hk (tR hp) es.isEmpty w;obtain⟨zv,hzv,hrz⟩:=H7 (C:=C) hz;have hone: ∀v:Value,AR C (.v (nY st z key ob.cells)) v→AR C (if c then .tup [.v (nY st z key ob.cells), .v (.b (wB st key ob.cells))]else .v (nY st z key ob.cells)) (if c then .tuple #[v, .bool (wB st key ob.cells)]else v):=by
   intro v hv;cases c
   ·exact hv
   ·refine .tup _ [v, .bool (wB st key ob.cells)] rfl fun k x u hx hu=> ?_
    match k with
    |0=>simp at hx hu;subst hx;subst hu;exact hv
    |1=>simp at hx hu;subst hx;subst hu;exact .v (.b _)
    |k+2=>simp at hx
  rcases Fi hd hk hmr hp 0 with⟨k1,k2,k3,-⟩|⟨j,e,k1,k2,k3,k4,k5,-⟩
  ·refine .val h ?_ (hone zv (by rw[k3];exact hrz))
   simp[Instr.lookup,run_underlying hu,uj hb,hck,uG hkd k1,hzv,Result.andThen,k2]
  ·refine .val h ?_ (hone e.val (.v (k5 z)));simp[Instr.lookup,run_underlying hu,uj hb,hck,uG hkd k1,Result.andThen,k4]
theorem NQ (h:HR C hf wr w) {t kt et:TypeId} {d:TypeDesc} {st:Bool} {key val:PV} (hu:P.underlying t=some (.map kt et)) (hkd:P.underlying kt=some d) (hd:MQ st d)
  {n:Nat} {ob:ax} (hn:hf n=some ob) {x k v:Value} (hx:AR C (.mp n) x) (hk:AR C (.v key) k) (hv:AR C (.v val) v) (hp:J6 st key ob.cells):
  dr P C hf wr base nm (do Instr.mapUpdate t x k v;pure .skip) w (.v (.tup [])) [(n,some ⟨ob.ver,si st key val ob.cells,ob.gr,ob.el⟩)]:=by
 obtain⟨rfl,hm⟩:=JP hx h hn;obtain⟨es,clk,hb,hmr⟩:=h.mp n ob hn hm
 cases hk with
 |v hk=>
  cases hv with
  |v hv=>
   have hck:=yQ (P:=P) hkd hd hk (tR hp) false w;have hst:=HN (P:=P) hk (tR hp) w;have fin: ∀(es':Array MapEntry) (clk':Nat),(Instr.mapUpdate t (.map (some (C.mu n))) k v).run P w= .ok () {w with heap:=w.heap.setIfInBounds (C.mu n) (.map es' clk')}→MR C.rd (si st key val ob.cells) es'.toList→
     dr P C hf wr base nm (do Instr.mapUpdate t (.map (some (C.mu n))) k v;pure .skip) w (.v (.tup [])) [(n,some ⟨ob.ver,si st key val ob.cells,ob.gr,ob.el⟩)]:=by
    intro es' clk' hrun hmr';obtain⟨s1,s2⟩:=MapKept.heap_set (o':= .map es' clk') hb;refine⟨undef,{w with heap:=w.heap.setIfInBounds (C.mu n) (.map es' clk')},C.bump nm n ob.ver, .inr ⟨by simp only[bw,hrun,Result.andThen,Sem.run_pure],rfl⟩, .v (.tup [] [] rfl (fun k x v hx=>by simp at hx)),?_,Cx.lG nm (h.live n ob hn).2 (au _),fun _=>gi,⟨rfl,rfl,rfl,by simp,fun b _ hn'=>s2 b fun e=>hn' (e▸h.wr n ob hn)⟩,fun _ _=>rfl, .one (.inr (.inl ⟨_,hn,rfl⟩)) fun _ _=>rfl⟩
    rw[fI];exact h.Lz nm hn hm _ s1 hmr' s2
   rcases Fi hd hk hmr hp 0 with⟨k1,-,-,k4⟩|⟨j,e,k1,k2,k3,-,-,k6⟩
   ·refine fin (es.push {key:=k,val:=v,born:=clk}) (clk+1) ?_ (by rw[Array.toList_push];exact k4 val v clk hv)
    simp[Instr.mapUpdate,run_underlying hu,uj hb,hck,uG hkd k1,MapKept.run_setObj_map _ hb,Result.andThen]
   ·refine fin (es.modify j fun e=>{e with key:=k,val:=v}) clk ?_ (by rw[Array.toList_modify];exact k6 val v hv)
    have k2':es[j]?=some e:=by simpa using k2
    rw[cW]at k1;simp[Instr.mapUpdate,run_underlying hu,uj hb,hck,uG hkd k1,k2',k3,hst,MapKept.run_setObj_map _ hb,Result.andThen]
end
end Go.Dom
