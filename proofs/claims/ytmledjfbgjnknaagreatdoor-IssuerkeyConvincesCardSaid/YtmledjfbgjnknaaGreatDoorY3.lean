/-
  Part of the proof, part Y3. Own work.
-/
import Derived.Test.YtmledjfbgjnknaaGreatDoorY2
set_option linter.all false
namespace Go.Dom
open Go.RowKit
def cvC:Value→Option AV
 | .bool b=>some (.v (.b b))
 | .int k n=>some (.v (.i k n))
 | .string s=>some (.v (.s s.data.toList))
 | .pointer none=>some (.v .p0)
 | .slice none 0 0=>some .sn
 | .nilFunc=>some (.v .fn0)
 | .nilIface=>some (.v .if0)
 | _=>none
def kindB (P:Program) (t:TypeId) (k:Nat):Bool:=match P.underlying t with
 |some .bool=>k==0
 |some .string=>k==1
 | _=>false
def ceqF (P:Program):Nat→List Field→List Nat→Bool
 | _,[],[]=>true
 |q,f::fs,k::ks=>f.name != "_" &&f.offset==q&&kindB P f.type k&&ceqF P (q+1) fs ks
 | _,_,_=>false
def ceqB (P:Program) (t:TypeId) (ks:List Nat):Bool:=(match P.underlying t with
 |some (.struct fs)=>ceqF P 0 fs.toList ks
 | _=>false)&& !P.stoodInHeld t&& !P.eqGuardType P.depth t
class Tabs (P:Program) where
 tab:List (Nat×List (IntKind×Int))
 pl:List (TypeId×List Nat)
 plOk: ∀q∈pl,ceqB P q.1 q.2=true
def tabL (l:List (IntKind×Int)):List PV:=l.map fun p=> .i p.1 p.2
def TR (P:Program) [Tabs P]:Rd:=fun b o=>match (Tabs.tab P).lookup b with
 |some l=>(l[o]?).map fun p=> .int p.1 p.2
 |none=>none
def tabV (P:Program) [Tabs P] (g:Nat):AV:=
 match (Tabs.tab P).lookup g with
 |some l=> .pp (.agg (tabL l)) 0
 |none=> .u
def sx (P:Program) [Tabs P]:Operand→Option SX
 | .tmp t=>some (.t t)
 | .const v=>(cvC v).map .c
 | .func f=>some (.c (.v (.fn (.func f))))
 | .global g=>some (.c (tabV P g))
def TM (P:Program) [Tabs P] (C:Cx) (tf:Nat→AV) (a:Act):Prop:=(∀b o v,TR P b o=some v→C.rd b o=some v)∧ ∀k,AR C (tf k) (a.tmps.getD k undef)
def sxO (P:Program) [Tabs P]:Option Operand→Option (Option SX)
 |none=>some none
 |some x=>(sx P x).map some
def zeroC (P:Program) (t:TypeId):Option (List AV):=do
 let i←P.info? t
 let z←i.zero
 if z.cells.size=i.size then mapO cvC z.cells.toList else none
def isAggT (P:Program) (t:TypeId):Option Bool:=
 match P.underlying t with
 |some (.struct _)=>some true
 |some (.array _ _)=>some true
 |some _=>some false
 |none=>none
def sizeT (P:Program) (t:TypeId):Option Nat:=(P.info? t).map (·.size)
def partsS (P:Program) [Tabs P] (fs:Array Field) (ps:Array (Nat×Operand)):Option (List (Nat×Nat×SX)):=
 mapO (fun p=>do
  let f←fs[p.1]?
  let z←sizeT P f.type
  let x←sx P p.2
  some (f.offset,z,x)) ps.toList
def partsA (P:Program) [Tabs P] (z:Nat) (ps:Array (Nat×Operand)):Option (List (Nat×Nat×SX)):=
 mapO (fun p=>do
  let x←sx P p.2
  some (p.1*z,z,x)) ps.toList
def compCall (P:Program) [Tabs P] (o:Oper) (c:Call):Option SO:=
 match c.callee with
 | .value f=>do
  let f←sx P f
  let args←mapO (sx P) c.args.toList
  some (.call f args)
 | .builtin b=>
  match b,c.args.toList,c.argTypes.toList with
  | .len,[x],[t]=>match P.underlying t with
   |some .string=>do some (.lenS (←sx P x))
   |some (.slice _)=>do some (.len (←sx P x))
   |some (.array n _)=>some (.lenA n)
   | _=>none
  | .append,[x,y],[t,u]=>match P.underlying t,P.underlying u with
   |some (.slice e),some (.slice e')=>do
    let i←P.info? e
    let z←i.zero
    if z.cells.size=i.size∧0<i.size∧e=e'∧t=u then some (.app e i.size i.bytes (←sx P x) (←sx P y))else none
   |some (.slice e),some .string=>do
    let i←P.info? e
    let z←i.zero
    if z.cells.size=i.size∧i.size=1 then some (.app e i.size i.bytes (←sx P x) (←sx P y))else none
   | _,_=>none
  | .copy,[x,y],[t,u]=>match P.underlying t,P.underlying u with
   |some (.slice e),some (.slice _)=>do some (.cpy (←sizeT P e) (←sx P x) (←sx P y))
   |some (.slice e),some .string=>do
    if(←sizeT P e)=1 then some (.cpy 1 (←sx P x) (←sx P y))else none
   | _,_=>none
  | .clear,[x],[t]=>match P.underlying t with
   |some (.slice e)=>do some (.clr (←zeroC P e) (←sx P x))
   | _=>none
  | .max,[x,y],_=>do some (.mm true (←sx P x) (←sx P y))
  | .min,[x,y],_=>do some (.mm false (←sx P x) (←sx P y))
  | .unsafeSliceData,[x],_=>do some (.sld (←sx P x))
  | .unsafeString,[x,y],[pt,_]=>match P.underlying pt with
   |some (.pointer e)=>do if P.cellsOf e=1 then some (.ust e (←sx P x) (←sx P y))else none
   | _=>none
  | _,_,_=>none
 | .invoke _ _=>none
def isW:List AV→Bool
 |[.v (.i .u32 _)]=>true
 | _=>false
def compOp (P:Program) [Tabs P] (o:Oper):Option SO:=
 match o.op with
 | .move x=>do some (.mov (←sx P x))
 | .assign x=>do some (.mov (←sx P x))
 | .pick c a b=>do some (.pick (←sx P c) (←sx P a) (←sx P b))
 | .alloc t=>do some (.alloc t (←zeroC P t))
 | .box _ x=>do some (.box (←sx P x))
 | .build t ps=>match P.underlying t with
  |some (.struct fs)=>do
   if fs.toList.all (fun f=>(sizeT P f.type).isSome)then some (.build (←zeroC P t) (←partsS P fs ps))else none
  |some (.array _ e)=>do
   let z←sizeT P e
   some (.build (←zeroC P t) (←partsA P z ps))
  | _=>none
 | .buildSlice t n ps=>match P.underlying t with
  |some (.slice e)=>do
   let z←sizeT P e
   let ze←zeroC P e
   let xs←mapO (sx P) (ps.toList.map (·.2))
   if ps.toList.map (·.1)=List.range n∧n*z≤16777216∧0<z then some (.bsl (isW ze) z xs)else none
  | _=>none
 | .load t x=>do
  let ag←isAggT P t
  let z←sizeT P t
  if ag||z==1 then some (.ld ag z (←sx P x))else none
 | .store t a x=>do
  let z←sizeT P t
  some (.st z (←sx P a) (←sx P x))
 | .binOp op t x y _=>match P.underlying t with
  |some (.int _)=>do some (.bin op (←sx P x) (←sx P y))
  |some .string=>do some (.bin op (←sx P x) (←sx P y))
  |some .bool=>match op with
   | .eql=>do some (.beq false (←sx P x) (←sx P y))
   | .neq=>do some (.beq true (←sx P x) (←sx P y))
   | _=>none
  |some (.pointer te)=>if(P.info? te).isSome then(match op with
   | .eql=>do some (.peq false (←sx P x) (←sx P y))
   | .neq=>do some (.peq true (←sx P x) (←sx P y))
   | _=>none)else none
  |some (.struct _)=>match op,(Tabs.pl P).find? (·.1==t)with
   | .eql,some q=>do some (.ceq false q.2 (←sx P x) (←sx P y))
   | .neq,some q=>do some (.ceq true q.2 (←sx P x) (←sx P y))
   | _,_=>none
  |some (.slice _)=>match op,y with
   | .eql, .const (.slice none 0 0)=>do some (.snl false (←sx P x))
   | .neq, .const (.slice none 0 0)=>do some (.snl true (←sx P x))
   | _,_=>none
  | _=>none
 | .unOp op _ x=>do some (.un op (←sx P x))
 | .convert s d x=>match P.underlying s,P.underlying d with
  |some (.int _),some (.int k)=>do some (.cvi k (←sx P x))
  |some .string,some .string=>do some (.cvs (←sx P x))
  |some (.slice e),some .string=>match P.underlying e with
   |some (.int .u8)=>do
    if(←sizeT P e)=1 then some (.b2s (←sx P x))else none
   | _=>none
  |some .string,some (.slice e)=>match P.underlying e with
   |some (.int .u8)=>do some (.s2b (←sx P x))
   | _=>none
  |some (.pointer t),some .unsafePointer=>do
   if(←sizeT P t)=0 then none else some (.cvp (fun _ _ _=>true) (←sx P x))
  |some .unsafePointer,some (.pointer u)=>do
   if(←sizeT P u)=0 then none else some (.cvp (fun e n o=>liesAt P P.depth e (n/P.cellsOf e) o u 1) (←sx P x))
  | _,_=>none
 | .makeSlice t l c=>match P.underlying t with
  |some (.slice e)=>do
   let i←P.info? e
   let z←zeroC P e
   if 0<i.size∧0<i.bytes then some (.mks z i.bytes (←sx P l) (←sx P c))else none
  | _=>none
 | .slice t x lo hi mx=>match P.underlying t with
  |some .string=>match mx with
   |none=>do some (.slS (←sx P x) (←sxO P lo) (←sxO P hi))
   |some _=>none
  |some (.slice e)=>do some (.slL (←sizeT P e) (←sx P x) (←sxO P lo) (←sxO P hi) (←sxO P mx))
  |some (.array n e)=>do some (.slA n (←sizeT P e) (←sx P x) (←sxO P lo) (←sxO P hi) (←sxO P mx))
  | _=>none
 | .fieldAddr s x f=>match P.underlying s with
  |some (.struct fs)=>do
   let fl←fs[f]?
   let z←sizeT P fl.type
   if z=0 then none else some (.fad fl.offset (←sx P x))
  | _=>none
 | .field s x f=>match P.underlying s with
  |some (.struct fs)=>do
   let fl←fs[f]?
   let z←sizeT P fl.type
   let ag←isAggT P fl.type
   if ag||z==1 then some (.fld ag fl.offset z (←sx P x))else none
  | _=>none
 | .indexAddr t x i=>match P.underlying t with
  |some (.slice e)=>do some (.ixs (←sizeT P e) (←sx P x) (←sx P i))
  |some (.array n e)=>do some (.ixa n (←sizeT P e) (←sx P x) (←sx P i))
  | _=>none
 | .index t x i=>match P.underlying t with
  |some .string=>do some (.ixS (←sx P x) (←sx P i))
  |some (.array n e)=>do
   let z←sizeT P e
   let ag←isAggT P e
   if ag||z==1 then some (.ixV ag n z (←sx P x) (←sx P i))else none
  | _=>none
 | .extract x k=>do some (.ext (←sx P x) k)
 | .call c=>compCall P o c
 | .makeFunc f a c=>do some (.mkf f (←mapO (sx P) a.toList) (←mapO (sx P) c.toList))
 | .nilCheck x=>do some (.nck (←sx P x))
 | .makeInterface t x=>match P.underlying t with
  |some (.int _)=>do some (.mki t (←sx P x))
  |some .string=>do some (.mki t (←sx P x))
  | _=>none
 | .panic _=>some .stop
 | _=>none
section
variable {P:Program} [Tabs P] {C:Cx} {tf:Nat→AV} {a:Act}
theorem cvC_ok {v:Value} {x:AV} (h:cvC v=some x):AR C x v:=by
 unfold cvC at h
 split at h<;>first|(cases h;done)|skip
 all_goals (simp at h;subst h)
 ·exact .v (.b _)
 ·exact .v (.i _ _)
 ·rename_i s;have:s=⟨s.data.toList.toArray⟩:=by cases s;simp
  conv=>rhs;rw[this]
  exact .v (.s _)
 ·exact .v .p0
 ·exact .sn
 ·exact .v .fn0
 ·exact .v .if0
theorem tabV_ok (hT: ∀b o v,TR P b o=some v→C.rd b o=some v) (g:Nat):AR C (tabV P g) (.pointer (some ⟨g,0,none⟩)):=by
 unfold tabV;split
 ·rename_i l hl;refine .pp (.agg (tabL l)) 0 (l.map fun p=> .int p.1 p.2) g 0 ?_ (by simp[PV.cells,tabL]) ?_ ?_
  ·intro y hy;simp only[PV.cells,tabL,List.mem_map]at hy;obtain⟨p,-,rfl⟩:=hy;rfl
  ·intro k v hv;refine hT _ _ _ ?_;rw[Nat.zero_add];simp only[TR,hl];simpa using hv
  ·intro k y v hy hv;simp only[PV.cells,tabL,List.getElem?_map,Option.map_eq_some_iff]at hy hv;obtain⟨p,hp,rfl⟩:=hy;obtain⟨q,hq,rfl⟩:=hv;rw[hp]at hq;injection hq with hq;subst hq
   exact .i _ _
 ·exact .u _
theorem sx_ok {o:Operand} {x:SX} (h:sx P o=some x) (ht:TM P C tf a):AR C (x.ev tf) (a.eval o):=by
 cases o with
 |tmp t=>simp[sx]at h;subst h;exact ht.2 t
 |const v=>
  simp only[sx,Option.map_eq_some_iff]at h;obtain⟨y,hy,rfl⟩:=h;exact cvC_ok hy
 |func f=>simp[sx]at h;subst h;exact .v (.fn _)
 |global g=>simp[sx]at h;subst h;exact tabV_ok ht.1 g
theorem sxL_ok {os:List Operand} {xs:List SX} (h:mapO (sx P) os=some xs) (ht:TM P C tf a):RelL (AR C) (xs.map (SX.ev tf)) (os.map a.eval):=by
 obtain⟨h1,h2⟩:=mapO_some h;refine⟨by simp[h1],fun k x v hx hv=> ?_⟩
 simp only[List.getElem?_map,Option.map_eq_some_iff]at hx hv;obtain⟨y,hy,rfl⟩:=hx;obtain⟨z,hz,rfl⟩:=hv;exact sx_ok (h2 k z y hz hy) ht
end
end Go.Dom
namespace Go.Dom
open Go.RowKit
def vS (x:Sem Value):Sem Next:=do pure (.value (←x))
def OpOk (P:Program) (C:Cx) (hf:Nat→Option AObj) (wr:Nat→Prop) (base nm:Nat) (s:Sem Next) (w:World) (v:AV) (up:List (Nat×Option AObj)):Prop:=
 ∃val w' C',(s.run P w= .ok (.value val) w'∨(s.run P w= .ok .skip w'∧val=undef))∧AR C' v val∧HR C' (updF hf up) wr w'∧
  C.Le C'∧(∀n,C'.al n↔C.al n∨n=nm)∧Wf wr w w'∧(∀b,b<base→C'.rd b=C.rd b)∧Stay base C C' hf (updF hf up)
section
variable {P:Program} {C:Cx} {hf:Nat→Option AObj} {wr:Nat→Prop} {base nm:Nat} {w:World} {tf:Nat→AV}
theorem OpOk.val0 {s:Sem Next} {v:AV} {val:Value} (h:HR C hf wr w) (hrun:s.run P w= .ok (.value val) w) (hv:AR C v val):OpOk P C hf wr base nm s w v []:=
 ⟨val,w,C.give nm, .inl hrun,hv.mono (C.le_give nm),h.give nm,C.le_give nm,fun _=>Iff.rfl,Wf.refl _ _,fun _ _=>rfl, .mu rfl⟩
theorem OpOk.val {s:Sem Value} {v:AV} {val:Value} (h:HR C hf wr w) (hrun:s.run P w= .ok val w) (hv:AR C v val):OpOk P C hf wr base nm (vS s) w v []:=
 .val0 h (by simp[vS,hrun]) hv
theorem inv_b {x:Bool} {v:Value} (h:AR C (.v (.b x)) v):v= .bool x:=by cases h with|v h=>cases h;rfl
theorem inv_i {k:IntKind} {n:Int} {v:Value} (h:AR C (.v (.i k n)) v):v= .int k n:=by cases h with|v h=>cases h;rfl
theorem inv_s {x:Bytes} {v:Value} (h:AR C (.v (.s x)) v):v= .string ⟨x.toArray⟩:=by cases h with|v h=>cases h;rfl
theorem run_ibin {op:BinOp} {k k':IntKind} {x y:Int} {ao:AO} (h:ibin op k x k' y=some ao) (hp:ao.pre) (t:TypeId) (ox oy:Operand) (w:World):
  ∃val,(do eqGuard op t ox oy (.int k x) (.int k' y);binOp op t (.int k x) (.int k' y):Sem Value).run P w= .ok val w∧AR C ao.v val∧ao.up=[]:=by
 cases op<;>simp only[ibin,iAnd,iOr,iXor,iAndNot,retP,Option.some.injEq]at h<;>subst h<;>(simp only at hp)
 case shl=>exact⟨_,by simp[eqGuard,binOp,Op.shift,show¬y<0 from by omega], .v (.i _ _),rfl⟩
 case shr=>exact⟨_,by simp[eqGuard,binOp,Op.shift,show¬y<0 from by omega], .v (.i _ _),rfl⟩
 case quo=>obtain⟨rfl,h0⟩:=hp;exact⟨_,by simp[eqGuard,binOp,Op.intDiv,h0], .v (.i _ _),rfl⟩
 case rem=>obtain⟨rfl,h0⟩:=hp;exact⟨_,by simp[eqGuard,binOp,Op.intDiv,h0], .v (.i _ _),rfl⟩
 case add=>subst hp;exact⟨_,by simp[eqGuard,binOp,Op.intArith], .v (.i _ _),rfl⟩
 case sub=>subst hp;exact⟨_,by simp[eqGuard,binOp,Op.intArith], .v (.i _ _),rfl⟩
 case mul=>subst hp;exact⟨_,by simp[eqGuard,binOp,Op.intArith], .v (.i _ _),rfl⟩
 case and=>subst hp;exact⟨_,by simp only[eqGuard,binOp,Op.intBits];simp, .v (.i _ _),rfl⟩
 case or=>subst hp;exact⟨_,by simp only[eqGuard,binOp,Op.intBits];simp, .v (.i _ _),rfl⟩
 case xor=>subst hp;exact⟨_,by simp only[eqGuard,binOp,Op.intBits];simp, .v (.i _ _),rfl⟩
 case andNot=>subst hp;exact⟨_,by simp only[eqGuard,binOp,Op.intBits];simp, .v (.i _ _),rfl⟩
 case eql=>subst hp;exact⟨_,by simp[eqGuard,binOp,Op.intCmp], .v (.b _),rfl⟩
 case neq=>subst hp;exact⟨_,by simp[eqGuard,binOp,Op.intCmp], .v (.b _),rfl⟩
 case lss=>subst hp;exact⟨_,by simp[eqGuard,binOp,Op.intCmp], .v (.b _),rfl⟩
 case leq=>subst hp;exact⟨_,by simp[eqGuard,binOp,Op.intCmp], .v (.b _),rfl⟩
 case gtr=>subst hp;exact⟨_,by simp[eqGuard,binOp,Op.intCmp], .v (.b _),rfl⟩
 case geq=>subst hp;exact⟨_,by simp[eqGuard,binOp,Op.intCmp], .v (.b _),rfl⟩
theorem run_sbin {op:BinOp} {x y:Bytes} {ao:AO} (h:sbin op x y=some ao) (hp:ao.pre) (t:TypeId) (ox oy:Operand) (w:World):
  ∃val,(do eqGuard op t ox oy (.string ⟨x.toArray⟩) (.string ⟨y.toArray⟩);binOp op t (.string ⟨x.toArray⟩) (.string ⟨y.toArray⟩):Sem Value).run P w= .ok val w∧AR C ao.v val∧ao.up=[]:=by
 cases op<;>simp only[sbin,retP,retO,Option.some.injEq,reduceCtorEq]at h<;>subst h<;>(simp only at hp)
 case add=>
  have h1: ¬(((ByteArray.mk x.toArray).size+(ByteArray.mk y.toArray).size:Nat):Int)>IntKind.i64.max:=by
   have e1:(ByteArray.mk x.toArray).size=x.length:=by simp[ByteArray.size]
   have e2:(ByteArray.mk y.toArray).size=y.length:=by simp[ByteArray.size]
   have e3:IntKind.i64.max=9223372036854775807:=by decide
   rw[e1,e2,e3];omega
  have e:(ByteArray.mk x.toArray++ByteArray.mk y.toArray)=ByteArray.mk (x++y).toArray:=by
   apply ByteArray.ext;simp
  refine⟨.string ⟨(x++y).toArray⟩,?_, .v (.s _),rfl⟩;rw[←e];simp only[eqGuard,binOp,Op.stringOp,h1];simp
 case eql=>exact⟨_,by simp[eqGuard,binOp,Op.stringOp], .v (.b _),rfl⟩
 case neq=>exact⟨_,by simp[eqGuard,binOp,Op.stringOp], .v (.b _),rfl⟩
 case lss=>exact⟨_,by simp[eqGuard,binOp,Op.stringOp], .v (.b _),rfl⟩
 case leq=>exact⟨_,by simp only[eqGuard,binOp,Op.stringOp,ByteArray.toList_mk];simp, .v (.b _),rfl⟩
 case gtr=>exact⟨_,by simp only[eqGuard,binOp,Op.stringOp,ByteArray.toList_mk];simp, .v (.b _),rfl⟩
 case geq=>exact⟨_,by simp[eqGuard,binOp,Op.stringOp], .v (.b _),rfl⟩
theorem inv_p {n ver q:Nat} {v:Value} (h:AR C (.p n ver q) v) {ob:AObj} (hh:HR C hf wr w) (hn:hf n=some ob) (hv:ob.ver=ver):v= .pointer (some ⟨C.mu n,q,none⟩):=by
 cases h with
 |p n ver o b ha h=>rw[(h _ (hh.live _ _ hn).2).2 hv.symm]
theorem add_none (b q k:Nat):(⟨b,q,none⟩:Addr).add k=⟨b,q+k,none⟩:=by unfold Addr.add;split<;>simp_all
theorem run_loadObj (hh:HR C hf wr w) {n:Nat} {ob:AObj} (hn:hf n=some ob) {q z:Nat} (hz:q+z≤ob.cells.length):
  ∃vs:List Value,(loadCells ⟨C.mu n,q,none⟩ z).run P w= .ok vs.toArray w∧RelL (AR C) ((ob.cells.drop q).take z) vs:=by
 obtain⟨cs,el,h1,h2,h3,h4,h5⟩:=hh.obj n ob hn;have hr:RelL (AR C) ob.cells (cs.toList.take ob.cells.length):=by
  refine⟨by simp;omega,fun k x v hx hv=>h5 k x v hx ?_⟩
  rw[List.getElem?_take]at hv
  split at hv
  ·simpa using hv
  ·cases hv
 refine⟨((cs.toList.take ob.cells.length).drop q).take z,?_,(hr.drop q).take z⟩;have hlen:(((cs.toList.take ob.cells.length).drop q).take z).length=z:=by simp;omega
 have:=run_loadCells_list (P:=P) w ⟨C.mu n,q,none⟩ (((cs.toList.take ob.cells.length).drop q).take z) (by
  intro j v hv;rw[add_none,cell_of_heap h1];rw[List.getElem?_take]at hv
  split at hv
  ·rw[List.getElem?_drop,List.getElem?_take]at hv
   split at hv
   ·simpa using hv
   ·cases hv
  ·cases hv)
 rw[hlen]at this;exact this
theorem run_loadPure (hh:HR C hf wr w) {b q:Nat} (vs:List Value) (hr: ∀(k:Nat) (v:Value),vs[k]?=some v→C.rd b (q+k)=some v) (o z:Nat) (hz:o+z≤vs.length):
  (loadCells ⟨b,q+o,none⟩ z).run P w= .ok ((vs.drop o).take z).toArray w:=by
 have hlen:((vs.drop o).take z).length=z:=by simp;omega
 have:=run_loadCells_list (P:=P) w ⟨b,q+o,none⟩ ((vs.drop o).take z) (by
  intro j v hv;rw[add_none];refine hh.rdw _ _ _ ?_;rw[List.getElem?_take]at hv
  split at hv
  ·rw[List.getElem?_drop]at hv;rw[Nat.add_assoc];exact hr _ _ hv
  ·cases hv)
 rw[hlen]at this;exact this
theorem isAggT_run {t:TypeId} {ag:Bool} (h:isAggT P t=some ag) (w:World):(isAgg t).run P w= .ok ag w:=by
 unfold isAggT at h
 split at h<;>first|(cases h;done)|skip
 all_goals (simp at h;subst h;rename_i hu;simp[isAgg,run_underlying hu])
theorem sizeT_run {t:TypeId} {z:Nat} (h:sizeT P t=some z) (w:World):(sizeOf t).run P w= .ok z w:=by
 unfold sizeT at h;simp only[Option.map_eq_some_iff]at h;obtain⟨i,hi,rfl⟩:=h;simp[sizeOf,typeInfo,hi]
theorem load_one {b q:Nat} {v:Value} (h:(loadCells ⟨b,q,none⟩ 1).run P w= .ok #[v] w):(load ⟨b,q,none⟩).run P w= .ok v w:=by
 simp only[loadCells,loadCellsFrom,Sem.run_bind,add_none,Nat.add_zero]at h
 cases hl:(load ⟨b,q,none⟩).run P w with
 |ok u w'=>rw[hl]at h;simp[Result.andThen]at h;obtain⟨rfl,rfl⟩:=h;rfl
 |halt x w'=>rw[hl]at h;simp[Result.andThen]at h
end
end Go.Dom
