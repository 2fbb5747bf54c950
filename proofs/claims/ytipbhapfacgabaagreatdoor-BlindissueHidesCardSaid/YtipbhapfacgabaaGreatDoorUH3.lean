/- Part of the proof. -/
import Derived.Test.YtipbhapfacgabaaGreatDoorUH2
set_option linter.all false
namespace Go.Dom
open Go.RowKit
def Ql:Value->Option AV
 | .bool b=>some (.v (.b b))
 | .int k n=>some (.v (.i k n))
 | .string s=>some (.v (.s s.data.toList))
 | .pointer none=>some (.v .p0)
 | .slice none 0 0=>some .sn
 | .nilFunc=>some (.v .fn0)
 | .nilIface=>some (.v .if0)
 | _=>none
def Ba (P:Program) (t:TypeId) (k:Nat):Bool:=match P.underlying t with
 |some .bool=>k==0
 |some .string=>k==1
 | _=>false
def Mr (P:Program) (sub:TypeId->List Nat->Bool):Nat->List Field->List Nat->Bool
 | _,[],[]=>true
 |q,f::fs,k::ks=>f.name != "_" &&f.offset==q&&(if Ba P f.type k then Mr P sub (q+1) fs ks else
  sub f.type ((k::ks).take (P.cellsOf f.type))&&Mr P sub (q+P.cellsOf f.type) fs ((k::ks).drop (P.cellsOf f.type)))
 | _,_,_=>false
def Qg (P:Program):Nat->TypeId->List Nat->Bool
 |0,_,_=>false
 |d+1,t,ks=>(match P.underlying t with
  |some (.struct fs)=>Mr P (Qg P d) 0 fs.toList ks
  | _=>false)&& !P.stoodInHeld t
def Ur (P:Program) (t:TypeId) (ks:List Nat):Bool:=Qg P 4 t ks&& !P.eqGuardType P.depth t
class ct (P:Program) where
 tab:List (Nat×List (IntKind×Int))
 pl:List (TypeId×List Nat)
 plOk: ∀q∈pl,Ur P q.1 q.2=true
def OM (l:List (IntKind×Int)):List PV:=l.map fun p=> .i p.1 p.2
def TR (P:Program) [ct P]:Rd:=fun b o=>match (ct.tab P).lookup b with
 |some l=>(l[o]?).map fun p=> .int p.1 p.2
 |none=>none
def Wd (P:Program) [ct P] (g:Nat):AV:=
 match (ct.tab P).lookup g with
 |some l=> .pp (.agg (OM l)) 0
 |none=> .u
def sx (P:Program) [ct P]:Operand->Option SX
 | .tmp t=>some (.t t)
 | .const v=>(Ql v).map .c
 | .func f=>some (.c (.v (.fn (.func f))))
 | .global g=>some (.c (Wd P g))
def TM (P:Program) [ct P] (C:Cx) (tf:Nat->AV) (a:Act):Prop:=(∀b o v,TR P b o=some v->C.rd b o=some v)/\ ∀k,AR C (tf k) (a.tmps.getD k undef)
def zI (P:Program) [ct P]:Option Operand->Option (Option SX)
 |none=>some none
 |some x=>(sx P x).map some
def jT (P:Program) (t:TypeId):Option (List AV):=do
 let i<-P.info? t
 let z<-i.zero
 if z.cells.size=i.size then aU Ql z.cells.toList else none
def FT (P:Program) (t:TypeId):Option PV:=do
 let i<-P.info? t
 let v<-i.zero
 match Ql v with
 |some (.v z)=>some z
 | _=>none
def kf (P:Program) (t:TypeId):Option Bool:=
 match P.underlying t with
 |some (.struct _)=>some true
 |some (.array _ _)=>some true
 |some _=>some false
 |none=>none
def cJ (P:Program) (t:TypeId):Option Nat:=(P.info? t).map (·.size)
def NU (P:Program) [ct P] (fs:Array Field) (ps:Array (Nat×Operand)):Option (List (Nat×Nat×SX)):=
 aU (fun p=>do
  let f<-fs[p.1]?
  let z<-cJ P f.type
  let x<-sx P p.2
  some (f.offset,z,x)) ps.toList
def GQ (P:Program) [ct P] (z:Nat) (ps:Array (Nat×Operand)):Option (List (Nat×Nat×SX)):=
 aU (fun p=>do
  let x<-sx P p.2
  some (p.1*z,z,x)) ps.toList
def x6 (P:Program) [ct P] (o:Oper) (c:Call):Option SO:=
 match c.callee with
 | .value f=>do
  let f<-sx P f
  let args<-aU (sx P) c.args.toList
  some (.call f args)
 | .builtin b=>
  match b,c.args.toList,c.argTypes.toList with
  | .len,[x],[t]=>match P.underlying t with
   |some .string=>do some (.lenS (<-sx P x))
   |some (.slice _)=>do some (.len (<-sx P x))
   |some (.array n _)=>some (.lenA n)
   | _=>none
  | .append,[x,y],[t,u]=>match P.underlying t,P.underlying u with
   |some (.slice e),some (.slice e')=>do
    let i<-P.info? e
    let z<-i.zero
    if z.cells.size=i.size/\0<i.size/\e=e'/\t=u then some (.app e i.size i.bytes (<-sx P x) (<-sx P y))else none
   |some (.slice e),some .string=>do
    let i<-P.info? e
    let z<-i.zero
    if z.cells.size=i.size/\i.size=1 then some (.app e i.size i.bytes (<-sx P x) (<-sx P y))else none
   | _,_=>none
  | .copy,[x,y],[t,u]=>match P.underlying t,P.underlying u with
   |some (.slice e),some (.slice _)=>do some (.cpy (<-cJ P e) (<-sx P x) (<-sx P y))
   |some (.slice e),some .string=>do
    if(<-cJ P e)=1 then some (.cpy 1 (<-sx P x) (<-sx P y))else none
   | _,_=>none
  | .clear,[x],[t]=>match P.underlying t with
   |some (.slice e)=>do some (.clr (<-jT P e) (<-sx P x))
   | _=>none
  | .max,[x,y],_=>do some (.mm true (<-sx P x) (<-sx P y))
  | .min,[x,y],_=>do some (.mm false (<-sx P x) (<-sx P y))
  | .unsafeSliceData,[x],_=>do some (.sld (<-sx P x))
  | .unsafeString,[x,y],[pt,_]=>match P.underlying pt with
   |some (.pointer e)=>do if P.cellsOf e=1 then some (.ust e (<-sx P x) (<-sx P y))else none
   | _=>none
  | _,_,_=>none
 | .invoke _ _=>none
def isW:List AV->Bool
 |[.v (.i .u32 _)]=>true
 | _=>false
def rm (P:Program) [ct P] (o:Oper):Option SO:=
 match o.op with
 | .move x=>do some (.mov (<-sx P x))
 | .assign x=>do some (.mov (<-sx P x))
 | .pick c a b=>do some (.pick (<-sx P c) (<-sx P a) (<-sx P b))
 | .alloc t=>do some (.alloc t (<-jT P t))
 | .box _ x=>do some (.box (<-sx P x))
 | .build t ps=>match P.underlying t with
  |some (.struct fs)=>do
   if fs.toList.all (fun f=>(cJ P f.type).isSome)then some (.build (<-jT P t) (<-NU P fs ps))else none
  |some (.array _ e)=>do
   let z<-cJ P e
   some (.build (<-jT P t) (<-GQ P z ps))
  | _=>none
 | .buildSlice t n ps=>match P.underlying t with
  |some (.slice e)=>do
   let z<-cJ P e
   let ze<-jT P e
   let xs<-aU (sx P) (ps.toList.map (·.2))
   if ps.toList.map (·.1)=List.range n/\n*z<=16777216/\0<z then some (.bsl (isW ze) z xs)else none
  | _=>none
 | .load t x=>do
  let ag<-kf P t
  let z<-cJ P t
  if ag||z==1 then some (.ld ag z (<-sx P x))else none
 | .store t a x=>do
  let z<-cJ P t
  some (.st z (<-sx P a) (<-sx P x))
 | .binOp op t x y _=>match P.underlying t with
  |some (.int _)=>do some (.bin op (<-sx P x) (<-sx P y))
  |some .string=>do some (.bin op (<-sx P x) (<-sx P y))
  |some .bool=>match op with
   | .eql=>do some (.beq false (<-sx P x) (<-sx P y))
   | .neq=>do some (.beq true (<-sx P x) (<-sx P y))
   | _=>none
  |some (.pointer te)=>if(P.info? te).isSome then(match op with
   | .eql=>do some (.peq false (<-sx P x) (<-sx P y))
   | .neq=>do some (.peq true (<-sx P x) (<-sx P y))
   | _=>none)else none
  |some (.struct _)=>match op,(ct.pl P).find? (·.1==t)with
   | .eql,some q=>do some (.ceq false q.2 (<-sx P x) (<-sx P y))
   | .neq,some q=>do some (.ceq true q.2 (<-sx P x) (<-sx P y))
   | _,_=>none
  |some (.slice _)=>match op,y with
   | .eql, .const (.slice none 0 0)=>do some (.snl false (<-sx P x))
   | .neq, .const (.slice none 0 0)=>do some (.snl true (<-sx P x))
   | _,_=>none
  | _=>none
 | .unOp op _ x=>do some (.un op (<-sx P x))
 | .convert s d x=>match P.underlying s,P.underlying d with
  |some (.int _),some (.int k)=>do some (.cvi k (<-sx P x))
  |some .string,some .string=>do some (.cvs (<-sx P x))
  |some (.slice e),some .string=>match P.underlying e with
   |some (.int .u8)=>do
    if(<-cJ P e)=1 then some (.b2s (<-sx P x))else none
   | _=>none
  |some .string,some (.slice e)=>match P.underlying e with
   |some (.int .u8)=>do some (.s2b (<-sx P x))
   | _=>none
  |some (.pointer t),some .unsafePointer=>do
   if(<-cJ P t)=0 then none else some (.cvp (fun _ _ _=>true) (<-sx P x))
  |some .unsafePointer,some (.pointer u)=>do
   if(<-cJ P u)=0 then none else some (.cvp (fun e n o=>liesAt P P.depth e (n/P.cellsOf e) o u 1) (<-sx P x))
  | _,_=>none
 | .makeSlice t l c=>match P.underlying t with
  |some (.slice e)=>do
   let i<-P.info? e
   let z<-jT P e
   if 0<i.size/\0<i.bytes then some (.mks z i.bytes (<-sx P l) (<-sx P c))else none
  | _=>none
 | .slice t x lo hi mx=>match P.underlying t with
  |some .string=>match mx with
   |none=>do some (.slS (<-sx P x) (<-zI P lo) (<-zI P hi))
   |some _=>none
  |some (.slice e)=>do some (.slL (<-cJ P e) (<-sx P x) (<-zI P lo) (<-zI P hi) (<-zI P mx))
  |some (.array n e)=>do some (.slA n (<-cJ P e) (<-sx P x) (<-zI P lo) (<-zI P hi) (<-zI P mx))
  | _=>none
 | .fieldAddr s x f=>match P.underlying s with
  |some (.struct fs)=>do
   let fl<-fs[f]?
   let z<-cJ P fl.type
   if z=0 then none else some (.fad fl.offset (<-sx P x))
  | _=>none
 | .field s x f=>match P.underlying s with
  |some (.struct fs)=>do
   let fl<-fs[f]?
   let z<-cJ P fl.type
   let ag<-kf P fl.type
   if ag||z==1 then some (.fld ag fl.offset z (<-sx P x))else none
  | _=>none
 | .indexAddr t x i=>match P.underlying t with
  |some (.slice e)=>do some (.ixs (<-cJ P e) (<-sx P x) (<-sx P i))
  |some (.array n e)=>do some (.ixa n (<-cJ P e) (<-sx P x) (<-sx P i))
  | _=>none
 | .index t x i=>match P.underlying t with
  |some .string=>do some (.ixS (<-sx P x) (<-sx P i))
  |some (.array n e)=>do
   let z<-cJ P e
   let ag<-kf P e
   if ag||z==1 then some (.ixV ag n z (<-sx P x) (<-sx P i))else none
  | _=>none
 | .extract x k=>do some (.ext (<-sx P x) k)
 | .call c=>x6 P o c
 | .makeFunc f a c=>do some (.mkf f (<-aU (sx P) a.toList) (<-aU (sx P) c.toList))
 | .nilCheck x=>do some (.nck (<-sx P x))
 | .makeInterface t x=>match P.underlying t with
  |some (.int _)=>do some (.mki t (<-sx P x))
  |some .string=>do some (.mki t (<-sx P x))
  | _=>none
 | .makeMap t r=>match r,P.underlying t with
  |none,some (.map _ _)=>some .mkm
  |some (.const (.int _ _)),some (.map _ _)=>some .mkm
  | _,_=>none
 | .lookup t x k c=>match P.underlying t with
  |some (.map kt et)=>do
   let z<-FT P et
   let x<-sx P x
   let k<-sx P k
   match P.underlying kt with
   |some (.int _)=>some (.mget c false z x k)
   |some .string=>some (.mget c true z x k)
   | _=>none
  | _=>none
 | .mapUpdate t m k v=>match P.underlying t with
  |some (.map kt _)=>do
   let m<-sx P m
   let k<-sx P k
   let v<-sx P v
   match P.underlying kt with
   |some (.int _)=>some (.mset false m k v)
   |some .string=>some (.mset true m k v)
   | _=>none
  | _=>none
 | .panic _=>some .stop
 | _=>none
section
variable {P:Program} [ct P] {C:Cx} {tf:Nat->AV} {a:Act}
theorem BU {v:Value} {x:AV} (h:Ql v=some x):AR C x v:=by
 unfold Ql at h
 split at h<;>first|(cases h;done)|skip
 all_goals (simp at h;subst h)
 ·exact .v (.b _)
 ·exact .v (.i _ _)
 ·rename_i s;have:s=⟨s.data.toList.toArray⟩:=by cases s;simp
  conv=>rhs;rw[this]
  exact .v (.s _)
 ·exact .v .p0
 ·exact .sn
 ·exact .v .fn0
 ·exact .v .if0
theorem R5 (hT: ∀b o v,TR P b o=some v->C.rd b o=some v) (g:Nat):AR C (Wd P g) (.pointer (some ⟨g,0,none⟩)):=by
 unfold Wd;split
 ·rename_i l hl;refine .pp (.agg (OM l)) 0 (l.map fun p=> .int p.1 p.2) g 0 ?_ (by simp[PV.cells,OM]) ?_ ?_
  ·intro y hy;simp only[PV.cells,OM,cG]at hy;obtain⟨p,-,rfl⟩:=hy;rfl
  ·intro k v hv;refine hT _ _ _ ?_;rw[fG];simp only[TR,hl];simpa using hv
  ·intro k y v hy hv;simp only[PV.cells,OM,gY,dM]at hy hv;obtain⟨p,hp,rfl⟩:=hy;obtain⟨q,hq,rfl⟩:=hv;rw[hp]at hq;injection hq with hq;subst hq
   exact .i _ _
 ·exact .u _
theorem bO {o:Operand} {x:SX} (h:sx P o=some x) (ht:TM P C tf a):AR C (x.ev tf) (a.eval o):=by
 cases o with
 |tmp t=>simp[sx]at h;subst h;exact ht.2 t
 |const v=>
  simp only[sx,dM]at h;obtain⟨y,hy,rfl⟩:=h;exact BU hy
 |func f=>simp[sx]at h;subst h;exact .v (.fn _)
 |global g=>simp[sx]at h;subst h;exact R5 ht.1 g
theorem CP {os:List Operand} {xs:List SX} (h:aU (sx P) os=some xs) (ht:TM P C tf a):bC (AR C) (xs.map (SX.ev tf)) (os.map a.eval):=by
 obtain⟨h1,h2⟩:=cC h;refine⟨by simp[h1],fun k x v hx hv=> ?_⟩
 simp only[gY,dM]at hx hv;obtain⟨y,hy,rfl⟩:=hx;obtain⟨z,hz,rfl⟩:=hv;exact bO (h2 k z y hz hy) ht
end
end Go.Dom
namespace Go.Dom
open Go.RowKit
def vS (x:Sem Value):Sem Next:=do pure (.value (<-x))
def dI (P:Program) (C:Cx) (hf:Nat->Option aC) (wr:Nat->Prop) (base nm:Nat) (s:Sem Next) (w:World) (v:AV) (up:List (Nat×Option aC)):Prop:=
 ∃val w' C',(s.run P w= .ok (.value val) w'\/(s.run P w= .ok .skip w'/\val=undef))/\AR C' v val/\HR C' (fY hf up) wr w'/\
  C.Le C'/\(∀n,C'.al n↔C.al n\/n=nm)/\Wf wr w w'/\(∀b,b<base->C'.rd b=C.rd b)/\BI base C C' hf (fY hf up)
section
variable {P:Program} {C:Cx} {hf:Nat->Option aC} {wr:Nat->Prop} {base nm:Nat} {w:World} {tf:Nat->AV}
variable {b q z:Nat} {v:Value}
theorem dI.CU {s:Sem Next} {v:AV} {val:Value} (h:HR C hf wr w) (hrun:s.run P w= .ok (.value val) w) (hv:AR C v val):dI P C hf wr base nm s w v []:=
 ⟨val,w,C.give nm, .inl hrun,hv.mono (C.kG nm),h.give nm,C.kG nm,fun _=>iN,Wf.refl _ _,fun _ _=>rfl, .mu rfl⟩
theorem dI.val {s:Sem Value} {v:AV} {val:Value} (h:HR C hf wr w) (hrun:s.run P w= .ok val w) (hv:AR C v val):dI P C hf wr base nm (vS s) w v []:=
 .CU h (by simp[vS,hrun]) hv
theorem yp {x:Bool} (h:AR C (.v (.b x)) v):v= .bool x:=by cases h with|v h=>cases h;rfl
theorem fJ {k:IntKind} {n:Int} (h:AR C (.v (.i k n)) v):v= .int k n:=by cases h with|v h=>cases h;rfl
theorem yq {x:Bytes} (h:AR C (.v (.s x)) v):v= .string ⟨x.toArray⟩:=by cases h with|v h=>cases h;rfl
theorem Ov {op:BinOp} {k k':IntKind} {x y:Int} {ao:AO} (h:QO op k x k' y=some ao) (hp:ao.pre) (t:TypeId) (ox oy:Operand) (w:World):
  ∃val,(do eqGuard op t ox oy (.int k x) (.int k' y);binOp op t (.int k x) (.int k' y):Sem Value).run P w= .ok val w/\AR C ao.v val/\ao.up=[]:=by
 cases op<;>simp only[QO,my,Gu,EJ,Ic,dm,ai]at h<;>subst h<;>(simp only at hp)
 case shl=>exact⟨_,by simp[eqGuard,binOp,Op.shift,show¬y<0 from by omega], .v (.i _ _),rfl⟩
 case shr=>exact⟨_,by simp[eqGuard,binOp,Op.shift,show¬y<0 from by omega], .v (.i _ _),rfl⟩
 case quo=>obtain⟨rfl,h0⟩:=hp;exact⟨_,by simp[eqGuard,binOp,Op.intDiv,h0], .v (.i _ _),rfl⟩
 case rem=>obtain⟨rfl,h0⟩:=hp;exact⟨_,by simp[eqGuard,binOp,Op.intDiv,h0], .v (.i _ _),rfl⟩
 case add=>subst hp;exact⟨_,by simp[eqGuard,binOp,Op.intArith], .v (.i _ _),rfl⟩
 case sub=>subst hp;exact⟨_,by simp[eqGuard,binOp,Op.intArith], .v (.i _ _),rfl⟩
 case mul=>subst hp;exact⟨_,by simp[eqGuard,binOp,Op.intArith], .v (.i _ _),rfl⟩
 case and=>subst hp;exact⟨_,by simp only[eqGuard,binOp,Op.intBits];simp, .v (.i _ _),rfl⟩
 case or=>subst hp;exact⟨_,by simp only[eqGuard,binOp,Op.intBits];simp, .v (.i _ _),rfl⟩
 case xor=>subst hp;exact⟨_,by simp only[eqGuard,binOp,Op.intBits];simp, .v (.i _ _),rfl⟩
 case andNot=>subst hp;exact⟨_,by simp only[eqGuard,binOp,Op.intBits];simp, .v (.i _ _),rfl⟩
 case eql=>subst hp;exact⟨_,by simp[eqGuard,binOp,Op.intCmp], .v (.b _),rfl⟩
 case neq=>subst hp;exact⟨_,by simp[eqGuard,binOp,Op.intCmp], .v (.b _),rfl⟩
 case lss=>subst hp;exact⟨_,by simp[eqGuard,binOp,Op.intCmp], .v (.b _),rfl⟩
 case leq=>subst hp;exact⟨_,by simp[eqGuard,binOp,Op.intCmp], .v (.b _),rfl⟩
 case gtr=>subst hp;exact⟨_,by simp[eqGuard,binOp,Op.intCmp], .v (.b _),rfl⟩
 case geq=>subst hp;exact⟨_,by simp[eqGuard,binOp,Op.intCmp], .v (.b _),rfl⟩
theorem Ow {op:BinOp} {x y:Bytes} {ao:AO} (h:RT op x y=some ao) (hp:ao.pre) (t:TypeId) (ox oy:Operand) (w:World):
  ∃val,(do eqGuard op t ox oy (.string ⟨x.toArray⟩) (.string ⟨y.toArray⟩);binOp op t (.string ⟨x.toArray⟩) (.string ⟨y.toArray⟩):Sem Value).run P w= .ok val w/\AR C ao.v val/\ao.up=[]:=by
 cases op<;>simp only[RT,dm,cM,ai,reduceCtorEq]at h<;>subst h<;>(simp only at hp)
 case add=>
  have h1: ¬(((ByteArray.mk x.toArray).size+(ByteArray.mk y.toArray).size:Nat):Int)>IntKind.i64.max:=by
   have e1:(ByteArray.mk x.toArray).size=x.length:=by simp[ByteArray.size]
   have e2:(ByteArray.mk y.toArray).size=y.length:=by simp[ByteArray.size]
   have e3:IntKind.i64.max=9223372036854775807:=by decide
   rw[e1,e2,e3];omega
  have e:(ByteArray.mk x.toArray++ByteArray.mk y.toArray)=ByteArray.mk (x++y).toArray:=by
   apply ByteArray.ext;simp
  refine⟨.string ⟨(x++y).toArray⟩,?_, .v (.s _),rfl⟩;rw[<-e];simp only[eqGuard,binOp,Op.stringOp,h1];simp
 case eql=>exact⟨_,by simp[eqGuard,binOp,Op.stringOp], .v (.b _),rfl⟩
 case neq=>exact⟨_,by simp[eqGuard,binOp,Op.stringOp], .v (.b _),rfl⟩
 case lss=>exact⟨_,by simp[eqGuard,binOp,Op.stringOp], .v (.b _),rfl⟩
 case leq=>exact⟨_,by simp only[eqGuard,binOp,Op.stringOp,ByteArray.toList_mk];simp, .v (.b _),rfl⟩
 case gtr=>exact⟨_,by simp only[eqGuard,binOp,Op.stringOp,ByteArray.toList_mk];simp, .v (.b _),rfl⟩
 case geq=>exact⟨_,by simp[eqGuard,binOp,Op.stringOp], .v (.b _),rfl⟩
theorem vw {n ver q:Nat} (h:AR C (.p n ver q) v) {ob:aC} (hh:HR C hf wr w) (hn:hf n=some ob) (hv:ob.ver=ver):v= .pointer (some ⟨C.mu n,q,none⟩):=by
 cases h with
 |p n ver o b ha hm h=>rw[(h _ (hh.live _ _ hn).2).2 hv.symm]
theorem Ko {n ver q:Nat} (h:AR C (.p n ver q) v):C.mpn n=false:=by
 cases h with
 |p n ver o b ha hm h=>exact hm
theorem NC {n ver o len z:Nat} (h:AR C (.rs n ver o len z) v):C.mpn n=false:=by
 cases h with
 |rs n ver o len z b o' cap ha hm hc ho h=>exact hm
theorem fI (b q k:Nat):(⟨b,q,none⟩:Addr).add k=⟨b,q+k,none⟩:=by unfold Addr.add;split<;>simp_all
theorem pZ (hh:HR C hf wr w) {n:Nat} {ob:aC} (hn:hf n=some ob) (hm:C.mpn n=false) (hz:q+z<=ob.cells.length):
  ∃vs:List Value,(loadCells ⟨C.mu n,q,none⟩ z).run P w= .ok vs.toArray w/\bC (AR C) ((ob.cells.drop q).take z) vs:=by
 obtain⟨cs,el,h1,h2,h3,h4,h5⟩:=hh.obj n ob hn hm;have hr:bC (AR C) ob.cells (cs.toList.take ob.cells.length):=by
  refine⟨by simp;omega,fun k x v hx hv=>h5 k x v hx ?_⟩
  rw[fU]at hv
  split at hv
  ·simpa using hv
  ·cases hv
 refine⟨((cs.toList.take ob.cells.length).drop q).take z,?_,(hr.drop q).take z⟩;have hlen:(((cs.toList.take ob.cells.length).drop q).take z).length=z:=by simp;omega
 have:=run_loadCells_list (P:=P) w ⟨C.mu n,q,none⟩ (((cs.toList.take ob.cells.length).drop q).take z) (by
  intro j v hv;rw[fI,cell_of_heap h1];rw[fU]at hv
  split at hv
  ·rw[kM,fU]at hv
   split at hv
   ·simpa using hv
   ·cases hv
  ·cases hv)
 rw[hlen]at this;exact this
theorem oU (hh:HR C hf wr w) (vs:List Value) (hr: ∀(k:Nat) (v:Value),vs[k]?=some v->C.rd b (q+k)=some v) (o z:Nat) (hz:o+z<=vs.length):
  (loadCells ⟨b,q+o,none⟩ z).run P w= .ok ((vs.drop o).take z).toArray w:=by
 have hlen:((vs.drop o).take z).length=z:=by simp;omega
 have:=run_loadCells_list (P:=P) w ⟨b,q+o,none⟩ ((vs.drop o).take z) (by
  intro j v hv;rw[fI];refine hh.rdw _ _ _ ?_;rw[fU]at hv
  split at hv
  ·rw[kM]at hv;rw[lk];exact hr _ _ hv
  ·cases hv)
 rw[hlen]at this;exact this
theorem gi {t:TypeId} {ag:Bool} (h:kf P t=some ag) (w:World):(isAgg t).run P w= .ok ag w:=by
 unfold kf at h
 split at h<;>first|(cases h;done)|skip
 all_goals (simp at h;subst h;rename_i hu;simp[isAgg,run_underlying hu])
theorem cZ {t:TypeId} (h:cJ P t=some z) (w:World):(sizeOf t).run P w= .ok z w:=by
 unfold cJ at h;simp only[dM]at h;obtain⟨i,hi,rfl⟩:=h;simp[sizeOf,typeInfo,hi]
theorem yD (h:(loadCells ⟨b,q,none⟩ 1).run P w= .ok #[v] w):(load ⟨b,q,none⟩).run P w= .ok v w:=by
 simp only[loadCells,loadCellsFrom,bT,fI,Nat.add_zero]at h
 cases hl:(load ⟨b,q,none⟩).run P w with
 |ok u w'=>rw[hl]at h;simp[Result.andThen]at h;obtain⟨rfl,rfl⟩:=h;rfl
 |halt x w'=>rw[hl]at h;simp[Result.andThen]at h
end
end Go.Dom
namespace Go.Dom
open Go.RowKit
section
variable {P:Program} {C:Cx} {hf:Nat->Option aC} {wr:Nat->Prop} {base nm:Nat} {w:World} {tf:Nat->AV}
variable {t:TypeId} {x y:Value}
theorem take_one {α:Type} {l:List α} {q:Nat} (h:q<l.length):(l.drop q).take 1=[l[q]]:=by
 rw[jL h];rfl
theorem mS {α:Type} {l:List α} {q:Nat} (h:q<l.length) (d:α):l.getD q d=l[q]:=by
 simp[bR,h]
theorem XK (h:HR C hf wr w) {ag:Bool} {z:Nat} (hag:kf P t=some ag) (hz:cJ P t=some z) (h1:ag=true\/z=1)
  {vx:AV} (hx:AR C vx x) {ao:AO}
  (ha:WZ hf ag z vx=some ao) (hp:ao.pre):dI P C hf wr base nm (vS (Instr.loadAt t x)) w ao.v ao.up:=by
 unfold WZ at ha
 replace hx:=hx.nz
 generalize vx.nz=vx at hx ha
 cases vx<;>first|(simp at ha;done)|skip
 case p n ver q=>
  simp only at ha
  cases hn:hf n with
  |none=>simp[hn]at ha
  |some ob=>
   simp only[hn,ai]at ha;subst ha;obtain⟨hv,hlen⟩:=hp;have hval:=vw hx h hn hv;have hm:=Ko hx;subst hval;obtain⟨vs,hrun,hrel⟩:=pZ (P:=P) h hn hm hlen
   cases ag with
   |true=>
    refine .val h (val:= .agg vs.toArray) ?_ (.jv hrel);simp only[Instr.loadAt,Instr.sureAddr,loadVar,bT,Sem.run_pure,Result.andThen,gi hag,cZ hz,hrun,aA]
   |false=>
    have hz1:z=1:=by simpa using h1
    subst hz1;have hlen':q<ob.cells.length:=by omega
    rw[take_one hlen']at hrel;obtain⟨v,us,rfl,hv1,hnil⟩:=hrel.fO;rw[hnil.dx]at hrun;refine .val h (val:=v) ?_ (by simp only[bQ,ak];rw[mS hlen'];exact hv1)
    simp only[Instr.loadAt,Instr.sureAddr,loadVar,bT,Sem.run_pure,Result.andThen,gi hag,bQ,ak,yD hrun]
 case pp y q=>
  simp only[ai]at ha;subst ha
  cases hx with
  |pp x o' vs bk of h1' hl hr hrel=>
   have hlen:q+z<=vs.length:=by have:q+z<=y.cells.length:=hp;omega
   have hrun:=oU (P:=P) h vs hr q z hlen;have hrl:bC (PR C.rd) y.cells vs:=⟨hl,hrel⟩;have hrl':=(hrl.drop q).take z
   cases ag with
   |true=>
    refine .val h (val:= .agg ((vs.drop q).take z).toArray) ?_ (.v (.agg _ _ (fun x hx=>h1' x (pd (kO hx))) hrl'.1 hrl'.2))
    simp only[Instr.loadAt,Instr.sureAddr,loadVar,bT,Sem.run_pure,Result.andThen,gi hag,cZ hz,hrun,aA]
   |false=>
    have hz1:z=1:=by simpa using h1
    subst hz1;have hlen':q<y.cells.length:=by have:q+1<=y.cells.length:=hp;omega
    rw[take_one hlen']at hrl';obtain⟨v,us,he,hv1,hnil⟩:=hrl'.fO;rw[hnil.dx]at he;rw[he]at hrun;refine .val h (val:=v) ?_ (by simp only[bQ,ak];rw[mS hlen'];exact .v hv1)
    simp only[Instr.loadAt,Instr.sureAddr,loadVar,bT,Sem.run_pure,Result.andThen,gi hag,bQ,ak,yD hrun]
theorem NM (h:HR C hf wr w) {op:BinOp} (ox oy:Operand) {vx vy:AV} (hx:AR C vx x) (hy:AR C vy y) {ao:AO}
  (ha:PA op vx vy=some ao) (hp:ao.pre):dI P C hf wr base nm (vS (do eqGuard op t ox oy x y;binOp op t x y)) w ao.v ao.up:=by
 unfold PA at ha
 split at ha
 ·skip
  have e1:=fJ hx;have e2:=fJ hy;subst e1;subst e2;obtain⟨val,hrun,hv,hup⟩:=Ov (P:=P) (C:=C) ha hp t ox oy w;rw[hup];exact .val h hrun hv
 ·skip
  have e1:=yq hx;have e2:=yq hy;subst e1;subst e2;obtain⟨val,hrun,hv,hup⟩:=Ow (P:=P) (C:=C) ha hp t ox oy w;rw[hup];exact .val h hrun hv
 ·cases ha
theorem run_equalIn_bool (d:Nat) (ht:P.underlying t=some .bool) (p q:Bool) (w:World):(Op.equalIn (d+1) t (.bool p) (.bool q)).run P w= .ok (p==q) w:=by
 simp[Op.equalIn,run_underlying ht]
theorem run_equal_bool (ht:P.underlying t=some .bool) (p q:Bool) (w:World):(Op.equal t (.bool p) (.bool q)).run P w= .ok (p==q) w:=run_equalIn_bool 9999 ht p q w
theorem NL (h:HR C hf wr w) {ng:Bool} (ox oy:Operand) (ht:P.underlying t=some .bool) {p q:Bool} (hx:AR C (.v (.b p)) x) (hy:AR C (.v (.b q)) y):
  dI P C hf wr base nm (vS (do eqGuard (if ng then .neq else .eql) t ox oy x y;binOp (if ng then .neq else .eql) t x y)) w (.v (.b (if ng then !(p==q)else p==q))) []:=by
 have e1:=yp hx;have e2:=yp hy;subst e1;subst e2;refine .val h (val:= .bool (if ng then !(p==q)else p==q)) ?_ (.v (.b _))
 cases ng<;>simp only[bQ,ak,aA,eqGuard,binOp,bT,Sem.run_pure,Result.andThen,run_equal_bool ht]<;>simp
theorem XM (h:HR C hf wr w) {op:UnOp} {vx:AV} (hx:AR C vx x) {ao:AO}
  (ha:Y6 op vx=some ao):dI P C hf wr base nm (vS (Op.unary op x)) w ao.v ao.up:=by
 unfold Y6 at ha
 split at ha
 ·simp only[cM,ai]at ha;subst ha
  skip
  have e:=yp hx;subst e;exact .val h (val:= .bool _) (by simp[Op.unary]) (.v (.b _))
 ·simp only[cM,ai]at ha;subst ha
  skip
  have e:=fJ hx;subst e;exact .val h (val:= .int _ _) (by simp only[Op.unary,Op.intArith];rfl) (.v (.i _ _))
 ·simp only[cM,ai]at ha;subst ha
  skip
  have e:=fJ hx;subst e;exact .val h (val:= .int _ _) (by simp only[Op.unary,Op.intBits];rfl) (.v (.i _ _))
 ·cases ha
theorem Ve (h:HR C hf wr w) {s d:TypeId} {ks k:IntKind} (hs:P.underlying s=some (.int ks)) (hd:P.underlying d=some (.int k)) {k':IntKind} {n:Int} (hx:AR C (.v (.i k' n)) x):
  dI P C hf wr base nm (vS (convert s d x)) w (.v (.i k (k.wrap n))) []:=by
 have e:=fJ hx;subst e;exact .val h (val:= .int k (k.wrap n)) (by simp[convert,run_underlying hs,run_underlying hd,Conv.intToInt]) (.v (.i _ _))
theorem Vf (h:HR C hf wr w) {s d:TypeId} (hs:P.underlying s=some .string) (hd:P.underlying d=some .string) {b:Bytes} (hx:AR C (.v (.s b)) x):
  dI P C hf wr base nm (vS (convert s d x)) w (.v (.s b)) []:=by
 have e:=yq hx;subst e;exact .val h (val:= .string _) (by simp[convert,run_underlying hs,run_underlying hd]) (.v (.s _))
end
end Go.Dom
namespace Go.Dom
open Go.RowKit
variable {z:Nat}
inductive OR (C:Cx):Option AV->Option Value->Prop where
 |none:OR C none none
 |some {x:AV} {v:Value} (h:AR C x v):OR C (some x) (some v)
theorem MP {l:List PV} (hz: ∀x∈l,x.cells.length=z) {i:Nat} (hi:i<l.length):((l.flatMap PV.cells).drop (i*z)).take z=l[i].cells:=by
 induction l generalizing i with
 |nil=>simp at hi
 |cons x l ih=>
  have hx:x.cells.length=z:=hz x (by simp)
  cases i with
  |zero=>simp[fP,<-hx]
  |succ i=>
   rw[fP,kz,gJ,<-List.drop_drop];have:(x.cells++l.flatMap PV.cells).drop z=l.flatMap PV.cells:=by rw[<-hx];simp
   rw[this];simpa using ih (fun y hy=>hz y (by simp[hy])) (by simpa using hi)
theorem yd {l:List PV} (hz: ∀x∈l,x.cells.length=z):(l.flatMap PV.cells).length=l.length*z:=by
 induction l with
 |nil=>simp
 |cons x l ih=>
  rw[fP,bU,hz x (by simp),ih fun y hy=>hz y (by simp[hy])]
  simp[kz];omega
theorem J5 {l:List PV} (hz: ∀x∈l,x.cells.length=z) (h:Nat):(l.take h).flatMap PV.cells=(l.flatMap PV.cells).take (h*z):=by
 induction l generalizing h with
 |nil=>simp
 |cons x l ih=>
  cases h with
  |zero=>simp
  |succ h=>
   have hx:x.cells.length=z:=hz x (by simp)
   rw[List.take_succ_cons,fP,fP,Dh,ih fun y hy=>hz y (by simp[hy])]
   have e1:x.cells.take ((h+1)*z)=x.cells:=dc (by rw[hx,kz];omega)
   have e2:(h+1)*z-z=h*z:=by rw[kz];omega
   rw[e1,hx,e2]
theorem J4 {l:List PV} (hz: ∀x∈l,x.cells.length=z) (h:Nat):(l.drop h).flatMap PV.cells=(l.flatMap PV.cells).drop (h*z):=by
 induction l generalizing h with
 |nil=>simp
 |cons x l ih=>
  cases h with
  |zero=>simp
  |succ h=>
   have hx:x.cells.length=z:=hz x (by simp)
   rw[De,fP,List.drop_append,ih fun y hy=>hz y (by simp[hy])]
   have e1:x.cells.drop ((h+1)*z)=[]:=jM (by rw[hx,kz];omega)
   have e2:(h+1)*z-z=h*z:=by rw[kz];omega
   rw[e1,hx,e2,List.nil_append]
theorem PR.sub {rd:Rd} {l:List PV} {q:Option Addr} {len cap:Nat} (h:PR rd (.sl l) (.slice q len cap)) {lo hi:Nat} (hz: ∀x∈l,x.cells.length=z) (h1:lo<=hi) (h2:hi<=l.length):
  PR rd (.sl ((l.take hi).drop lo)) (.slice (if cap=lo then q else q.map (·.add (lo*z))) (hi-lo) (cap-lo)):=by
 cases h with
 |sl0=>
  simp at h2;have h3:hi=0:=h2;have h4:lo=0:=by omega
  subst h3;subst h4;simpa using PR.sl0
 |sle a cap=>
  simp at h2;have h3:hi=0:=h2;have h4:lo=0:=by omega
  subst h3;subst h4;have e:a.add 0=a:=by simp[Addr.add]
  have:=PR.sle (rd:=rd) a cap
  by_cases hc:cap=0
  ·subst hc;simpa using this
  ·simpa[hc,e]using this
 |sl l z' vs bk of cap hc hz' h1' hl hr h=>
  have hlen:((l.take hi).drop lo).length=hi-lo:=by simp;omega
  have hfl:=yd hz;have hsub:((l.take hi).drop lo).flatMap PV.cells=((l.flatMap PV.cells).take (hi*z)).drop (lo*z):=by
   rw[J4 (z:=z) (fun x hx=>hz x (kO hx)),J5 hz]
  have hrel:bC (PR rd) (l.flatMap PV.cells) vs:=⟨hl,h⟩;have hrel':=(hrel.take (hi*z)).drop (lo*z)
  by_cases hcap:cap=lo
  ·have h3:hi-lo=0:=by omega
   rw[ah hcap,h3];have h4:(l.take hi).drop lo=[]:=by apply kD;omega
   rw[h4];exact .sl [] 0 [] bk of (cap-lo) (by simp) (by simp) (by simp) (by simp) (by simp) (by simp)
  ·rw[af hcap];simp only[Option.map_some,fI];have:=PR.sl (rd:=rd) ((l.take hi).drop lo) z ((vs.take (hi*z)).drop (lo*z)) bk (of+lo*z) (cap-lo) (by omega)
    (fun x hx=>hz x (kO (pd hx)))
    (by rw[hsub];exact fun y hy=>h1' y (kO (pd hy)))
    (by rw[hsub];exact hrel'.1)
    (by
     intro k v hv;rw[kM,fU]at hv
     split at hv
     ·rw[lk];exact hr _ _ hv
     ·cases hv)
    (by rw[hsub];exact hrel'.2)
   rw[hlen]at this;exact this
section
variable {P:Program} {C:Cx} {hf:Nat->Option aC} {wr:Nat->Prop} {base nm:Nat} {w:World} {tf:Nat->AV}
variable {cap len:Nat} {vhi vlo:Option AV} {xhi xlo:Option Value}
theorem kn {sl:Bool} {l h:Nat} {p:Prop} (hb:bounds len vlo vhi=some (l,h,p)) (hp:p) (hlo:OR C vlo xlo) (hhi:OR C vhi xhi) (hc:len<=cap):
  (Instr.sliceBounds sl len cap xlo xhi none).run P w= .ok (l,h,cap) w/\l<=h/\h<=len:=by
 unfold bounds at hb
 split at hb
 ·simp only[ai,dJ]at hb;obtain⟨rfl,rfl,rfl⟩:=hb
  cases hlo;cases hhi
  exact⟨by simp[Instr.sliceBounds],by omega,by omega⟩
 ·simp only[ai,dJ]at hb;obtain⟨rfl,rfl,rfl⟩:=hb
  cases hlo with|some h1=> ?_
  cases hhi;have e:=fJ h1;subst e;refine⟨?_,by omega,by omega⟩
  simp only[Instr.sliceBounds,bT,Sem.run_pure,Result.andThen];rw[run_sliceBound _ _ _ _ _ hp.1 hp.2]
 ·simp only[ai,dJ]at hb;obtain⟨rfl,rfl,rfl⟩:=hb;cases hlo
  cases hhi with|some h1=> ?_
  have e:=fJ h1;subst e;refine⟨?_,by omega,by omega⟩
  simp only[Instr.sliceBounds,bT,Sem.run_pure,Result.andThen];rw[run_sliceBound _ _ _ _ _ hp.1 (by omega)]
 ·simp only[ai,dJ]at hb;obtain⟨rfl,rfl,rfl⟩:=hb
  cases hlo with|some h1=> ?_
  cases hhi with|some h2=> ?_
  have e:=fJ h1;subst e;have e:=fJ h2;subst e;refine⟨?_,by omega,by omega⟩
  simp only[Instr.sliceBounds,bT,Sem.run_pure,Result.andThen];rw[run_sliceBound _ _ _ _ _ (by omega) (by omega)]
  simp only[Result.andThen];rw[run_sliceBound _ _ _ _ _ (by omega) (by omega)]
 ·cases hb
theorem Vu (h:HR C hf wr w) {t:TypeId} (ht:P.underlying t=some .string) {b:Bytes} {x:Value} (hx:AR C (.v (.s b)) x) (hlo:OR C vlo xlo) (hhi:OR C vhi xhi)
  {l hh:Nat} {p:Prop} (hb:bounds b.length vlo vhi=some (l,hh,p)) (hp:p):dI P C hf wr base nm (vS (Instr.sliceAt t x xlo xhi none)) w (.v (.s ((b.take hh).drop l))) []:=by
 have e:=yq hx;subst e;have es:(ByteArray.mk b.toArray).size=b.length:=by simp[ByteArray.size]
 obtain⟨hrun,h1,h2⟩:=kn (P:=P) (w:=w) (sl:=false) (cap:=b.length) hb hp hlo hhi (aB _);refine .val h (val:= .string ⟨((b.take hh).drop l).toArray⟩) ?_ (.v (.s _));have hx:(ByteArray.mk b.toArray).extract l hh=⟨((b.take hh).drop l).toArray⟩:=by
  apply ByteArray.ext;simp[wW]
 simp only[Instr.sliceAt,Instr.slice,bT,run_underlying ht,Result.andThen,Option.isSome_none,bQ,ak,Sem.run_pure,es,hrun,hx]
theorem CA (h:HR C hf wr w) {t e:TypeId} (ht:P.underlying t=some (.slice e)) (hz:cJ P e=some z) {ls:List PV} {q:Option Addr} (hx:PR C.rd (.sl ls) (.slice q len cap)) (hlo:OR C vlo xlo) (hhi:OR C vhi xhi)
  {l hh:Nat} {p:Prop} (hb:bounds ls.length vlo vhi=some (l,hh,p)) (hp:p) (hzz: ∀x∈ls,x.cells.length=z):dI P C hf wr base nm (vS (Instr.sliceAt t (.slice q len cap) xlo xhi none)) w (.v (.sl ((ls.take hh).drop l))) []:=by
 have hlen:len=ls.length/\ls.length<=cap:=by cases hx<;>simp_all
 obtain⟨hlen,hcap⟩:=hlen;subst hlen;obtain⟨hrun,h1,h2⟩:=kn (P:=P) (w:=w) (sl:=true) (cap:=cap) hb hp hlo hhi hcap;refine .val h (val:= .slice (if cap=l then q else q.map (·.add (l*z))) (hh-l) (cap-l)) ?_ (.v (hx.sub hzz h1 h2))
 simp only[Instr.sliceAt,Instr.slice,bT,run_underlying ht,Result.andThen,Sem.run_pure,hrun,cZ hz]
end
end Go.Dom
namespace Go.Dom
open Go.RowKit
section
variable {P:Program} {C:Cx} {hf:Nat->Option aC} {wr:Nat->Prop} {base nm:Nat} {w:World} {tf:Nat->AV}
variable {e t:TypeId} {kh km:IntKind} {p:Prop} {vhi vlo:Option AV} {xhi xlo:Option Value}
theorem Vt (h:HR C hf wr w) (ht:P.underlying t=some (.slice e)) {z:Nat} (hz:cJ P e=some z) {n ver o len:Nat} {x:Value} (hx:AR C (.rs n ver o len z) x) (hlo:OR C vlo xlo) (hhi:OR C vhi xhi)
  {l hh:Nat} (hb:bounds len vlo vhi=some (l,hh,p)) (hp:p):dI P C hf wr base nm (vS (Instr.sliceAt t x xlo xhi none)) w (.rs n ver (o+l*z) (hh-l) z) []:=by
 cases hx with
 |rs n ver o len z b o' cap ha hm hc ho hx=>
 obtain⟨hrun,h1,h2⟩:=kn (P:=P) (w:=w) (sl:=true) (cap:=cap) hb hp hlo hhi hc;refine .val h (val:= .slice (if cap=l then some ⟨b,o',none⟩else(some ⟨b,o',none⟩:Option Addr).map (·.add (l*z))) (hh-l) (cap-l)) ?_ ?_
 ·simp only[Instr.sliceAt,Instr.slice,bT,run_underlying ht,Result.andThen,Sem.run_pure,hrun,cZ hz]
 ·by_cases hcl:cap=l
  ·rw[ah hcl];refine .rs n ver _ _ z b o' _ ha hm (by omega) (.inl (by omega)) fun c hc'=> ?_
   obtain⟨h3,h4⟩:=hx c hc';refine⟨h3,fun e=>⟨(h4 e).1,?_⟩⟩
   have:=(h4 e).2;rw[hcl]at this;simp[hcl];exact this
  ·rw[af hcl];simp only[Option.map_some,fI];refine .rs n ver _ _ z b _ _ ha hm (by omega) (.inr ?_) fun c hc'=> ?_
   ·have:cap≠0:=by omega
    rcases ho with ho|ho
    ·omega
    ·rw[ho]
   ·obtain⟨h3,h4⟩:=hx c hc';refine⟨h3,fun e=>⟨(h4 e).1,?_⟩⟩
    have:=(h4 e).2;have h5:l*z+(cap-l)*z=cap*z:=by rw[<-cO];congr 1;omega
    omega
theorem Vs (h:HR C hf wr w) {cnt:Nat} (ht:P.underlying t=some (.array cnt e)) {z:Nat} (hz:cJ P e=some z) {n ver o:Nat} {x:Value} (hx:AR C (.p n ver o) x) {ob:aC} (hn:hf n=some ob) (hver:ob.ver=ver) (hlen:o+cnt*z<=ob.cells.length)
  (hlo:OR C vlo xlo) (hhi:OR C vhi xhi)
  {l hh:Nat} (hb:bounds cnt vlo vhi=some (l,hh,p)) (hp:p):dI P C hf wr base nm (vS (Instr.sliceAt t x xlo xhi none)) w (.rs n ver (o+l*z) (hh-l) z) []:=by
 have hal:=(h.live n ob hn).1;have hcur:=(h.live n ob hn).2;have hm:=Ko hx;have e:=vw hx h hn hver;subst e;obtain⟨hrun,h1,h2⟩:=kn (P:=P) (w:=w) (sl:=false) (cap:=cnt) hb hp hlo hhi (aB _);obtain⟨cs,el,hh1,hh2,hh3,-⟩:=h.obj n ob hn hm;refine .val h (val:= .slice (some (if cnt=l then⟨C.mu n,o,none⟩else(⟨C.mu n,o,none⟩:Addr).add (l*z))) (hh-l) (cnt-l)) ?_ ?_
 ·simp only[Instr.sliceAt,bT,run_underlying ht,Result.andThen,Sem.run_pure,Instr.sureAddr,hrun,cZ hz]
 ·have h5:l*z+(cnt-l)*z=cnt*z:=by rw[<-cO];congr 1;omega
  have key: ∀c,C.cur n=some c->ver<=c/\(ver=c->C.mu n=C.mu n/\o+l*z+(cnt-l)*z<=C.sz n):=by
   intro c hc;rw[hcur]at hc;injection hc with hc;subst hc
   exact⟨by omega,fun _=>⟨rfl,by omega⟩⟩
  by_cases hcl:cnt=l
  ·rw[ah hcl];exact .rs n ver _ _ z _ o _ hal hm (by omega) (.inl (by omega)) key
  ·rw[af hcl,fI];exact .rs n ver _ _ z _ _ _ hal hm (by omega) (.inr rfl) key
theorem yZ (h:HR C hf wr w) (ht:P.underlying t=some (.slice e)) {z:Nat} (hz:cJ P e=some z) {ls:List PV} {q:Option Addr} {len cap:Nat} (hx:PR C.rd (.sl ls) (.slice q len cap)) (hlo:OR C vlo xlo)
  {hi mx:Int} {l hh:Nat} (hb:bounds ls.length vlo (some (.v (.i kh hi)))=some (l,hh,p)) (hp:p) (hm:mx=hi) (hzz: ∀x∈ls,x.cells.length=z):
  dI P C hf wr base nm (vS (Instr.sliceAt t (.slice q len cap) xlo (some (.int kh hi)) (some (.int km mx)))) w (.fs ((ls.take hh).drop l)) []:=by
 have hlen:len=ls.length/\ls.length<=cap:=by cases hx<;>simp_all
 obtain⟨hlen,hcap⟩:=hlen;subst hlen;subst hm;obtain⟨-,h1,h2⟩:=kn (P:=P) (w:=w) (sl:=true) (cap:=cap) hb hp hlo (.some (.v (.i kh mx))) hcap;have hhe:hh=mx.toNat/\0<=mx/\mx<=ls.length/\((vlo=none/\l=0)\/ ∃kl lo,vlo=some (.v (.i kl lo))/\l=lo.toNat/\0<=lo/\lo<=mx):=by
  unfold bounds at hb
  split at hb<;>simp only[ai,dJ,reduceCtorEq]at hb
  ·rename_i heq;cases heq
  ·rename_i heq;cases heq
  ·rename_i heq;simp only[ai,AV.v.injEq,PV.i.injEq]at heq;obtain⟨rfl,rfl⟩:=heq;obtain⟨rfl,rfl,rfl⟩:=hb;exact⟨rfl,hp.1,hp.2, .inl ⟨rfl,rfl⟩⟩
  ·rename_i kl lo _ _ heq;simp only[ai,AV.v.injEq,PV.i.injEq]at heq;obtain⟨rfl,rfl⟩:=heq;obtain⟨rfl,rfl,rfl⟩:=hb;exact⟨rfl,by omega,by omega, .inr ⟨_,_,rfl,rfl,by omega,by omega⟩⟩
 obtain⟨rfl,h3,h4,h5⟩:=hhe;have hsub:=hx.sub (z:=z) (lo:=l) (hi:=mx.toNat) hzz h1 h2;have hq: ∃a,(if mx.toNat=l then q else q.map (·.add (l*z)))=a/\PR C.rd (.sl ((ls.take mx.toNat).drop l)) (.slice a (mx.toNat-l) (mx.toNat-l)):=by
  refine⟨_,rfl,?_⟩;have hlen':((ls.take mx.toNat).drop l).length=mx.toNat-l:=by simp;omega
  by_cases e:mx.toNat=l
  ·rw[ah e];have h6:(ls.take mx.toNat).drop l=[]:=by apply kD;omega
   rw[h6,e,iX]
   cases hx with
   |sl0=>exact .sl0
   |sle a cap=>exact .sle a 0
   |sl l' z' vs bk of cap hc hz' h1' hl hr h=>exact .sl [] 0 [] bk of 0 (by simp) (by simp) (by simp) (by simp) (by simp) (by simp)
  ·rw[af e];have e':cap≠l:=by omega
   rw[af e']at hsub;generalize (ls.take mx.toNat).drop l=r at*;generalize q.map (·.add (l*z))=qq at*;rw[<-hlen']at hsub⊢;generalize cap-l=cap' at hsub;generalize hrr:r.length=rr at hsub⊢
   cases hsub with
   |sl0=>exact .sl0
   |sle a cap=>exact .sle a _
   |sl l' z' vs bk of cap hc hz' h1' hl hr h=>exact .sl _ z' vs bk of _ (aB _) hz' h1' hl hr h
 obtain⟨a,hqa,hpr⟩:=hq;have hlen':((ls.take mx.toNat).drop l).length=mx.toNat-l:=by simp;omega
 refine .val h (val:= .slice a (mx.toNat-l) (mx.toNat-l)) ?_ ?_
 ·have hb1:(Instr.sliceBounds true ls.length cap xlo (some (.int kh mx)) (some (.int km mx))).run P w= .ok (l,mx.toNat,mx.toNat) w:=by
   rcases h5 with⟨rfl,rfl⟩|⟨kl,lo,rfl,rfl,h6,h7⟩
   ·cases hlo;simp only[Instr.sliceBounds,bT,Sem.run_pure,Result.andThen];rw[run_sliceBound _ _ _ _ _ h3 (by omega)]
    simp only[Result.andThen];rw[run_sliceBound _ _ _ _ _ h3 (by omega)]
   ·cases hlo with|some h8=> ?_
    have e:=fJ h8;subst e;simp only[Instr.sliceBounds,bT,Sem.run_pure,Result.andThen];rw[run_sliceBound _ _ _ _ _ h3 (by omega)]
    simp only[Result.andThen];rw[run_sliceBound _ _ _ _ _ h3 (by omega)]
    simp only[Result.andThen];rw[run_sliceBound _ _ _ _ _ h6 (by omega)]
  simp only[Instr.sliceAt,Instr.slice,bT,run_underlying ht,Result.andThen,Sem.run_pure,hb1,cZ hz,hqa]
 ·have:=AR.fs (C:=C) ((ls.take mx.toNat).drop l) a (by rw[hlen'];exact hpr)
  rw[hlen']at this;exact this
theorem Rf (h:HR C hf wr w) (ht:P.underlying t=some (.slice e)) {z:Nat} (hz:cJ P e=some z) {n ver o len:Nat} {x:Value} (hx:AR C (.rs n ver o len z) x) (hlo:OR C vlo xlo)
  {hi mx:Int} {l hh:Nat} (hb:bounds len vlo (some (.v (.i kh hi)))=some (l,hh,p)) (hp:p) (hm:mx=hi):
  dI P C hf wr base nm (vS (Instr.sliceAt t x xlo (some (.int kh hi)) (some (.int km mx)))) w (.rs n ver (o+l*z) (hh-l) z) []:=by
 subst hm
 cases hx with
 |rs n ver o len z b o' cap ha hm hc ho hx=>
 obtain⟨-,h1,h2⟩:=kn (P:=P) (w:=w) (sl:=true) (cap:=cap) hb hp hlo (.some (.v (.i kh mx))) hc;have hhe:hh=mx.toNat/\0<=mx/\mx<=len/\((vlo=none/\l=0)\/ ∃kl lo,vlo=some (.v (.i kl lo))/\l=lo.toNat/\0<=lo/\lo<=mx):=by
  unfold bounds at hb
  split at hb<;>simp only[ai,dJ,reduceCtorEq]at hb
  ·rename_i heq;cases heq
  ·rename_i heq;cases heq
  ·rename_i heq;simp only[ai,AV.v.injEq,PV.i.injEq]at heq;obtain⟨rfl,rfl⟩:=heq;obtain⟨rfl,rfl,rfl⟩:=hb;exact⟨rfl,hp.1,hp.2, .inl ⟨rfl,rfl⟩⟩
  ·rename_i kl lo _ _ heq;simp only[ai,AV.v.injEq,PV.i.injEq]at heq;obtain⟨rfl,rfl⟩:=heq;obtain⟨rfl,rfl,rfl⟩:=hb;exact⟨rfl,by omega,by omega, .inr ⟨_,_,rfl,rfl,by omega,by omega⟩⟩
 obtain⟨rfl,h3,h4,h5⟩:=hhe;refine .val h (val:= .slice (if mx.toNat=l then some ⟨b,o',none⟩else(some ⟨b,o',none⟩:Option Addr).map (·.add (l*z))) (mx.toNat-l) (mx.toNat-l)) ?_ ?_
 ·have hb1:(Instr.sliceBounds true len cap xlo (some (.int kh mx)) (some (.int km mx))).run P w= .ok (l,mx.toNat,mx.toNat) w:=by
   rcases h5 with⟨rfl,rfl⟩|⟨kl,lo,rfl,rfl,h6,h7⟩
   ·cases hlo;simp only[Instr.sliceBounds,bT,Sem.run_pure,Result.andThen];rw[run_sliceBound _ _ _ _ _ h3 (by omega)]
    simp only[Result.andThen];rw[run_sliceBound _ _ _ _ _ h3 (by omega)]
   ·cases hlo with|some h8=> ?_
    have e:=fJ h8;subst e;simp only[Instr.sliceBounds,bT,Sem.run_pure,Result.andThen];rw[run_sliceBound _ _ _ _ _ h3 (by omega)]
    simp only[Result.andThen];rw[run_sliceBound _ _ _ _ _ h3 (by omega)]
    simp only[Result.andThen];rw[run_sliceBound _ _ _ _ _ h6 (by omega)]
  simp only[Instr.sliceAt,Instr.slice,bT,run_underlying ht,Result.andThen,Sem.run_pure,hb1,cZ hz]
 ·by_cases hcl:mx.toNat=l
  ·rw[ah hcl];refine .rs n ver _ _ z b o' _ ha hm (by omega) (.inl (by omega)) fun c hc'=> ?_
   obtain⟨h7,h8⟩:=hx c hc';refine⟨h7,fun e=>⟨(h8 e).1,?_⟩⟩
   have h9:=(h8 e).2;have h10:l*z<=cap*z:=cK _ (by omega)
   rw[hcl,iX,tO];omega
  ·rw[af hcl];simp only[Option.map_some,fI];refine .rs n ver _ _ z b _ _ ha hm (by omega) (.inr ?_) fun c hc'=> ?_
   ·have:cap≠0:=by omega
    rcases ho with ho|ho
    ·omega
    ·rw[ho]
   ·obtain⟨h7,h8⟩:=hx c hc';refine⟨h7,fun e=>⟨(h8 e).1,?_⟩⟩
    have h9:=(h8 e).2;have h10:l*z+(mx.toNat-l)*z=mx.toNat*z:=by rw[<-cO];congr 1;omega
    have h11:mx.toNat*z<=cap*z:=cK _ (by omega)
    omega
end
