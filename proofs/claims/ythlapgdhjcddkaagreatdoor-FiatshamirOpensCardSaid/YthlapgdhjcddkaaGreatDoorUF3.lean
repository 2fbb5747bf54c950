/- Part of the proof. -/
import Derived.Test.YthlapgdhjcddkaaGreatDoorUF2
set_option linter.all false
namespace Go.Dom
open Go.RowKit
def Sh:Value->Option AV
 | .bool b=>some (.v (.b b))
 | .int k n=>some (.v (.i k n))
 | .string s=>some (.v (.s s.data.toList))
 | .pointer none=>some (.v .p0)
 | .slice none 0 0=>some .sn
 | .nilFunc=>some (.v .fn0)
 | .nilIface=>some (.v .if0)
 | _=>none
def Cr (P:Program) (t:TypeId) (k:Nat):Bool:=match P.underlying t with
 |some .bool=>k==0
 |some .string=>k==1
 | _=>false
def Nb (P:Program) (sub:TypeId->List Nat->Bool):Nat->List Field->List Nat->Bool
 | _,[],[]=>true
 |q,f::fs,k::ks=>f.name != "_" &&f.offset==q&&(if Cr P f.type k then Nb P sub (q+1) fs ks else
  sub f.type ((k::ks).take (P.cellsOf f.type))&&Nb P sub (q+P.cellsOf f.type) fs ((k::ks).drop (P.cellsOf f.type)))
 | _,_,_=>false
def Sa (P:Program):Nat->TypeId->List Nat->Bool
 |0,_,_=>false
 |d+1,t,ks=>(match P.underlying t with
  |some (.struct fs)=>Nb P (Sa P d) 0 fs.toList ks
  | _=>false)&& !P.stoodInHeld t
def Wu (P:Program) (t:TypeId) (ks:List Nat):Bool:=Sa P 4 t ks&& !P.eqGuardType P.depth t
class cW (P:Program) where
 tab:List (Nat×List (IntKind×Int))
 pl:List (TypeId×List Nat)
 plOk: ∀q∈pl,Wu P q.1 q.2=true
def Qo (l:List (IntKind×Int)):List PV:=l.map fun p=> .i p.1 p.2
def TR (P:Program) [cW P]:Rd:=fun b o=>match (cW.tab P).lookup b with
 |some l=>(l[o]?).map fun p=> .int p.1 p.2
 |none=>none
def Yt (P:Program) [cW P] (g:Nat):AV:=
 match (cW.tab P).lookup g with
 |some l=> .pp (.agg (Qo l)) 0
 |none=> .u
def sx (P:Program) [cW P]:Operand->Option SX
 | .tmp t=>some (.t t)
 | .const v=>(Sh v).map .c
 | .func f=>some (.c (.v (.fn (.func f))))
 | .global g=>some (.c (Yt P g))
def TM (P:Program) [cW P] (C:Cx) (tf:Nat->AV) (a:Act):Prop:=(∀b o v,TR P b o=some v->C.rd b o=some v)/\ ∀k,AR C (tf k) (a.tmps.getD k undef)
def Bn (P:Program) [cW P]:Option Operand->Option (Option SX)
 |none=>some none
 |some x=>(sx P x).map some
def kS (P:Program) (t:TypeId):Option (List AV):=do
 let i<-P.info? t
 let z<-i.zero
 if z.cells.size=i.size then bA Sh z.cells.toList else none
def Ha (P:Program) (t:TypeId):Option PV:=do
 let i<-P.info? t
 let v<-i.zero
 match Sh v with
 |some (.v z)=>some z
 | _=>none
def lh (P:Program) (t:TypeId):Option Bool:=
 match P.underlying t with
 |some (.struct _)=>some true
 |some (.array _ _)=>some true
 |some _=>some false
 |none=>none
def dJ (P:Program) (t:TypeId):Option Nat:=(P.info? t).map (·.size)
def Pf (P:Program) [cW P] (fs:Array Field) (ps:Array (Nat×Operand)):Option (List (Nat×Nat×SX)):=
 bA (fun p=>do
  let f<-fs[p.1]?
  let z<-dJ P f.type
  let x<-sx P p.2
  some (f.offset,z,x)) ps.toList
def H4 (P:Program) [cW P] (z:Nat) (ps:Array (Nat×Operand)):Option (List (Nat×Nat×SX)):=
 bA (fun p=>do
  let x<-sx P p.2
  some (p.1*z,z,x)) ps.toList
def zU (P:Program) [cW P] (o:Oper) (c:Call):Option SO:=
 match c.callee with
 | .value f=>do
  let f<-sx P f
  let args<-bA (sx P) c.args.toList
  some (.call f args)
 | .builtin b=>
  match b,c.args.toList,c.argTypes.toList with
  | .len,[x],[t]=>match P.underlying t with
   |some .string=>do some (.lenS (<-sx P x))
   |some (.slice _)=>do some (.len (<-sx P x))
   |some (.array n _)=>some (.lenA n)
   | _=>none
  | .append,[x,y],[t,u]=>match P.underlying t,P.underlying u with
   |some (.slice e),some (.slice e')=>do
    let i<-P.info? e
    let z<-i.zero
    if z.cells.size=i.size/\0<i.size/\e=e'/\t=u then some (.app e i.size i.bytes (<-sx P x) (<-sx P y))else none
   |some (.slice e),some .string=>do
    let i<-P.info? e
    let z<-i.zero
    if z.cells.size=i.size/\i.size=1 then some (.app e i.size i.bytes (<-sx P x) (<-sx P y))else none
   | _,_=>none
  | .copy,[x,y],[t,u]=>match P.underlying t,P.underlying u with
   |some (.slice e),some (.slice _)=>do some (.cpy (<-dJ P e) (<-sx P x) (<-sx P y))
   |some (.slice e),some .string=>do
    if(<-dJ P e)=1 then some (.cpy 1 (<-sx P x) (<-sx P y))else none
   | _,_=>none
  | .clear,[x],[t]=>match P.underlying t with
   |some (.slice e)=>do some (.clr (<-kS P e) (<-sx P x))
   | _=>none
  | .max,[x,y],_=>do some (.mm true (<-sx P x) (<-sx P y))
  | .min,[x,y],_=>do some (.mm false (<-sx P x) (<-sx P y))
  | .unsafeSliceData,[x],_=>do some (.sld (<-sx P x))
  | .unsafeString,[x,y],[pt,_]=>match P.underlying pt with
   |some (.pointer e)=>do if P.cellsOf e=1 then some (.ust e (<-sx P x) (<-sx P y))else none
   | _=>none
  | _,_,_=>none
 | .invoke _ _=>none
def isW:List AV->Bool
 |[.v (.i .u32 _)]=>true
 | _=>false
def tq (P:Program) [cW P] (o:Oper):Option SO:=
 match o.op with
 | .move x=>do some (.mov (<-sx P x))
 | .assign x=>do some (.mov (<-sx P x))
 | .pick c a b=>do some (.pick (<-sx P c) (<-sx P a) (<-sx P b))
 | .alloc t=>do some (.alloc t (<-kS P t))
 | .box _ x=>do some (.box (<-sx P x))
 | .build t ps=>match P.underlying t with
  |some (.struct fs)=>do
   if fs.toList.all (fun f=>(dJ P f.type).isSome)then some (.build (<-kS P t) (<-Pf P fs ps))else none
  |some (.array _ e)=>do
   let z<-dJ P e
   some (.build (<-kS P t) (<-H4 P z ps))
  | _=>none
 | .buildSlice t n ps=>match P.underlying t with
  |some (.slice e)=>do
   let z<-dJ P e
   let ze<-kS P e
   let xs<-bA (sx P) (ps.toList.map (·.2))
   if ps.toList.map (·.1)=List.range n/\n*z<=16777216/\0<z then some (.bsl (isW ze) z xs)else none
  | _=>none
 | .load t x=>do
  let ag<-lh P t
  let z<-dJ P t
  if ag||z==1 then some (.ld ag z (<-sx P x))else none
 | .store t a x=>do
  let z<-dJ P t
  some (.st z (<-sx P a) (<-sx P x))
 | .binOp op t x y _=>match P.underlying t with
  |some (.int _)=>do some (.bin op (<-sx P x) (<-sx P y))
  |some .string=>do some (.bin op (<-sx P x) (<-sx P y))
  |some .bool=>match op with
   | .eql=>do some (.beq false (<-sx P x) (<-sx P y))
   | .neq=>do some (.beq true (<-sx P x) (<-sx P y))
   | _=>none
  |some (.pointer te)=>if(P.info? te).isSome then(match op with
   | .eql=>do some (.peq false (<-sx P x) (<-sx P y))
   | .neq=>do some (.peq true (<-sx P x) (<-sx P y))
   | _=>none)else none
  |some (.struct _)=>match op,(cW.pl P).find? (·.1==t)with
   | .eql,some q=>do some (.ceq false q.2 (<-sx P x) (<-sx P y))
   | .neq,some q=>do some (.ceq true q.2 (<-sx P x) (<-sx P y))
   | _,_=>none
  |some (.slice _)=>match op,y with
   | .eql, .const (.slice none 0 0)=>do some (.snl false (<-sx P x))
   | .neq, .const (.slice none 0 0)=>do some (.snl true (<-sx P x))
   | _,_=>none
  | _=>none
 | .unOp op _ x=>do some (.un op (<-sx P x))
 | .convert s d x=>match P.underlying s,P.underlying d with
  |some (.int _),some (.int k)=>do some (.cvi k (<-sx P x))
  |some .string,some .string=>do some (.cvs (<-sx P x))
  |some (.slice e),some .string=>match P.underlying e with
   |some (.int .u8)=>do
    if(<-dJ P e)=1 then some (.b2s (<-sx P x))else none
   | _=>none
  |some .string,some (.slice e)=>match P.underlying e with
   |some (.int .u8)=>do some (.s2b (<-sx P x))
   | _=>none
  |some (.pointer t),some .unsafePointer=>do
   if(<-dJ P t)=0 then none else some (.cvp (fun _ _ _=>true) (<-sx P x))
  |some .unsafePointer,some (.pointer u)=>do
   if(<-dJ P u)=0 then none else some (.cvp (fun e n o=>liesAt P P.depth e (n/P.cellsOf e) o u 1) (<-sx P x))
  | _,_=>none
 | .makeSlice t l c=>match P.underlying t with
  |some (.slice e)=>do
   let i<-P.info? e
   let z<-kS P e
   if 0<i.size/\0<i.bytes then some (.mks z i.bytes (<-sx P l) (<-sx P c))else none
  | _=>none
 | .slice t x lo hi mx=>match P.underlying t with
  |some .string=>match mx with
   |none=>do some (.slS (<-sx P x) (<-Bn P lo) (<-Bn P hi))
   |some _=>none
  |some (.slice e)=>do some (.slL (<-dJ P e) (<-sx P x) (<-Bn P lo) (<-Bn P hi) (<-Bn P mx))
  |some (.array n e)=>do some (.slA n (<-dJ P e) (<-sx P x) (<-Bn P lo) (<-Bn P hi) (<-Bn P mx))
  | _=>none
 | .fieldAddr s x f=>match P.underlying s with
  |some (.struct fs)=>do
   let fl<-fs[f]?
   let z<-dJ P fl.type
   if z=0 then none else some (.fad fl.offset (<-sx P x))
  | _=>none
 | .field s x f=>match P.underlying s with
  |some (.struct fs)=>do
   let fl<-fs[f]?
   let z<-dJ P fl.type
   let ag<-lh P fl.type
   if ag||z==1 then some (.fld ag fl.offset z (<-sx P x))else none
  | _=>none
 | .indexAddr t x i=>match P.underlying t with
  |some (.slice e)=>do some (.ixs (<-dJ P e) (<-sx P x) (<-sx P i))
  |some (.array n e)=>do some (.ixa n (<-dJ P e) (<-sx P x) (<-sx P i))
  | _=>none
 | .index t x i=>match P.underlying t with
  |some .string=>do some (.ixS (<-sx P x) (<-sx P i))
  |some (.array n e)=>do
   let z<-dJ P e
   let ag<-lh P e
   if ag||z==1 then some (.ixV ag n z (<-sx P x) (<-sx P i))else none
  | _=>none
 | .extract x k=>do some (.ext (<-sx P x) k)
 | .call c=>zU P o c
 | .makeFunc f a c=>do some (.mkf f (<-bA (sx P) a.toList) (<-bA (sx P) c.toList))
 | .nilCheck x=>do some (.nck (<-sx P x))
 | .makeInterface t x=>match P.underlying t with
  |some (.int _)=>do some (.mki t (<-sx P x))
  |some .string=>do some (.mki t (<-sx P x))
  | _=>none
 | .makeMap t r=>match r,P.underlying t with
  |none,some (.map _ _)=>some .mkm
  |some (.const (.int _ _)),some (.map _ _)=>some .mkm
  | _,_=>none
 | .lookup t x k c=>match P.underlying t with
  |some (.map kt et)=>do
   let z<-Ha P et
   let x<-sx P x
   let k<-sx P k
   match P.underlying kt with
   |some (.int _)=>some (.mget c false z x k)
   |some .string=>some (.mget c true z x k)
   | _=>none
  | _=>none
 | .mapUpdate t m k v=>match P.underlying t with
  |some (.map kt _)=>do
   let m<-sx P m
   let k<-sx P k
   let v<-sx P v
   match P.underlying kt with
   |some (.int _)=>some (.mset false m k v)
   |some .string=>some (.mset true m k v)
   | _=>none
  | _=>none
 | .panic _=>some .stop
 | _=>none
section
variable {P:Program} [cW P] {C:Cx} {tf:Nat->AV} {a:Act}
theorem Dn {v:Value} {x:AV} (h:Sh v=some x):AR C x v:=by
 unfold Sh at h
 split at h<;>first|(cases h;done)|skip
 all_goals (simp at h;subst h)
 ·exact .v (.b _)
 ·exact .v (.i _ _)
 ·rename_i s;have:s=⟨s.data.toList.toArray⟩:=by cases s;simp
  conv=>rhs;rw[this]
  exact .v (.s _)
 ·exact .v .p0
 ·exact .sn
 ·exact .v .fn0
 ·exact .v .if0
theorem Uf (hT: ∀b o v,TR P b o=some v->C.rd b o=some v) (g:Nat):AR C (Yt P g) (.pointer (some ⟨g,0,none⟩)):=by
 unfold Yt;split
 ·rename_i l hl;refine .pp (.agg (Qo l)) 0 (l.map fun p=> .int p.1 p.2) g 0 ?_ (by simp[PV.cells,Qo]) ?_ ?_
  ·intro y hy;simp only[PV.cells,Qo,cx]at hy;obtain⟨p,-,rfl⟩:=hy;rfl
  ·intro k v hv;refine hT _ _ _ ?_;rw[eX];simp only[TR,hl];simpa using hv
  ·intro k y v hy hv;simp only[PV.cells,Qo,fy,eP]at hy hv;obtain⟨p,hp,rfl⟩:=hy;obtain⟨q,hq,rfl⟩:=hv;rw[hp]at hq;injection hq with hq;subst hq
   exact .i _ _
 ·exact .u _
theorem cA {o:Operand} {x:SX} (h:sx P o=some x) (ht:TM P C tf a):AR C (x.ev tf) (a.eval o):=by
 cases o with
 |tmp t=>simp[sx]at h;subst h;exact ht.2 t
 |const v=>
  simp only[sx,eP]at h;obtain⟨y,hy,rfl⟩:=h;exact Dn hy
 |func f=>simp[sx]at h;subst h;exact .v (.fn _)
 |global g=>simp[sx]at h;subst h;exact Uf ht.1 g
theorem Ec {os:List Operand} {xs:List SX} (h:bA (sx P) os=some xs) (ht:TM P C tf a):cq (AR C) (xs.map (SX.ev tf)) (os.map a.eval):=by
 obtain⟨h1,h2⟩:=dC h;refine⟨by simp[h1],fun k x v hx hv=> ?_⟩
 simp only[fy,eP]at hx hv;obtain⟨y,hy,rfl⟩:=hx;obtain⟨z,hz,rfl⟩:=hv;exact cA (h2 k z y hz hy) ht
end
end Go.Dom
namespace Go.Dom
open Go.RowKit
def vS (x:Sem Value):Sem Next:=do pure (.value (<-x))
def eF (P:Program) (C:Cx) (hf:Nat->Option aI) (wr:Nat->Prop) (base nm:Nat) (s:Sem Next) (w:World) (v:AV) (up:List (Nat×Option aI)):Prop:=
 ∃val w' C',(s.run P w= .ok (.value val) w'\/(s.run P w= .ok .skip w'/\val=undef))/\AR C' v val/\HR C' (gQ hf up) wr w'/\
  C.Le C'/\(∀n,C'.al n↔C.al n\/n=nm)/\Wf wr w w'/\(∀b,b<base->C'.rd b=C.rd b)/\Db base C C' hf (gQ hf up)
section
variable {P:Program} {C:Cx} {hf:Nat->Option aI} {wr:Nat->Prop} {base nm:Nat} {w:World} {tf:Nat->AV}
variable {v:Value}
theorem eF.Ej {s:Sem Next} {v:AV} {val:Value} (h:HR C hf wr w) (hrun:s.run P w= .ok (.value val) w) (hv:AR C v val):eF P C hf wr base nm s w v []:=
 ⟨val,w,C.k9 nm, .inl hrun,hv.mono (C.lU nm),h.k9 nm,C.lU nm,fun _=>ja,Wf.refl _ _,fun _ _=>rfl, .mu rfl⟩
theorem eF.val {s:Sem Value} {v:AV} {val:Value} (h:HR C hf wr w) (hrun:s.run P w= .ok val w) (hv:AR C v val):eF P C hf wr base nm (vS s) w v []:=
 .Ej h (by simp[vS,hrun]) hv
theorem Ak {x:Bool} (h:AR C (.v (.b x)) v):v= .bool x:=by cases h with|v h=>cases h;rfl
theorem fQ {k:IntKind} {n:Int} (h:AR C (.v (.i k n)) v):v= .int k n:=by cases h with|v h=>cases h;rfl
theorem Al {x:Bytes} (h:AR C (.v (.s x)) v):v= .string ⟨x.toArray⟩:=by cases h with|v h=>cases h;rfl
theorem P1 {op:BinOp} {k k':IntKind} {x y:Int} {ao:AO} (h:SN op k x k' y=some ao) (hp:ao.pre) (t:TypeId) (ox oy:Operand) (w:World):
  ∃val,(do eqGuard op t ox oy (.int k x) (.int k' y);binOp op t (.int k x) (.int k' y):Sem Value).run P w= .ok val w/\AR C ao.v val/\ao.up=[]:=by
 cases op<;>simp only[SN,nE,HJ,FV,Jl,eu,ar]at h<;>subst h<;>(simp only at hp)
 case shl=>exact⟨_,by simp[eqGuard,binOp,Op.shift,show¬y<0 from by omega], .v (.i _ _),rfl⟩
 case shr=>exact⟨_,by simp[eqGuard,binOp,Op.shift,show¬y<0 from by omega], .v (.i _ _),rfl⟩
 case quo=>obtain⟨rfl,h0⟩:=hp;exact⟨_,by simp[eqGuard,binOp,Op.intDiv,h0], .v (.i _ _),rfl⟩
 case rem=>obtain⟨rfl,h0⟩:=hp;exact⟨_,by simp[eqGuard,binOp,Op.intDiv,h0], .v (.i _ _),rfl⟩
 case add=>subst hp;exact⟨_,by simp[eqGuard,binOp,Op.intArith], .v (.i _ _),rfl⟩
 case sub=>subst hp;exact⟨_,by simp[eqGuard,binOp,Op.intArith], .v (.i _ _),rfl⟩
 case mul=>subst hp;exact⟨_,by simp[eqGuard,binOp,Op.intArith], .v (.i _ _),rfl⟩
 case and=>subst hp;exact⟨_,by simp only[eqGuard,binOp,Op.intBits];simp, .v (.i _ _),rfl⟩
 case or=>subst hp;exact⟨_,by simp only[eqGuard,binOp,Op.intBits];simp, .v (.i _ _),rfl⟩
 case xor=>subst hp;exact⟨_,by simp only[eqGuard,binOp,Op.intBits];simp, .v (.i _ _),rfl⟩
 case andNot=>subst hp;exact⟨_,by simp only[eqGuard,binOp,Op.intBits];simp, .v (.i _ _),rfl⟩
 case eql=>subst hp;exact⟨_,by simp[eqGuard,binOp,Op.intCmp], .v (.b _),rfl⟩
 case neq=>subst hp;exact⟨_,by simp[eqGuard,binOp,Op.intCmp], .v (.b _),rfl⟩
 case lss=>subst hp;exact⟨_,by simp[eqGuard,binOp,Op.intCmp], .v (.b _),rfl⟩
 case leq=>subst hp;exact⟨_,by simp[eqGuard,binOp,Op.intCmp], .v (.b _),rfl⟩
 case gtr=>subst hp;exact⟨_,by simp[eqGuard,binOp,Op.intCmp], .v (.b _),rfl⟩
 case geq=>subst hp;exact⟨_,by simp[eqGuard,binOp,Op.intCmp], .v (.b _),rfl⟩
theorem P2 {op:BinOp} {x y:Bytes} {ao:AO} (h:T9 op x y=some ao) (hp:ao.pre) (t:TypeId) (ox oy:Operand) (w:World):
  ∃val,(do eqGuard op t ox oy (.string ⟨x.toArray⟩) (.string ⟨y.toArray⟩);binOp op t (.string ⟨x.toArray⟩) (.string ⟨y.toArray⟩):Sem Value).run P w= .ok val w/\AR C ao.v val/\ao.up=[]:=by
 cases op<;>simp only[T9,eu,dP,ar,reduceCtorEq]at h<;>subst h<;>(simp only at hp)
 case add=>
  have h1: ¬(((ByteArray.mk x.toArray).size+(ByteArray.mk y.toArray).size:Nat):Int)>IntKind.i64.max:=by
   have e1:(ByteArray.mk x.toArray).size=x.length:=by simp[ByteArray.size]
   have e2:(ByteArray.mk y.toArray).size=y.length:=by simp[ByteArray.size]
   have e3:IntKind.i64.max=9223372036854775807:=by decide
   rw[e1,e2,e3];omega
  have e:(ByteArray.mk x.toArray++ByteArray.mk y.toArray)=ByteArray.mk (x++y).toArray:=by
   apply ByteArray.ext;simp
  refine⟨.string ⟨(x++y).toArray⟩,?_, .v (.s _),rfl⟩;rw[<-e];simp only[eqGuard,binOp,Op.stringOp,h1];simp
 case eql=>exact⟨_,by simp[eqGuard,binOp,Op.stringOp], .v (.b _),rfl⟩
 case neq=>exact⟨_,by simp[eqGuard,binOp,Op.stringOp], .v (.b _),rfl⟩
 case lss=>exact⟨_,by simp[eqGuard,binOp,Op.stringOp], .v (.b _),rfl⟩
 case leq=>exact⟨_,by simp only[eqGuard,binOp,Op.stringOp,ByteArray.toList_mk];simp, .v (.b _),rfl⟩
 case gtr=>exact⟨_,by simp only[eqGuard,binOp,Op.stringOp,ByteArray.toList_mk];simp, .v (.b _),rfl⟩
 case geq=>exact⟨_,by simp[eqGuard,binOp,Op.stringOp], .v (.b _),rfl⟩
theorem xw {n ver q:Nat} (h:AR C (.p n ver q) v) {ob:aI} (hh:HR C hf wr w) (hn:hf n=some ob) (hv:ob.ver=ver):v= .pointer (some ⟨C.mu n,q,none⟩):=by
 cases h with
 |p n ver o b ha hm h=>rw[(h _ (hh.live _ _ hn).2).2 hv.symm]
theorem K8 {n ver q:Nat} (h:AR C (.p n ver q) v):C.mpn n=false:=by
 cases h with
 |p n ver o b ha hm h=>exact hm
theorem OQ {n ver o len z:Nat} (h:AR C (.rs n ver o len z) v):C.mpn n=false:=by
 cases h with
 |rs n ver o len z b o' cap ha hm hc ho h=>exact hm
theorem fM (b q k:Nat):(⟨b,q,none⟩:Addr).add k=⟨b,q+k,none⟩:=by unfold Addr.add;split<;>simp_all
theorem ri (hh:HR C hf wr w) {n:Nat} {ob:aI} (hn:hf n=some ob) (hm:C.mpn n=false) {q z:Nat} (hz:q+z<=ob.cells.length):
  ∃vs:List Value,(loadCells ⟨C.mu n,q,none⟩ z).run P w= .ok vs.toArray w/\cq (AR C) ((ob.cells.drop q).take z) vs:=by
 obtain⟨cs,el,h1,h2,h3,h4,h5⟩:=hh.obj n ob hn hm;have hr:cq (AR C) ob.cells (cs.toList.take ob.cells.length):=by
  refine⟨by simp;omega,fun k x v hx hv=>h5 k x v hx ?_⟩
  rw[eS]at hv
  split at hv
  ·simpa using hv
  ·cases hv
 refine⟨((cs.toList.take ob.cells.length).drop q).take z,?_,(hr.drop q).take z⟩;have hlen:(((cs.toList.take ob.cells.length).drop q).take z).length=z:=by simp;omega
 have:=run_loadCells_list (P:=P) w ⟨C.mu n,q,none⟩ (((cs.toList.take ob.cells.length).drop q).take z) (by
  intro j v hv;rw[fM,cell_of_heap h1];rw[eS]at hv
  split at hv
  ·rw[mb,eS]at hv
   split at hv
   ·simpa using hv
   ·cases hv
  ·cases hv)
 rw[hlen]at this;exact this
theorem qh (hh:HR C hf wr w) {b q:Nat} (vs:List Value) (hr: ∀(k:Nat) (v:Value),vs[k]?=some v->C.rd b (q+k)=some v) (o z:Nat) (hz:o+z<=vs.length):
  (loadCells ⟨b,q+o,none⟩ z).run P w= .ok ((vs.drop o).take z).toArray w:=by
 have hlen:((vs.drop o).take z).length=z:=by simp;omega
 have:=run_loadCells_list (P:=P) w ⟨b,q+o,none⟩ ((vs.drop o).take z) (by
  intro j v hv;rw[fM];refine hh.rdw _ _ _ ?_;rw[eS]at hv
  split at hv
  ·rw[mb]at hv;rw[jQ];exact hr _ _ hv
  ·cases hv)
 rw[hlen]at this;exact this
theorem gT {t:TypeId} {ag:Bool} (h:lh P t=some ag) (w:World):(isAgg t).run P w= .ok ag w:=by
 unfold lh at h
 split at h<;>first|(cases h;done)|skip
 all_goals (simp at h;subst h;rename_i hu;simp[isAgg,run_underlying hu])
theorem dS {t:TypeId} {z:Nat} (h:dJ P t=some z) (w:World):(sizeOf t).run P w= .ok z w:=by
 unfold dJ at h;simp only[eP]at h;obtain⟨i,hi,rfl⟩:=h;simp[sizeOf,typeInfo,hi]
theorem At {b q:Nat} (h:(loadCells ⟨b,q,none⟩ 1).run P w= .ok #[v] w):(load ⟨b,q,none⟩).run P w= .ok v w:=by
 simp only[loadCells,loadCellsFrom,bI,fM,Nat.add_zero]at h
 cases hl:(load ⟨b,q,none⟩).run P w with
 |ok u w'=>rw[hl]at h;simp[Result.andThen]at h;obtain⟨rfl,rfl⟩:=h;rfl
 |halt x w'=>rw[hl]at h;simp[Result.andThen]at h
end
end Go.Dom
namespace Go.Dom
open Go.RowKit
section
variable {P:Program} {C:Cx} {hf:Nat->Option aI} {wr:Nat->Prop} {base nm:Nat} {w:World} {tf:Nat->AV}
variable {t:TypeId} {x y:Value}
theorem take_one {α:Type} {l:List α} {q:Nat} (h:q<l.length):(l.drop q).take 1=[l[q]]:=by
 rw[kJ h];rfl
theorem oo {α:Type} {l:List α} {q:Nat} (h:q<l.length) (d:α):l.getD q d=l[q]:=by
 simp[bu,h]
theorem aai (h:HR C hf wr w) {ag:Bool} {z:Nat} (hag:lh P t=some ag) (hz:dJ P t=some z) (h1:ag=true\/z=1)
  {vx:AV} (hx:AR C vx x) {ao:AO}
  (ha:Zk hf ag z vx=some ao) (hp:ao.pre):eF P C hf wr base nm (vS (Instr.loadAt t x)) w ao.v ao.up:=by
 unfold Zk at ha
 replace hx:=hx.nz
 generalize vx.nz=vx at hx ha
 cases vx<;>first|(simp at ha;done)|skip
 case p n ver q=>
  simp only at ha
  cases hn:hf n with
  |none=>simp[hn]at ha
  |some ob=>
   simp only[hn,ar]at ha;subst ha;obtain⟨hv,hlen⟩:=hp;have hval:=xw hx h hn hv;have hm:=K8 hx;subst hval;obtain⟨vs,hrun,hrel⟩:=ri (P:=P) h hn hm hlen
   cases ag with
   |true=>
    refine .val h (val:= .agg vs.toArray) ?_ (.kp hrel);simp only[Instr.loadAt,Instr.sureAddr,loadVar,bI,Sem.run_pure,Result.andThen,gT hag,dS hz,hrun,aC]
   |false=>
    have hz1:z=1:=by simpa using h1
    subst hz1;have hlen':q<ob.cells.length:=by omega
    rw[take_one hlen']at hrel;obtain⟨v,us,rfl,hv1,hnil⟩:=hrel.gv;rw[hnil.eE]at hrun;refine .val h (val:=v) ?_ (by simp only[cE,aB];rw[oo hlen'];exact hv1)
    simp only[Instr.loadAt,Instr.sureAddr,loadVar,bI,Sem.run_pure,Result.andThen,gT hag,cE,aB,At hrun]
 case pp y q=>
  simp only[ar]at ha;subst ha
  cases hx with
  |pp x o' vs bk of h1' hl hr hrel=>
   have hlen:q+z<=vs.length:=by have:q+z<=y.cells.length:=hp;omega
   have hrun:=qh (P:=P) h vs hr q z hlen;have hrl:cq (PR C.rd) y.cells vs:=⟨hl,hrel⟩;have hrl':=(hrl.drop q).take z
   cases ag with
   |true=>
    refine .val h (val:= .agg ((vs.drop q).take z).toArray) ?_ (.v (.agg _ _ (fun x hx=>h1' x (qu (kG hx))) hrl'.1 hrl'.2))
    simp only[Instr.loadAt,Instr.sureAddr,loadVar,bI,Sem.run_pure,Result.andThen,gT hag,dS hz,hrun,aC]
   |false=>
    have hz1:z=1:=by simpa using h1
    subst hz1;have hlen':q<y.cells.length:=by have:q+1<=y.cells.length:=hp;omega
    rw[take_one hlen']at hrl';obtain⟨v,us,he,hv1,hnil⟩:=hrl'.gv;rw[hnil.eE]at he;rw[he]at hrun;refine .val h (val:=v) ?_ (by simp only[cE,aB];rw[oo hlen'];exact .v hv1)
    simp only[Instr.loadAt,Instr.sureAddr,loadVar,bI,Sem.run_pure,Result.andThen,gT hag,cE,aB,At hrun]
theorem O5 (h:HR C hf wr w) {op:BinOp} (ox oy:Operand) {vx vy:AV} (hx:AR C vx x) (hy:AR C vy y) {ao:AO}
  (ha:Ry op vx vy=some ao) (hp:ao.pre):eF P C hf wr base nm (vS (do eqGuard op t ox oy x y;binOp op t x y)) w ao.v ao.up:=by
 unfold Ry at ha
 split at ha
 ·skip
  have e1:=fQ hx;have e2:=fQ hy;subst e1;subst e2;obtain⟨val,hrun,hv,hup⟩:=P1 (P:=P) (C:=C) ha hp t ox oy w;rw[hup];exact .val h hrun hv
 ·skip
  have e1:=Al hx;have e2:=Al hy;subst e1;subst e2;obtain⟨val,hrun,hv,hup⟩:=P2 (P:=P) (C:=C) ha hp t ox oy w;rw[hup];exact .val h hrun hv
 ·cases ha
theorem run_equalIn_bool (d:Nat) (ht:P.underlying t=some .bool) (p q:Bool) (w:World):(Op.equalIn (d+1) t (.bool p) (.bool q)).run P w= .ok (p==q) w:=by
 simp[Op.equalIn,run_underlying ht]
theorem run_equal_bool (ht:P.underlying t=some .bool) (p q:Bool) (w:World):(Op.equal t (.bool p) (.bool q)).run P w= .ok (p==q) w:=run_equalIn_bool 9999 ht p q w
theorem O4 (h:HR C hf wr w) {ng:Bool} (ox oy:Operand) (ht:P.underlying t=some .bool) {p q:Bool} (hx:AR C (.v (.b p)) x) (hy:AR C (.v (.b q)) y):
  eF P C hf wr base nm (vS (do eqGuard (if ng then .neq else .eql) t ox oy x y;binOp (if ng then .neq else .eql) t x y)) w (.v (.b (if ng then !(p==q)else p==q))) []:=by
 have e1:=Ak hx;have e2:=Ak hy;subst e1;subst e2;refine .val h (val:= .bool (if ng then !(p==q)else p==q)) ?_ (.v (.b _))
 cases ng<;>simp only[cE,aB,aC,eqGuard,binOp,bI,Sem.run_pure,Result.andThen,run_equal_bool ht]<;>simp
theorem aak (h:HR C hf wr w) {op:UnOp} {vx:AV} (hx:AR C vx x) {ao:AO}
  (ha:aUn op vx=some ao):eF P C hf wr base nm (vS (Op.unary op x)) w ao.v ao.up:=by
 unfold aUn at ha
 split at ha
 ·simp only[dP,ar]at ha;subst ha
  skip
  have e:=Ak hx;subst e;exact .val h (val:= .bool _) (by simp[Op.unary]) (.v (.b _))
 ·simp only[dP,ar]at ha;subst ha
  skip
  have e:=fQ hx;subst e;exact .val h (val:= .int _ _) (by simp only[Op.unary,Op.intArith];rfl) (.v (.i _ _))
 ·simp only[dP,ar]at ha;subst ha
  skip
  have e:=fQ hx;subst e;exact .val h (val:= .int _ _) (by simp only[Op.unary,Op.intBits];rfl) (.v (.i _ _))
 ·cases ha
theorem Xj (h:HR C hf wr w) {s d:TypeId} {ks k:IntKind} (hs:P.underlying s=some (.int ks)) (hd:P.underlying d=some (.int k)) {k':IntKind} {n:Int} (hx:AR C (.v (.i k' n)) x):
  eF P C hf wr base nm (vS (convert s d x)) w (.v (.i k (k.wrap n))) []:=by
 have e:=fQ hx;subst e;exact .val h (val:= .int k (k.wrap n)) (by simp[convert,run_underlying hs,run_underlying hd,Conv.intToInt]) (.v (.i _ _))
theorem Xk (h:HR C hf wr w) {s d:TypeId} (hs:P.underlying s=some .string) (hd:P.underlying d=some .string) {b:Bytes} (hx:AR C (.v (.s b)) x):
  eF P C hf wr base nm (vS (convert s d x)) w (.v (.s b)) []:=by
 have e:=Al hx;subst e;exact .val h (val:= .string _) (by simp[convert,run_underlying hs,run_underlying hd]) (.v (.s _))
end
end Go.Dom
namespace Go.Dom
open Go.RowKit
variable {z:Nat}
inductive OR (C:Cx):Option AV->Option Value->Prop where
 |none:OR C none none
 |some {x:AV} {v:Value} (h:AR C x v):OR C (some x) (some v)
theorem NN {l:List PV} (hz: ∀x∈l,x.cells.length=z) {i:Nat} (hi:i<l.length):((l.flatMap PV.cells).drop (i*z)).take z=l[i].cells:=by
 induction l generalizing i with
 |nil=>simp at hi
 |cons x l ih=>
  have hx:x.cells.length=z:=hz x (by simp)
  cases i with
  |zero=>simp[ft,<-hx]
  |succ i=>
   rw[ft,lJ,iM,<-yL];have:(x.cells++l.flatMap PV.cells).drop z=l.flatMap PV.cells:=by rw[<-hx];simp
   rw[this];simpa using ih (fun y hy=>hz y (by simp[hy])) (by simpa using hi)
theorem Ab {l:List PV} (hz: ∀x∈l,x.cells.length=z):(l.flatMap PV.cells).length=l.length*z:=by
 induction l with
 |nil=>simp
 |cons x l ih=>
  rw[ft,bR,hz x (by simp),ih fun y hy=>hz y (by simp[hy])]
  simp[lJ];omega
theorem KK {l:List PV} (hz: ∀x∈l,x.cells.length=z) (h:Nat):(l.take h).flatMap PV.cells=(l.flatMap PV.cells).take (h*z):=by
 induction l generalizing h with
 |nil=>simp
 |cons x l ih=>
  cases h with
  |zero=>simp
  |succ h=>
   have hx:x.cells.length=z:=hz x (by simp)
   rw[List.take_succ_cons,ft,ft,Et,ih fun y hy=>hz y (by simp[hy])]
   have e1:x.cells.take ((h+1)*z)=x.cells:=cQ (by rw[hx,lJ];omega)
   have e2:(h+1)*z-z=h*z:=by rw[lJ];omega
   rw[e1,hx,e2]
theorem KJ {l:List PV} (hz: ∀x∈l,x.cells.length=z) (h:Nat):(l.drop h).flatMap PV.cells=(l.flatMap PV.cells).drop (h*z):=by
 induction l generalizing h with
 |nil=>simp
 |cons x l ih=>
  cases h with
  |zero=>simp
  |succ h=>
   have hx:x.cells.length=z:=hz x (by simp)
   rw[List.drop_succ_cons,ft,List.drop_append,ih fun y hy=>hz y (by simp[hy])]
   have e1:x.cells.drop ((h+1)*z)=[]:=gG (by rw[hx,lJ];omega)
   have e2:(h+1)*z-z=h*z:=by rw[lJ];omega
   rw[e1,hx,e2,List.nil_append]
theorem PR.sub {rd:Rd} {l:List PV} {q:Option Addr} {len cap:Nat} (h:PR rd (.sl l) (.slice q len cap)) {lo hi:Nat} (hz: ∀x∈l,x.cells.length=z) (h1:lo<=hi) (h2:hi<=l.length):
  PR rd (.sl ((l.take hi).drop lo)) (.slice (if cap=lo then q else q.map (·.add (lo*z))) (hi-lo) (cap-lo)):=by
 cases h with
 |sl0=>
  simp at h2;have h3:hi=0:=h2;have h4:lo=0:=by omega
  subst h3;subst h4;simpa using PR.sl0
 |sle a cap=>
  simp at h2;have h3:hi=0:=h2;have h4:lo=0:=by omega
  subst h3;subst h4;have e:a.add 0=a:=by simp[Addr.add]
  have:=PR.sle (rd:=rd) a cap
  by_cases hc:cap=0
  ·subst hc;simpa using this
  ·simpa[hc,e]using this
 |sl l z' vs bk of cap hc hz' h1' hl hr h=>
  have hlen:((l.take hi).drop lo).length=hi-lo:=by simp;omega
  have hfl:=Ab hz;have hsub:((l.take hi).drop lo).flatMap PV.cells=((l.flatMap PV.cells).take (hi*z)).drop (lo*z):=by
   rw[KJ (z:=z) (fun x hx=>hz x (kG hx)),KK hz]
  have hrel:cq (PR rd) (l.flatMap PV.cells) vs:=⟨hl,h⟩;have hrel':=(hrel.take (hi*z)).drop (lo*z)
  by_cases hcap:cap=lo
  ·have h3:hi-lo=0:=by omega
   rw[af hcap,h3];have h4:(l.take hi).drop lo=[]:=by apply lL;omega
   rw[h4];exact .sl [] 0 [] bk of (cap-lo) (by simp) (by simp) (by simp) (by simp) (by simp) (by simp)
  ·rw[aa hcap];simp only[Option.map_some,fM];have:=PR.sl (rd:=rd) ((l.take hi).drop lo) z ((vs.take (hi*z)).drop (lo*z)) bk (of+lo*z) (cap-lo) (by omega)
    (fun x hx=>hz x (kG (qu hx)))
    (by rw[hsub];exact fun y hy=>h1' y (kG (qu hy)))
    (by rw[hsub];exact hrel'.1)
    (by
     intro k v hv;rw[mb,eS]at hv
     split at hv
     ·rw[jQ];exact hr _ _ hv
     ·cases hv)
    (by rw[hsub];exact hrel'.2)
   rw[hlen]at this;exact this
section
variable {P:Program} {C:Cx} {hf:Nat->Option aI} {wr:Nat->Prop} {base nm:Nat} {w:World} {tf:Nat->AV}
variable {cap len:Nat} {vhi vlo:Option AV} {xhi xlo:Option Value}
theorem lk {sl:Bool} {l h:Nat} {p:Prop} (hb:bounds len vlo vhi=some (l,h,p)) (hp:p) (hlo:OR C vlo xlo) (hhi:OR C vhi xhi) (hc:len<=cap):
  (Instr.sliceBounds sl len cap xlo xhi none).run P w= .ok (l,h,cap) w/\l<=h/\h<=len:=by
 unfold bounds at hb
 split at hb
 ·simp only[ar,eJ]at hb;obtain⟨rfl,rfl,rfl⟩:=hb
  cases hlo;cases hhi
  exact⟨by simp[Instr.sliceBounds],by omega,by omega⟩
 ·simp only[ar,eJ]at hb;obtain⟨rfl,rfl,rfl⟩:=hb
  cases hlo with|some h1=> ?_
  cases hhi;have e:=fQ h1;subst e;refine⟨?_,by omega,by omega⟩
  simp only[Instr.sliceBounds,bI,Sem.run_pure,Result.andThen];rw[run_sliceBound _ _ _ _ _ hp.1 hp.2]
 ·simp only[ar,eJ]at hb;obtain⟨rfl,rfl,rfl⟩:=hb;cases hlo
  cases hhi with|some h1=> ?_
  have e:=fQ h1;subst e;refine⟨?_,by omega,by omega⟩
  simp only[Instr.sliceBounds,bI,Sem.run_pure,Result.andThen];rw[run_sliceBound _ _ _ _ _ hp.1 (by omega)]
 ·simp only[ar,eJ]at hb;obtain⟨rfl,rfl,rfl⟩:=hb
  cases hlo with|some h1=> ?_
  cases hhi with|some h2=> ?_
  have e:=fQ h1;subst e;have e:=fQ h2;subst e;refine⟨?_,by omega,by omega⟩
  simp only[Instr.sliceBounds,bI,Sem.run_pure,Result.andThen];rw[run_sliceBound _ _ _ _ _ (by omega) (by omega)]
  simp only[Result.andThen];rw[run_sliceBound _ _ _ _ _ (by omega) (by omega)]
 ·cases hb
theorem XA (h:HR C hf wr w) {t:TypeId} (ht:P.underlying t=some .string) {b:Bytes} {x:Value} (hx:AR C (.v (.s b)) x) (hlo:OR C vlo xlo) (hhi:OR C vhi xhi)
  {l hh:Nat} {p:Prop} (hb:bounds b.length vlo vhi=some (l,hh,p)) (hp:p):eF P C hf wr base nm (vS (Instr.sliceAt t x xlo xhi none)) w (.v (.s ((b.take hh).drop l))) []:=by
 have e:=Al hx;subst e;have es:(ByteArray.mk b.toArray).size=b.length:=by simp[ByteArray.size]
 obtain⟨hrun,h1,h2⟩:=lk (P:=P) (w:=w) (sl:=false) (cap:=b.length) hb hp hlo hhi (aA _);refine .val h (val:= .string ⟨((b.take hh).drop l).toArray⟩) ?_ (.v (.s _));have hx:(ByteArray.mk b.toArray).extract l hh=⟨((b.take hh).drop l).toArray⟩:=by
  apply ByteArray.ext;simp[vE]
 simp only[Instr.sliceAt,Instr.slice,bI,run_underlying ht,Result.andThen,Option.isSome_none,cE,aB,Sem.run_pure,es,hrun,hx]
theorem DQ (h:HR C hf wr w) {t e:TypeId} (ht:P.underlying t=some (.slice e)) (hz:dJ P e=some z) {ls:List PV} {q:Option Addr} (hx:PR C.rd (.sl ls) (.slice q len cap)) (hlo:OR C vlo xlo) (hhi:OR C vhi xhi)
  {l hh:Nat} {p:Prop} (hb:bounds ls.length vlo vhi=some (l,hh,p)) (hp:p) (hzz: ∀x∈ls,x.cells.length=z):eF P C hf wr base nm (vS (Instr.sliceAt t (.slice q len cap) xlo xhi none)) w (.v (.sl ((ls.take hh).drop l))) []:=by
 have hlen:len=ls.length/\ls.length<=cap:=by cases hx<;>simp_all
 obtain⟨hlen,hcap⟩:=hlen;subst hlen;obtain⟨hrun,h1,h2⟩:=lk (P:=P) (w:=w) (sl:=true) (cap:=cap) hb hp hlo hhi hcap;refine .val h (val:= .slice (if cap=l then q else q.map (·.add (l*z))) (hh-l) (cap-l)) ?_ (.v (hx.sub hzz h1 h2))
 simp only[Instr.sliceAt,Instr.slice,bI,run_underlying ht,Result.andThen,Sem.run_pure,hrun,dS hz]
end
end Go.Dom
namespace Go.Dom
open Go.RowKit
section
variable {P:Program} {C:Cx} {hf:Nat->Option aI} {wr:Nat->Prop} {base nm:Nat} {w:World} {tf:Nat->AV}
variable {e t:TypeId} {kh km:IntKind} {p:Prop} {vhi vlo:Option AV} {xhi xlo:Option Value}
theorem Xz (h:HR C hf wr w) (ht:P.underlying t=some (.slice e)) {z:Nat} (hz:dJ P e=some z) {n ver o len:Nat} {x:Value} (hx:AR C (.rs n ver o len z) x) (hlo:OR C vlo xlo) (hhi:OR C vhi xhi)
  {l hh:Nat} (hb:bounds len vlo vhi=some (l,hh,p)) (hp:p):eF P C hf wr base nm (vS (Instr.sliceAt t x xlo xhi none)) w (.rs n ver (o+l*z) (hh-l) z) []:=by
 cases hx with
 |rs n ver o len z b o' cap ha hm hc ho hx=>
 obtain⟨hrun,h1,h2⟩:=lk (P:=P) (w:=w) (sl:=true) (cap:=cap) hb hp hlo hhi hc;refine .val h (val:= .slice (if cap=l then some ⟨b,o',none⟩else(some ⟨b,o',none⟩:Option Addr).map (·.add (l*z))) (hh-l) (cap-l)) ?_ ?_
 ·simp only[Instr.sliceAt,Instr.slice,bI,run_underlying ht,Result.andThen,Sem.run_pure,hrun,dS hz]
 ·by_cases hcl:cap=l
  ·rw[af hcl];refine .rs n ver _ _ z b o' _ ha hm (by omega) (.inl (by omega)) fun c hc'=> ?_
   obtain⟨h3,h4⟩:=hx c hc';refine⟨h3,fun e=>⟨(h4 e).1,?_⟩⟩
   have:=(h4 e).2;rw[hcl]at this;simp[hcl];exact this
  ·rw[aa hcl];simp only[Option.map_some,fM];refine .rs n ver _ _ z b _ _ ha hm (by omega) (.inr ?_) fun c hc'=> ?_
   ·have:cap≠0:=by omega
    rcases ho with ho|ho
    ·omega
    ·rw[ho]
   ·obtain⟨h3,h4⟩:=hx c hc';refine⟨h3,fun e=>⟨(h4 e).1,?_⟩⟩
    have:=(h4 e).2;have h5:l*z+(cap-l)*z=cap*z:=by rw[<-dK];congr 1;omega
    omega
theorem Xy (h:HR C hf wr w) {cnt:Nat} (ht:P.underlying t=some (.array cnt e)) {z:Nat} (hz:dJ P e=some z) {n ver o:Nat} {x:Value} (hx:AR C (.p n ver o) x) {ob:aI} (hn:hf n=some ob) (hver:ob.ver=ver) (hlen:o+cnt*z<=ob.cells.length)
  (hlo:OR C vlo xlo) (hhi:OR C vhi xhi)
  {l hh:Nat} (hb:bounds cnt vlo vhi=some (l,hh,p)) (hp:p):eF P C hf wr base nm (vS (Instr.sliceAt t x xlo xhi none)) w (.rs n ver (o+l*z) (hh-l) z) []:=by
 have hal:=(h.live n ob hn).1;have hcur:=(h.live n ob hn).2;have hm:=K8 hx;have e:=xw hx h hn hver;subst e;obtain⟨hrun,h1,h2⟩:=lk (P:=P) (w:=w) (sl:=false) (cap:=cnt) hb hp hlo hhi (aA _);obtain⟨cs,el,hh1,hh2,hh3,-⟩:=h.obj n ob hn hm;refine .val h (val:= .slice (some (if cnt=l then⟨C.mu n,o,none⟩else(⟨C.mu n,o,none⟩:Addr).add (l*z))) (hh-l) (cnt-l)) ?_ ?_
 ·simp only[Instr.sliceAt,bI,run_underlying ht,Result.andThen,Sem.run_pure,Instr.sureAddr,hrun,dS hz]
 ·have h5:l*z+(cnt-l)*z=cnt*z:=by rw[<-dK];congr 1;omega
  have key: ∀c,C.cur n=some c->ver<=c/\(ver=c->C.mu n=C.mu n/\o+l*z+(cnt-l)*z<=C.sz n):=by
   intro c hc;rw[hcur]at hc;injection hc with hc;subst hc
   exact⟨by omega,fun _=>⟨rfl,by omega⟩⟩
  by_cases hcl:cnt=l
  ·rw[af hcl];exact .rs n ver _ _ z _ o _ hal hm (by omega) (.inl (by omega)) key
  ·rw[aa hcl,fM];exact .rs n ver _ _ z _ _ _ hal hm (by omega) (.inr rfl) key
theorem AK (h:HR C hf wr w) (ht:P.underlying t=some (.slice e)) {z:Nat} (hz:dJ P e=some z) {ls:List PV} {q:Option Addr} {len cap:Nat} (hx:PR C.rd (.sl ls) (.slice q len cap)) (hlo:OR C vlo xlo)
  {hi mx:Int} {l hh:Nat} (hb:bounds ls.length vlo (some (.v (.i kh hi)))=some (l,hh,p)) (hp:p) (hm:mx=hi) (hzz: ∀x∈ls,x.cells.length=z):
  eF P C hf wr base nm (vS (Instr.sliceAt t (.slice q len cap) xlo (some (.int kh hi)) (some (.int km mx)))) w (.fs ((ls.take hh).drop l)) []:=by
 have hlen:len=ls.length/\ls.length<=cap:=by cases hx<;>simp_all
 obtain⟨hlen,hcap⟩:=hlen;subst hlen;subst hm;obtain⟨-,h1,h2⟩:=lk (P:=P) (w:=w) (sl:=true) (cap:=cap) hb hp hlo (.some (.v (.i kh mx))) hcap;have hhe:hh=mx.toNat/\0<=mx/\mx<=ls.length/\((vlo=none/\l=0)\/ ∃kl lo,vlo=some (.v (.i kl lo))/\l=lo.toNat/\0<=lo/\lo<=mx):=by
  unfold bounds at hb
  split at hb<;>simp only[ar,eJ,reduceCtorEq]at hb
  ·rename_i heq;cases heq
  ·rename_i heq;cases heq
  ·rename_i heq;simp only[ar,AV.v.injEq,PV.i.injEq]at heq;obtain⟨rfl,rfl⟩:=heq;obtain⟨rfl,rfl,rfl⟩:=hb;exact⟨rfl,hp.1,hp.2, .inl ⟨rfl,rfl⟩⟩
  ·rename_i kl lo _ _ heq;simp only[ar,AV.v.injEq,PV.i.injEq]at heq;obtain⟨rfl,rfl⟩:=heq;obtain⟨rfl,rfl,rfl⟩:=hb;exact⟨rfl,by omega,by omega, .inr ⟨_,_,rfl,rfl,by omega,by omega⟩⟩
 obtain⟨rfl,h3,h4,h5⟩:=hhe;have hsub:=hx.sub (z:=z) (lo:=l) (hi:=mx.toNat) hzz h1 h2;have hq: ∃a,(if mx.toNat=l then q else q.map (·.add (l*z)))=a/\PR C.rd (.sl ((ls.take mx.toNat).drop l)) (.slice a (mx.toNat-l) (mx.toNat-l)):=by
  refine⟨_,rfl,?_⟩;have hlen':((ls.take mx.toNat).drop l).length=mx.toNat-l:=by simp;omega
  by_cases e:mx.toNat=l
  ·rw[af e];have h6:(ls.take mx.toNat).drop l=[]:=by apply lL;omega
   rw[h6,e,gD]
   cases hx with
   |sl0=>exact .sl0
   |sle a cap=>exact .sle a 0
   |sl l' z' vs bk of cap hc hz' h1' hl hr h=>exact .sl [] 0 [] bk of 0 (by simp) (by simp) (by simp) (by simp) (by simp) (by simp)
  ·rw[aa e];have e':cap≠l:=by omega
   rw[aa e']at hsub;generalize (ls.take mx.toNat).drop l=r at*;generalize q.map (·.add (l*z))=qq at*;rw[<-hlen']at hsub⊢;generalize cap-l=cap' at hsub;generalize hrr:r.length=rr at hsub⊢
   cases hsub with
   |sl0=>exact .sl0
   |sle a cap=>exact .sle a _
   |sl l' z' vs bk of cap hc hz' h1' hl hr h=>exact .sl _ z' vs bk of _ (aA _) hz' h1' hl hr h
 obtain⟨a,hqa,hpr⟩:=hq;have hlen':((ls.take mx.toNat).drop l).length=mx.toNat-l:=by simp;omega
 refine .val h (val:= .slice a (mx.toNat-l) (mx.toNat-l)) ?_ ?_
 ·have hb1:(Instr.sliceBounds true ls.length cap xlo (some (.int kh mx)) (some (.int km mx))).run P w= .ok (l,mx.toNat,mx.toNat) w:=by
   rcases h5 with⟨rfl,rfl⟩|⟨kl,lo,rfl,rfl,h6,h7⟩
   ·cases hlo;simp only[Instr.sliceBounds,bI,Sem.run_pure,Result.andThen];rw[run_sliceBound _ _ _ _ _ h3 (by omega)]
    simp only[Result.andThen];rw[run_sliceBound _ _ _ _ _ h3 (by omega)]
   ·cases hlo with|some h8=> ?_
    have e:=fQ h8;subst e;simp only[Instr.sliceBounds,bI,Sem.run_pure,Result.andThen];rw[run_sliceBound _ _ _ _ _ h3 (by omega)]
    simp only[Result.andThen];rw[run_sliceBound _ _ _ _ _ h3 (by omega)]
    simp only[Result.andThen];rw[run_sliceBound _ _ _ _ _ h6 (by omega)]
  simp only[Instr.sliceAt,Instr.slice,bI,run_underlying ht,Result.andThen,Sem.run_pure,hb1,dS hz,hqa]
 ·have:=AR.fs (C:=C) ((ls.take mx.toNat).drop l) a (by rw[hlen'];exact hpr)
  rw[hlen']at this;exact this
theorem Tk (h:HR C hf wr w) (ht:P.underlying t=some (.slice e)) {z:Nat} (hz:dJ P e=some z) {n ver o len:Nat} {x:Value} (hx:AR C (.rs n ver o len z) x) (hlo:OR C vlo xlo)
  {hi mx:Int} {l hh:Nat} (hb:bounds len vlo (some (.v (.i kh hi)))=some (l,hh,p)) (hp:p) (hm:mx=hi):
  eF P C hf wr base nm (vS (Instr.sliceAt t x xlo (some (.int kh hi)) (some (.int km mx)))) w (.rs n ver (o+l*z) (hh-l) z) []:=by
 subst hm
 cases hx with
 |rs n ver o len z b o' cap ha hm hc ho hx=>
 obtain⟨-,h1,h2⟩:=lk (P:=P) (w:=w) (sl:=true) (cap:=cap) hb hp hlo (.some (.v (.i kh mx))) hc;have hhe:hh=mx.toNat/\0<=mx/\mx<=len/\((vlo=none/\l=0)\/ ∃kl lo,vlo=some (.v (.i kl lo))/\l=lo.toNat/\0<=lo/\lo<=mx):=by
  unfold bounds at hb
  split at hb<;>simp only[ar,eJ,reduceCtorEq]at hb
  ·rename_i heq;cases heq
  ·rename_i heq;cases heq
  ·rename_i heq;simp only[ar,AV.v.injEq,PV.i.injEq]at heq;obtain⟨rfl,rfl⟩:=heq;obtain⟨rfl,rfl,rfl⟩:=hb;exact⟨rfl,hp.1,hp.2, .inl ⟨rfl,rfl⟩⟩
  ·rename_i kl lo _ _ heq;simp only[ar,AV.v.injEq,PV.i.injEq]at heq;obtain⟨rfl,rfl⟩:=heq;obtain⟨rfl,rfl,rfl⟩:=hb;exact⟨rfl,by omega,by omega, .inr ⟨_,_,rfl,rfl,by omega,by omega⟩⟩
 obtain⟨rfl,h3,h4,h5⟩:=hhe;refine .val h (val:= .slice (if mx.toNat=l then some ⟨b,o',none⟩else(some ⟨b,o',none⟩:Option Addr).map (·.add (l*z))) (mx.toNat-l) (mx.toNat-l)) ?_ ?_
 ·have hb1:(Instr.sliceBounds true len cap xlo (some (.int kh mx)) (some (.int km mx))).run P w= .ok (l,mx.toNat,mx.toNat) w:=by
   rcases h5 with⟨rfl,rfl⟩|⟨kl,lo,rfl,rfl,h6,h7⟩
   ·cases hlo;simp only[Instr.sliceBounds,bI,Sem.run_pure,Result.andThen];rw[run_sliceBound _ _ _ _ _ h3 (by omega)]
    simp only[Result.andThen];rw[run_sliceBound _ _ _ _ _ h3 (by omega)]
   ·cases hlo with|some h8=> ?_
    have e:=fQ h8;subst e;simp only[Instr.sliceBounds,bI,Sem.run_pure,Result.andThen];rw[run_sliceBound _ _ _ _ _ h3 (by omega)]
    simp only[Result.andThen];rw[run_sliceBound _ _ _ _ _ h3 (by omega)]
    simp only[Result.andThen];rw[run_sliceBound _ _ _ _ _ h6 (by omega)]
  simp only[Instr.sliceAt,Instr.slice,bI,run_underlying ht,Result.andThen,Sem.run_pure,hb1,dS hz]
 ·by_cases hcl:mx.toNat=l
  ·rw[af hcl];refine .rs n ver _ _ z b o' _ ha hm (by omega) (.inl (by omega)) fun c hc'=> ?_
   obtain⟨h7,h8⟩:=hx c hc';refine⟨h7,fun e=>⟨(h8 e).1,?_⟩⟩
   have h9:=(h8 e).2;have h10:l*z<=cap*z:=dQ _ (by omega)
   rw[hcl,gD,vJ];omega
  ·rw[aa hcl];simp only[Option.map_some,fM];refine .rs n ver _ _ z b _ _ ha hm (by omega) (.inr ?_) fun c hc'=> ?_
   ·have:cap≠0:=by omega
    rcases ho with ho|ho
    ·omega
    ·rw[ho]
   ·obtain⟨h7,h8⟩:=hx c hc';refine⟨h7,fun e=>⟨(h8 e).1,?_⟩⟩
    have h9:=(h8 e).2;have h10:l*z+(mx.toNat-l)*z=mx.toNat*z:=by rw[<-dK];congr 1;omega
    have h11:mx.toNat*z<=cap*z:=dQ _ (by omega)
    omega
end
