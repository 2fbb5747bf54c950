/-
  Part of the proof, part Z18. Own work.
-/
import Derived.Test.YtmobkhegihemeaaGreatDoorZ17
import Derived.Test.YtmobkhegihemeaaGreatDoorChecked
import Derived.KernelRfl
import Derived.Lib.Bytealg
import Derived.Lib.Mul64
import Derived.Lib.ItoaNum
set_option linter.all false
namespace Go.Dom
open Go.RowKit
section
variable (P:Program) [aX P] (I:TypeId→Option TypeInfo)
def fB (t:TypeId):Option TypeDesc:=
 match I t with
 |some {desc:= .named _ u, .. }=>(I u).map (·.desc)
 |some i=>some i.desc
 |none=>none
def tT (t:TypeId):Option (List AV):=do
 let i←I t
 let z←i.zero
 if z.cells.size=i.size then aJ Ig z.cells.toList else none
def Np (t:TypeId):Option PV:=do
 let i←I t
 let v←i.zero
 match Ig v with
 |some (.v z)=>some z
 | _=>none
def vI (t:TypeId):Option Bool:=
 match fB I t with
 |some (.struct _)=>some true
 |some (.array _ _)=>some true
 |some _=>some false
 |none=>none
def eY (t:TypeId):Option Nat:=(I t).map (·.size)
def Kv (fs:Array Field) (ps:Array (Nat×Operand)):Option (List (Nat×Nat×SX)):=
 aJ (fun p=>do
  let f←fs[p.1]?
  let z←eY I f.type
  let x←sx P p.2
  some (f.offset,z,x)) ps.toList
def Cj (o:Oper) (c:Call):Option SO:=
 match c.callee with
 | .value f=>do
  let f←sx P f
  let args←aJ (sx P) c.args.toList
  some (.call f args)
 | .builtin b=>
  match b,c.args.toList,c.argTypes.toList with
  | .len,[x],[t]=>match fB I t with
   |some .string=>do some (.lenS (←sx P x))
   |some (.slice _)=>do some (.len (←sx P x))
   |some (.array n _)=>some (.lenA n)
   | _=>none
  | .append,[x,y],[t,u]=>match fB I t,fB I u with
   |some (.slice e),some (.slice e')=>do
    let i←I e
    let z←i.zero
    if z.cells.size=i.size∧0<i.size∧e=e'∧t=u then some (.app e i.size i.bytes (←sx P x) (←sx P y))else none
   |some (.slice e),some .string=>do
    let i←I e
    let z←i.zero
    if z.cells.size=i.size∧i.size=1 then some (.app e i.size i.bytes (←sx P x) (←sx P y))else none
   | _,_=>none
  | .copy,[x,y],[t,u]=>match fB I t,fB I u with
   |some (.slice e),some (.slice _)=>do some (.cpy (←eY I e) (←sx P x) (←sx P y))
   |some (.slice e),some .string=>do
    if(←eY I e)=1 then some (.cpy 1 (←sx P x) (←sx P y))else none
   | _,_=>none
  | .clear,[x],[t]=>match fB I t with
   |some (.slice e)=>do some (.clr (←tT I e) (←sx P x))
   | _=>none
  | .max,[x,y],_=>do some (.mm true (←sx P x) (←sx P y))
  | .min,[x,y],_=>do some (.mm false (←sx P x) (←sx P y))
  | .unsafeSliceData,[x],_=>do some (.sld (←sx P x))
  | .unsafeString,[x,y],[pt,_]=>match fB I pt with
   |some (.pointer e)=>do if(eY I e).getD 0=1 then some (.ust e (←sx P x) (←sx P y))else none
   | _=>none
  | _,_,_=>none
 | .invoke _ _=>none
def HB (o:Oper):Option SO:=
 match o.op with
 | .move x=>do some (.mov (←sx P x))
 | .assign x=>do some (.mov (←sx P x))
 | .pick c a b=>do some (.pick (←sx P c) (←sx P a) (←sx P b))
 | .alloc t=>do some (.alloc t (←tT I t))
 | .box _ x=>do some (.box (←sx P x))
 | .build t ps=>match fB I t with
  |some (.struct fs)=>do
   if fs.toList.all (fun f=>(eY I f.type).isSome)then some (.build (←tT I t) (←Kv P I fs ps))else none
  |some (.array _ e)=>do
   let z←eY I e
   some (.build (←tT I t) (←yG P z ps))
  | _=>none
 | .buildSlice t n ps=>match fB I t with
  |some (.slice e)=>do
   let z←eY I e
   let ze←tT I e
   let xs←aJ (sx P) (ps.toList.map (·.2))
   if ps.toList.map (·.1)=List.range n∧n*z≤16777216∧0<z then some (.bsl (SG ze) z xs)else none
  | _=>none
 | .load t x=>do
  let ag←vI I t
  let z←eY I t
  if ag||z==1 then some (.ld ag z (←sx P x))else none
 | .store t a x=>do
  let z←eY I t
  some (.st z (←sx P a) (←sx P x))
 | .binOp op t x y _=>match fB I t with
  |some (.int _)=>do some (.bin op (←sx P x) (←sx P y))
  |some .string=>do some (.bin op (←sx P x) (←sx P y))
  |some .bool=>match op with
   | .eql=>do some (.beq false (←sx P x) (←sx P y))
   | .neq=>do some (.beq true (←sx P x) (←sx P y))
   | _=>none
  |some (.pointer te)=>if(I te).isSome then(match op with
   | .eql=>do some (.peq false (←sx P x) (←sx P y))
   | .neq=>do some (.peq true (←sx P x) (←sx P y))
   | _=>none)else none
  |some (.struct _)=>match op,(aX.pl P).find? (·.1==t)with
   | .eql,some q=>do some (.ceq false q.2 (←sx P x) (←sx P y))
   | .neq,some q=>do some (.ceq true q.2 (←sx P x) (←sx P y))
   | _,_=>none
  |some (.slice _)=>match op,y with
   | .eql, .const (.slice none 0 0)=>do some (.snl false (←sx P x))
   | .neq, .const (.slice none 0 0)=>do some (.snl true (←sx P x))
   | _,_=>none
  | _=>none
 | .unOp op _ x=>do some (.un op (←sx P x))
 | .convert s d x=>match fB I s,fB I d with
  |some (.int _),some (.int k)=>do some (.cvi k (←sx P x))
  |some .string,some .string=>do some (.cvs (←sx P x))
  |some (.slice e),some .string=>match fB I e with
   |some (.int .u8)=>do
    if(←eY I e)=1 then some (.b2s (←sx P x))else none
   | _=>none
  |some .string,some (.slice e)=>match fB I e with
   |some (.int .u8)=>do some (.s2b (←sx P x))
   | _=>none
  |some (.pointer t),some .unsafePointer=>do
   if(←eY I t)=0 then none else some (.cvp (fun _ _ _=>true) (←sx P x))
  |some .unsafePointer,some (.pointer u)=>do
   if(←eY I u)=0 then none else some (.cvp (fun e n o=>liesAt P P.depth e (n/P.cellsOf e) o u 1) (←sx P x))
  | _,_=>none
 | .makeSlice t l c=>match fB I t with
  |some (.slice e)=>do
   let i←I e
   let z←tT I e
   if 0<i.size∧0<i.bytes then some (.mks z i.bytes (←sx P l) (←sx P c))else none
  | _=>none
 | .slice t x lo hi mx=>match fB I t with
  |some .string=>match mx with
   |none=>do some (.slS (←sx P x) (←qS P lo) (←qS P hi))
   |some _=>none
  |some (.slice e)=>do some (.slL (←eY I e) (←sx P x) (←qS P lo) (←qS P hi) (←qS P mx))
  |some (.array n e)=>do some (.slA n (←eY I e) (←sx P x) (←qS P lo) (←qS P hi) (←qS P mx))
  | _=>none
 | .fieldAddr s x f=>match fB I s with
  |some (.struct fs)=>do
   let fl←fs[f]?
   let z←eY I fl.type
   if z=0 then none else some (.fad fl.offset (←sx P x))
  | _=>none
 | .field s x f=>match fB I s with
  |some (.struct fs)=>do
   let fl←fs[f]?
   let z←eY I fl.type
   let ag←vI I fl.type
   if ag||z==1 then some (.fld ag fl.offset z (←sx P x))else none
  | _=>none
 | .indexAddr t x i=>match fB I t with
  |some (.slice e)=>do some (.ixs (←eY I e) (←sx P x) (←sx P i))
  |some (.array n e)=>do some (.ixa n (←eY I e) (←sx P x) (←sx P i))
  | _=>none
 | .index t x i=>match fB I t with
  |some .string=>do some (.ixS (←sx P x) (←sx P i))
  |some (.array n e)=>do
   let z←eY I e
   let ag←vI I e
   if ag||z==1 then some (.ixV ag n z (←sx P x) (←sx P i))else none
  | _=>none
 | .extract x k=>do some (.ext (←sx P x) k)
 | .call c=>Cj P I o c
 | .makeFunc f a c=>do some (.mkf f (←aJ (sx P) a.toList) (←aJ (sx P) c.toList))
 | .nilCheck x=>do some (.nck (←sx P x))
 | .makeInterface t x=>match fB I t with
  |some (.int _)=>do some (.mki t (←sx P x))
  |some .string=>do some (.mki t (←sx P x))
  | _=>none
 | .makeMap t r=>match r,fB I t with
  |none,some (.map _ _)=>some .mkm
  |some (.const (.int _ _)),some (.map _ _)=>some .mkm
  | _,_=>none
 | .lookup t x k c=>match fB I t with
  |some (.map kt et)=>do
   let z←Np I et
   let x←sx P x
   let k←sx P k
   match fB I kt with
   |some (.int _)=>some (.mget c false z x k)
   |some .string=>some (.mget c true z x k)
   | _=>none
  | _=>none
 | .mapUpdate t m k v=>match fB I t with
  |some (.map kt _)=>do
   let m←sx P m
   let k←sx P k
   let v←sx P v
   match fB I kt with
   |some (.int _)=>some (.mset false m k v)
   |some .string=>some (.mset true m k v)
   | _=>none
  | _=>none
 | .panic _=>some .stop
 | _=>none
def L2 (nt:Nat) (ops:Array Oper) (o:Oper):Option fg:=
 match HB P I o,Ap ops nt o.guard with
 |some so,some g=>if Sa nt o.dst then some ⟨o.dst,so,g⟩else none
 | _,_=>none
def Hg (nt:Nat) (ops:Array Oper) (draw:Bool):Option SC:=
 match aJ (L2 P I nt ops) ops.toList with
 |some sops=>if draw then(if y5 ops (Region.before ops).toList&&stat (Region.before ops).toList sops then some (.reg (some (Region.before ops).toList) sops)else none)else some (.reg none sops)
 |none=>none
def qo:List ResultVar→Option (List j2):=
 aJ fun
  | .tmp t=>some (.t t)
  | .cell a ty=>match vI I ty,eY I ty with
   |some ag,some z=>if ag||z==1 then some (.c a ag z)else none
   | _,_=>none
end
def iq (P:Program) [aX P] (I:TypeId→Option TypeInfo) (nt:Nat):Code→Option SC
 | .skip=>some .skip
 | .region _ ops draw=>Hg P I nt ops draw
 | .seq a b=>match iq P I nt a,iq P I nt b with
  |some a,some b=>some (.seq a b)
  | _,_=>none
 | .cond c a b=>match sx P c,iq P I nt a,iq P I nt b with
  |some c,some a,some b=>some (.cond c a b)
  | _,_,_=>none
 | .block id a=>match iq P I nt a with
  |some a=>some (.blk id a)
  |none=>none
 | .loop a=>match iq P I nt a with
  |some a=>some (.loop a)
  |none=>none
 | .rangeFunc g ps a b=>match sx P g,iq P I nt a,iq P I nt b with
  |some g,some a,some b=>if a.cj&&b.cj&&ps.toList.all (fun p=>Nat.blt p nt)then some (.rng g ps.toList a b)else none
  | _,_,_=>none
 | .exit id=>some (.exit id)
 | .ret=>some .ret
 | .refuse _=>some .stop
 | .scope a=>iq P I nt a
 | .label _=>some .skip
 | _=>none
section
variable {P:Program} [aX P]
theorem Gz:iq P P.info?=comp P:=by
 funext nt c
 have h:Hg P P.info?=AZ P:=rfl
 induction c<;>simp_all[iq,comp]<;>rfl
theorem xl:qo P.info?=dC P:=rfl
end
theorem aU {β:Type} {f:Nat→Option β} {a n:Nat} {l:List (Option β)} (h:(List.range' a n).map f=l) {t:Nat} (h1:a≤t) (h2:t<a+n):l.getD (t-a) none=f t:=by
 subst h;have:t-a<n:=by omega
 simp[List.getD_eq_getElem?_getD,this,show a+(t-a)=t by omega]
end Go.Dom
namespace Go.Proofs.YtmobkhegihemeaaGreatDoor
open Go Go.Dom
set_option maxRecDepth 100000
theorem mixed:Tryz.prog.follows .mixedOrders=true:=by kernel_rfl
def iw:List Int:=[0,1,28,2,29,14,24,3,30,22,20,15,25,17,4,8,31,27,13,23,21,19,16,7,26,12,18,6,11,5,10,9]
def il:List Int:=[0,1,56,2,57,49,28,3,61,58,42,50,38,29,17,4,62,47,59,36,45,43,51,22,53,39,33,30,24,18,12,5,63,55,48,27,60,41,37,16,46,35,44,21,52,32,23,11,54,26,40,15,34,20,31,10,25,14,19,9,13,8,7,6]
def jL:List Int:=[1,10,100,1000,10000,100000,1000000,10000000,100000000,1000000000,10000000000,100000000000,1000000000000,10000000000000,100000000000000,1000000000000000,10000000000000000,100000000000000000,1000000000000000000,10000000000000000000]
instance S5:aX Tryz.prog:=⟨[(5,iw.map fun n=>(.u8,n)),(0,il.map fun n=>(.u8,n)),(4,jL.map fun n=>(.u64,n))],[(49,[0,1])],by
 intro q hq;simp only[List.mem_singleton]at hq;subst hq;kernel_rfl⟩
noncomputable def Sd:{l:List (Option TypeInfo)//(List.range' 0 16).map Tryz.prog.info?=l}:=⟨_,by conv=>lhs;reduce⟩
noncomputable def Sw:{l:List (Option TypeInfo)//(List.range' 16 16).map Tryz.prog.info?=l}:=⟨_,by conv=>lhs;reduce⟩
noncomputable def Si:{l:List (Option TypeInfo)//(List.range' 32 16).map Tryz.prog.info?=l}:=⟨_,by conv=>lhs;reduce⟩
noncomputable def Se:{l:List (Option TypeInfo)//(List.range' 48 16).map Tryz.prog.info?=l}:=⟨_,by conv=>lhs;reduce⟩
noncomputable def Sp:{l:List (Option TypeInfo)//(List.range' 64 16).map Tryz.prog.info?=l}:=⟨_,by conv=>lhs;reduce⟩
noncomputable def Sf:{l:List (Option TypeInfo)//(List.range' 80 16).map Tryz.prog.info?=l}:=⟨_,by conv=>lhs;reduce⟩
noncomputable def Sj:{l:List (Option TypeInfo)//(List.range' 96 16).map Tryz.prog.info?=l}:=⟨_,by conv=>lhs;reduce⟩
noncomputable def SD:{l:List (Option TypeInfo)//(List.range' 112 16).map Tryz.prog.info?=l}:=⟨_,by conv=>lhs;reduce⟩
noncomputable def Sq:{l:List (Option TypeInfo)//(List.range' 128 16).map Tryz.prog.info?=l}:=⟨_,by conv=>lhs;reduce⟩
noncomputable def Sz:{l:List (Option TypeInfo)//(List.range' 144 16).map Tryz.prog.info?=l}:=⟨_,by conv=>lhs;reduce⟩
noncomputable def O1:{l:List (Option TypeInfo)//(List.range' 160 16).map Tryz.prog.info?=l}:=⟨_,by conv=>lhs;reduce⟩
noncomputable def OD:{l:List (Option TypeInfo)//(List.range' 176 16).map Tryz.prog.info?=l}:=⟨_,by conv=>lhs;reduce⟩
noncomputable def OH:{l:List (Option TypeInfo)//(List.range' 192 16).map Tryz.prog.info?=l}:=⟨_,by conv=>lhs;reduce⟩
noncomputable def PW:{l:List (Option TypeInfo)//(List.range' 208 16).map Tryz.prog.info?=l}:=⟨_,by conv=>lhs;reduce⟩
noncomputable def P0:{l:List (Option TypeInfo)//(List.range' 224 16).map Tryz.prog.info?=l}:=⟨_,by conv=>lhs;reduce⟩
noncomputable def PG:{l:List (Option TypeInfo)//(List.range' 240 16).map Tryz.prog.info?=l}:=⟨_,by conv=>lhs;reduce⟩
noncomputable def Ps:{l:List (Option TypeInfo)//(List.range' 256 16).map Tryz.prog.info?=l}:=⟨_,by conv=>lhs;reduce⟩
noncomputable def Py:{l:List (Option TypeInfo)//(List.range' 272 16).map Tryz.prog.info?=l}:=⟨_,by conv=>lhs;reduce⟩
noncomputable def Pk:{l:List (Option TypeInfo)//(List.range' 288 16).map Tryz.prog.info?=l}:=⟨_,by conv=>lhs;reduce⟩
noncomputable def PI:{l:List (Option TypeInfo)//(List.range' 304 16).map Tryz.prog.info?=l}:=⟨_,by conv=>lhs;reduce⟩
noncomputable def Pp:{l:List (Option TypeInfo)//(List.range' 320 16).map Tryz.prog.info?=l}:=⟨_,by conv=>lhs;reduce⟩
noncomputable def Pq:{l:List (Option TypeInfo)//(List.range' 336 16).map Tryz.prog.info?=l}:=⟨_,by conv=>lhs;reduce⟩
noncomputable def Qa:{l:List (Option TypeInfo)//(List.range' 352 16).map Tryz.prog.info?=l}:=⟨_,by conv=>lhs;reduce⟩
noncomputable def O8:{l:List (Option TypeInfo)//(List.range' 368 16).map Tryz.prog.info?=l}:=⟨_,by conv=>lhs;reduce⟩
noncomputable def OY:{l:List (Option TypeInfo)//(List.range' 384 16).map Tryz.prog.info?=l}:=⟨_,by conv=>lhs;reduce⟩
noncomputable def Qm:{l:List (Option TypeInfo)//(List.range' 400 16).map Tryz.prog.info?=l}:=⟨_,by conv=>lhs;reduce⟩
noncomputable def OI:{l:List (Option TypeInfo)//(List.range' 416 10).map Tryz.prog.info?=l}:=⟨_,by conv=>lhs;reduce⟩
noncomputable def LV (t:Nat):Option TypeInfo:=if t<426 then(if t<208 then if t<96 then if t<48 then if t<16 then Sd.1.getD (t-0) none else if t<32 then Sw.1.getD (t-16) none else Si.1.getD (t-32) none else if t<64 then Se.1.getD (t-48) none else if t<80 then Sp.1.getD (t-64) none else Sf.1.getD (t-80) none else if t<144 then if t<112 then Sj.1.getD (t-96) none else if t<128 then SD.1.getD (t-112) none else Sq.1.getD (t-128) none else if t<176 then if t<160 then Sz.1.getD (t-144) none else O1.1.getD (t-160) none else if t<192 then OD.1.getD (t-176) none else OH.1.getD (t-192) none else if t<320 then if t<256 then if t<224 then PW.1.getD (t-208) none else if t<240 then P0.1.getD (t-224) none else PG.1.getD (t-240) none else if t<288 then if t<272 then Ps.1.getD (t-256) none else Py.1.getD (t-272) none else if t<304 then Pk.1.getD (t-288) none else PI.1.getD (t-304) none else if t<368 then if t<336 then Pp.1.getD (t-320) none else if t<352 then Pq.1.getD (t-336) none else Qa.1.getD (t-352) none else if t<400 then if t<384 then O8.1.getD (t-368) none else OY.1.getD (t-384) none else if t<416 then Qm.1.getD (t-400) none else OI.1.getD (t-416) none)else Tryz.prog.info? t
theorem S1:LV=Tryz.prog.info?:=by
 funext t;unfold LV
 repeat' split
 ·exact aU Sd.2 (by omega) (by omega)
 ·exact aU Sw.2 (by omega) (by omega)
 ·exact aU Si.2 (by omega) (by omega)
 ·exact aU Se.2 (by omega) (by omega)
 ·exact aU Sp.2 (by omega) (by omega)
 ·exact aU Sf.2 (by omega) (by omega)
 ·exact aU Sj.2 (by omega) (by omega)
 ·exact aU SD.2 (by omega) (by omega)
 ·exact aU Sq.2 (by omega) (by omega)
 ·exact aU Sz.2 (by omega) (by omega)
 ·exact aU O1.2 (by omega) (by omega)
 ·exact aU OD.2 (by omega) (by omega)
 ·exact aU OH.2 (by omega) (by omega)
 ·exact aU PW.2 (by omega) (by omega)
 ·exact aU P0.2 (by omega) (by omega)
 ·exact aU PG.2 (by omega) (by omega)
 ·exact aU Ps.2 (by omega) (by omega)
 ·exact aU Py.2 (by omega) (by omega)
 ·exact aU Pk.2 (by omega) (by omega)
 ·exact aU PI.2 (by omega) (by omega)
 ·exact aU Pp.2 (by omega) (by omega)
 ·exact aU Pq.2 (by omega) (by omega)
 ·exact aU Qa.2 (by omega) (by omega)
 ·exact aU O8.2 (by omega) (by omega)
 ·exact aU OY.2 (by omega) (by omega)
 ·exact aU Qm.2 (by omega) (by omega)
 ·exact aU OI.2 (by omega) (by omega)
 ·rfl
theorem fh:(∀nt c sc,iq Tryz.prog LV nt c=some sc→comp Tryz.prog nt c=some sc)∧ ∀l rs,qo LV l=some rs→dC Tryz.prog l=some rs:=by
 rw[S1,Gz,xl];exact⟨fun _ _ _ h=>h,fun _ _ h=>h⟩
theorem eW {f:FuncId} {fn:Func} {sc:SC} {rs:List j2} (hent:Enters Tryz.prog f f) (hfn:Tryz.prog.funcs[f]?=some fn) {args:List PV} {r:PV} (h:CW Tryz.prog (CX rs r) sc [] ⟨MP 0 args,[],1000⟩) (hb:fn.body.isSome=true:=by exact rfl) (hc:iq Tryz.prog LV fn.ntmps (fn.body.getD .skip)=some sc:=by cbv) (hr:qo LV fn.results.toList=some rs:=by cbv) (hlen:Nat.ble args.length fn.ntmps=true:=by exact rfl):aA Tryz.prog f args r:=aA.w mixed hent hfn hb (fh.1 _ _ _ hc) (fh.2 _ _ hr) hlen h
theorem Sh {c:UInt8} (h:(c.toNat:Int)=0):c=0:=UInt8.toNat_inj.1 (by simpa using h)
theorem QS {c:UInt8} (h:(c.toNat:Int)≠0):c≠0:=fun e=>by subst e;simp at h
abbrev E (n:Int):PV:= .i .i64 n
theorem Iz {l:Bytes} {x:Nat} (h:x<l.length):(l.map u8).getD x .fn0=u8 (l.getD x 0):=by
 simp[List.getD_eq_getElem?_getD,h]
theorem JX (c:UInt8):(u8 c).byte=c:=by simp[u8,PV.byte]
theorem rJ (l:Bytes):(l.map u8).map PV.byte=l:=by induction l<;>simp_all[JX]
theorem np {l:Bytes} {y:PV} (h:y∈l.map u8):y.isByte:=by
 obtain⟨c,_,rfl⟩:=List.mem_map.1 h;trivial
theorem qn {l:Bytes} {y:PV} (h:y∈l.map u8):y.cells.length=1:=by
 obtain⟨c,_,rfl⟩:=List.mem_map.1 h;rfl
theorem sM (a:Bytes):aa a=(decide ((a.length:Int)≤128)&&(((a.length:Int)==0)||(((a.getD 0 0).toNat:Int) !=0))):=by
 unfold aa;have h1:decide ((a.length:Int)≤128)=decide (a.length≤128):=by simp;omega
 have h2:((a.length:Int)==0)=(a.length==0):=by rw[Bool.eq_iff_iff];simp only[beq_iff_eq];omega
 have h3:(((a.getD 0 0).toNat:Int) !=0)=(a.headD 0 !=0):=by
  cases a with
  |nil=>rfl
  |cons x r=>
   have:x.toNat=0↔x=0:=by
    constructor
    ·intro h;exact UInt8.toNat_inj.1 h
    ·intro h;subst h;rfl
   rw[Bool.eq_iff_iff];simp[this]
 rw[h1,h2,h3]
theorem aG (a:Bytes):aA Tryz.prog 71 [.s a] (.b (aa a)):=by
 rw[sM];refine eW Tryz.call71 Tryz.func71 ?_;repeat' first|simp only[go_sem,seval]|refine sB ?_|(first|apply pX|apply bX)<;>intro hc|refine⟨oD,?_⟩|exact oD|fail
 all_goals simp_all
 all_goals omega
theorem fM (l:Bytes):aA Tryz.prog 78 [.sl (l.map u8)] (.s (dS l)):=by
 refine eW Tryz.call78 Tryz.func78 ?_;simp only[go_sem,seval];refine ai (α:=Bytes) List.length (fun x=>⟨[(0, .v (.sl (x.map u8)))],[],_⟩) (fun x=>dS x=dS l) l (fun _=>Nat.le_refl _) rfl ?_ ?_
 ·refine AS.Le.of (Nat.le_refl _) ⟨rfl,rfl,trivial⟩ trivial
 ·intro x hx R hR
  cases x with
  |nil=>
   repeat' first|simp only[go_sem,seval]|refine sB ?_|(first|apply pX|apply bX)<;>intro hc|refine⟨oD,?_⟩|exact oD|fail
   rw[←hx];rfl
  |cons c r=>
   repeat' first|simp only[go_sem,seval]|refine sB ?_|(first|apply pX|apply bX)<;>intro hc|refine⟨oD,?_⟩|exact oD|fail
   ·refine⟨⟨by omega,fun x hx=>qn hx⟩,hR r ?_ (Nat.lt_succ_self _) _ (AS.Le.of (by decide) ⟨rfl,rfl,trivial⟩ trivial)⟩
    rw[←hx,dS,if_pos (Sh hc)]
   ·refine⟨fun y hy=>np hy,?_⟩
    rw[←hx,dS,if_neg (QS hc)];rw[rJ]
theorem kS (a:Bytes):aA Tryz.prog 148 [.s a] (.tup [.s (if a.length≤128 then a else[]),E (if a.length≤128 then 0 else 5)]):=by
 refine eW Tryz.call148 Tryz.func148 ?_;repeat' first|simp only[go_sem,seval]|refine sB ?_|(first|apply pX|apply bX)<;>intro hc|refine⟨oD,?_⟩|exact oD|fail
 ·have h: ¬a.length≤128:=by omega
  simp[h]
 ·have h:a.length≤128:=by omega
  simp[h]
theorem gG (a:Bytes) (i:Nat) (ha:a.length<4611686018427387904):aA Tryz.prog 147 [.s a,E i] (E ((num a/256^i%256:Nat):Int)):=by
 refine eW Tryz.call147 Tryz.func147 ?_;repeat' first|simp only[go_sem,seval]|refine sB ?_|(first|apply pX|apply bX)<;>intro hc|refine⟨oD,?_⟩|exact oD|fail
 ·rw[kU a (by omega)];rfl
 ·have h:=nu a (i:=i) (by omega)
  rw[←h,show((a.length:Int)-1-(i:Int)).toNat=a.length-1-i by omega]
  have:=(a.getD (a.length-1-i) 0).toNat_lt;rw[IntWalk.i64_in _ (by omega)]
theorem EL (x:Int):aA Tryz.prog 212 [E x] (.b false):=by
 refine eW Tryz.call212 Tryz.func212 ?_;simp only[go_sem,seval];simp
theorem C7 (x y:Int):aA Tryz.prog 135 [E x,E y] (E (if x<y then-1 else if y<x then 1 else 0)):=by
 refine eW Tryz.call135 Tryz.func135 ?_;repeat' first|simp only[go_sem,seval]|refine cP (EL _) ?_|refine sB ?_|(first|apply pX|apply bX)<;>intro hc|refine⟨oD,?_⟩|exact oD|fail
 all_goals (simp_all<;>omega)
theorem CJ (a b:Bytes):Ri Tryz.prog 300 [.s a, .s b] (E (Lib.compareBytes a b)):=by
 intro rd vs w hv;obtain⟨x,us,rfl,hx,hv⟩:=hv.cW;obtain⟨y,us,rfl,hy,hv⟩:=hv.cW;obtain rfl:=hv.bO
 cases hx;cases hy
 have h1:(Tryz.f300.name== "runtime.NumGoroutine")=false:=by kernel_rfl
 have h2:Tryz.f300.body.isNone=true:=by kernel_rfl
 have h3:(Extern.findNext Tryz.f300).isNone=true:=by kernel_rfl
 have h4:Extern.find Tryz.f300=some Extern.BytealgCompare.compare:=by kernel_rfl
 have h3':Extern.findNext Tryz.f300=none:=by simpa using h3
 refine⟨.int .i64 (Lib.compareBytes a b),?_, .i _ _⟩;simp only[callFunc,Sem.run_bind,run_program,Result.andThen,Tryz.func300,h1,h2,h3',h4,if_true,Bool.false_eq_true,if_false];have:=Lib.run_compareString (P:=Tryz.prog) ⟨a.toArray⟩ ⟨b.toArray⟩ w;simp only[List.toList_toArray]at this;simp[this]
theorem su (a b:Bytes):aA Tryz.prog 213 [.s a, .s b] (E (Lib.compareBytes a b)):=by
 refine eW Tryz.call213 Tryz.func213 ?_;repeat' first|simp only[go_sem,seval]|(refine Ms (CJ _ _) rfl ?_)|refine sB ?_|(first|apply pX|apply bX)<;>intro hc|refine⟨oD,?_⟩|exact oD|fail
theorem sw (a b:Bytes):aA Tryz.prog 136 [.s a, .s b] (E (Lib.compareBytes a b)):=by
 refine eW Tryz.call136 Tryz.func136 ?_;repeat' first|simp only[go_sem,seval]|refine cP (su _ _) ?_|refine sB ?_|(first|apply pX|apply bX)<;>intro hc|refine⟨oD,?_⟩|exact oD|fail
def aO (a b:Nat):Int:=if a<b then-1 else if b<a then 1 else 0
theorem fC: ∀{a b:Bytes},a.length=b.length→Lib.compareBytes a b=aO (num a) (num b)
 |[],[],_=>rfl
 |x::r,y::s,h=>by
  have hl:r.length=s.length:=by simpa using h
  have ih:=fC hl;have h1:=oI x y hl;have h2:=oI y x hl.symm;have e1:x<y↔x.toNat<y.toNat:=UInt8.lt_iff_toNat_lt;have e2:y<x↔y.toNat<x.toNat:=UInt8.lt_iff_toNat_lt;simp only[Lib.compareBytes,aO,h1,h2,e1,e2,ih];rcases Nat.lt_trichotomy x.toNat y.toNat with h|h|h
  ·simp[h]
  ·have:x=y:=UInt8.toNat_inj.1 h;subst this;simp
  ·have hne: ¬x=y:=fun e=>by subst e;omega
   simp[h,Nat.lt_asymm h,hne]
theorem jB {a b:Bytes} (ha:Canon a) (hb:Canon b):aA Tryz.prog 77 [.s a, .s b] (E (aO (num a) (num b))):=by
 refine eW Tryz.call77 Tryz.func77 ?_;repeat' first|simp only[go_sem,seval]|refine cP (C7 _ _) ?_|refine cP (sw _ _) ?_|refine sB ?_|(first|apply pX|apply bX)<;>intro hc|refine⟨oD,?_⟩|exact oD|fail
 ·congr 1;refine fC ?_
  split at hc
  ·simp at hc
  ·split at hc
   ·simp at hc
   ·omega
 ·congr 1;unfold aO
  split at hc
  ·have:=ec (a:=a) hb (by omega)
   simp_all
  ·split at hc
   ·have:=ec (a:=b) ha (by omega)
    rename_i g1 g2;rw[if_neg g1,if_pos g2,if_neg (by omega),if_pos (by omega)]
   ·simp at hc
theorem ie (a b:Bytes):aA Tryz.prog 30 [.s a, .s b] (E (if aa a&&aa b then aO (num a) (num b)else 0)):=by
 refine eW Tryz.call30 Tryz.func30 ?_;repeat' first|simp only[go_sem,seval]|refine cP (aG _) ?_|(refine b9 (jB (aS (by assumption)) (aS (by assumption))) rfl ?_)|refine sB ?_|(first|apply pX|apply bX)<;>intro hc|refine⟨oD,?_⟩|exact oD|fail
 all_goals simp_all
theorem iW {a:Bytes} {i:Nat} (h:i<a.length):num (a.take (i+1))=num (a.take i)*256+(a.getD i 0).toNat:=by
 rw[List.take_succ_eq_append_getElem h,wI];simp[List.getD_eq_getElem?_getD,h]
theorem iY (a:Bytes):aA Tryz.prog 130 [.s a] (.tup [.i .u64 (if aa a&&decide (a.length≤8)then num a else 0), .b (aa a&&decide (a.length≤8))]):=by
 refine eW Tryz.call130 Tryz.func130 ?_;repeat' first|simp only[go_sem,seval]|refine cP (aG _) ?_|refine sB ?_|(first|apply pX|apply bX)<;>intro hc|refine⟨oD,?_⟩|exact oD|fail
 rotate_right
 ·simp_all
 ·have: ¬a.length≤8:=by omega
  simp[this]
 ·have h8:a.length≤8:=by omega
  refine ai (α:=Nat) (fun i=>a.length-i) (fun i=>⟨[(0, .v (.s a)),(4, .v (.i .u64 (num (a.take i)))),(15, .v (.i .i64 a.length)),(16, .v (.i .i64 i))],[],1014⟩) (fun i=>i≤a.length) 0 (fun _=>Nat.le_refl _) (Nat.zero_le _) ?_ ?_
  ·(refine AS.Le.of (by first|decide|omega) ?_ ?_<;>simp[bz,bA,aD,ak,AV.bd,AV.bd.bdL,u8,af,ah,aj]);rfl
  ·intro i hi R hR
   by_cases hlt:i<a.length
   ·repeat' first|simp only[go_sem,seval]|refine sB ?_|(first|apply pX|apply bX)<;>intro hc|refine⟨oD,?_⟩|exact oD|fail
    refine hR (i+1) (by omega) (by omega) _ ?_
    have h1:=iW hlt;have h2:num (a.take i)<72057594037927936:=by
     refine Nat.lt_of_lt_of_le (aZ _) (Nat.le_trans (Nat.pow_le_pow_right (by decide) (?_: _≤7)) (by decide))
     simp;omega
    have h3:=(a.getD i 0).toNat_lt;rw[show((num (a.take i):Int)*256)=((num (a.take i)*256:Nat):Int) by simp]
    rw[IntWalk.u64_in _ (by omega),IntWalk.u64_in _ (by omega),ND .u64 rfl (by show _<18446744073709551616;omega) (by show _<18446744073709551616;omega),wA (k:=8) (by omega)]
    (refine AS.Le.of (by first|decide|omega) ?_ ?_<;>simp[bz,bA,aD,ak,AV.bd,AV.bd.bdL,u8,af,ah,aj])
    rw[h1];simp
   ·repeat' first|simp only[go_sem,seval]|refine sB ?_|(first|apply pX|apply bX)<;>intro hc|refine⟨oD,?_⟩|exact oD|fail
    rw[List.take_of_length_le (by omega)]
    simp[*]
theorem ES: ∀x:Fin 256,([0,1,2,2,3,3,3,3,4,4,4,4,4,4,4,4,5,5,5,5,5,5,5,5,5,5,5,5,5,5,5,5,6,6,6,6,6,6,6,6,6,6,6,6,6,6,6,6,6,6,6,6,6,6,6,6,6,6,6,6,6,6,6,6,7,7,7,7,7,7,7,7,7,7,7,7,7,7,7,7,7,7,7,7,7,7,7,7,7,7,7,7,7,7,7,7,7,7,7,7,7,7,7,7,7,7,7,7,7,7,7,7,7,7,7,7,7,7,7,7,7,7,7,7,7,7,7,7,8,8,8,8,8,8,8,8,8,8,8,8,8,8,8,8,8,8,8,8,8,8,8,8,8,8,8,8,8,8,8,8,8,8,8,8,8,8,8,8,8,8,8,8,8,8,8,8,8,8,8,8,8,8,8,8,8,8,8,8,8,8,8,8,8,8,8,8,8,8,8,8,8,8,8,8,8,8,8,8,8,8,8,8,8,8,8,8,8,8,8,8,8,8,8,8,8,8,8,8,8,8,8,8,8,8,8,8,8,8,8,8,8,8,8,8,8,8,8,8,8,8,8,8,8,8,8,8]:Bytes).getD x.val 0=UInt8.ofNat (Lib.bitLen x.val):=by decide+kernel
theorem fj {x:Nat} (h:x<256):([0,1,2,2,3,3,3,3,4,4,4,4,4,4,4,4,5,5,5,5,5,5,5,5,5,5,5,5,5,5,5,5,6,6,6,6,6,6,6,6,6,6,6,6,6,6,6,6,6,6,6,6,6,6,6,6,6,6,6,6,6,6,6,6,7,7,7,7,7,7,7,7,7,7,7,7,7,7,7,7,7,7,7,7,7,7,7,7,7,7,7,7,7,7,7,7,7,7,7,7,7,7,7,7,7,7,7,7,7,7,7,7,7,7,7,7,7,7,7,7,7,7,7,7,7,7,7,7,8,8,8,8,8,8,8,8,8,8,8,8,8,8,8,8,8,8,8,8,8,8,8,8,8,8,8,8,8,8,8,8,8,8,8,8,8,8,8,8,8,8,8,8,8,8,8,8,8,8,8,8,8,8,8,8,8,8,8,8,8,8,8,8,8,8,8,8,8,8,8,8,8,8,8,8,8,8,8,8,8,8,8,8,8,8,8,8,8,8,8,8,8,8,8,8,8,8,8,8,8,8,8,8,8,8,8,8,8,8,8,8,8,8,8,8,8,8,8,8,8,8,8,8,8,8,8,8]:Bytes).getD x 0=UInt8.ofNat (Lib.bitLen x):=ES ⟨x,h⟩
theorem ft {x:Nat} (h:x<256):Lib.bitLen x≤8:=Lib.bitLen_le x 8 (by decide) (by omega)
theorem len8_int {x:Nat} (h:x<256):(((UInt8.ofNat (Lib.bitLen x)).toNat:Nat):Int)=(Lib.bitLen x:Int):=by
 have:=ft h;rw[UInt8.toNat_ofNat'];omega
theorem Aq (x:Nat) (h:x<256):aA Tryz.prog 209 [.i .u8 x] (E (Lib.bitLen x)):=by
 refine eW Tryz.call209 Tryz.func209 ?_;repeat' first|simp only[go_sem,seval]|refine sB ?_|(first|apply pX|apply bX)<;>intro hc|refine⟨oD,?_⟩|exact oD|fail
 rw[fj h,len8_int h];have:=ft h;rw[IntWalk.i64_in _ (by omega)]
theorem ir {x y k:Nat} (hy:y<256) (hk:k≤56) (h:Lib.bitLen x=k+Lib.bitLen y) {T:Bytes} (hT: ∀x,x<256→T.getD x 0=UInt8.ofNat (Lib.bitLen x)):
  (0≤IntKind.u8.wrap (y:Int)∧IntKind.u8.wrap (y:Int)<256)∧PV.i IntKind.i64 (IntKind.i64.wrap ((k:Int)+IntKind.i64.wrap ((T.getD (IntKind.u8.wrap (y:Int)).toNat 0).toNat:Int)))=E (Lib.bitLen x):=by
 have h8:=ft hy;rw[Q9 hy,Int.toNat_natCast,hT y hy,len8_int hy,IntWalk.i64_in (Lib.bitLen y:Int) (by omega),IntWalk.i64_in _ (by omega),h]
 refine⟨by omega,?_⟩
 simp
theorem xE (x:Nat) (h:x<18446744073709551616):aA Tryz.prog 353 [.i .u64 x] (E (Lib.bitLen x)):=by
 have g8:=Lib.bitLen_shift8;have g16:=Lib.bitLen_shift16;have g32:=Lib.bitLen_shift32;refine eW Tryz.call353 Tryz.func353 ?_;repeat' first|simp only[go_sem,seval]|refine sB ?_|(first|apply pX|apply bX)<;>intro hc|refine⟨oD,?_⟩|exact oD|fail
 ·refine ir (k:=56) (by omega) (by decide) ?_ fun _=>fj
  rw[g32 x (by omega) (by omega),g16 _ (by omega) (by omega),g8 _ (by omega) (by omega)];omega
 ·refine ir (k:=48) (by omega) (by decide) ?_ fun _=>fj
  rw[g32 x (by omega) (by omega),g16 _ (by omega) (by omega)];omega
 ·refine ir (k:=40) (by omega) (by decide) ?_ fun _=>fj
  rw[g32 x (by omega) (by omega),g8 _ (by omega) (by omega)];omega
 ·refine ir (k:=32) (by omega) (by decide) ?_ fun _=>fj
  rw[g32 x (by omega) (by omega)]
 ·refine ir (k:=24) (by omega) (by decide) ?_ fun _=>fj
  rw[g16 x (by omega) (by omega),g8 _ (by omega) (by omega)];omega
 ·refine ir (k:=16) (by omega) (by decide) ?_ fun _=>fj
  rw[g16 x (by omega) (by omega)]
 ·refine ir (k:=8) (by omega) (by decide) ?_ fun _=>fj
  rw[g8 x (by omega) (by omega)]
 ·refine ir (k:=0) (by omega) (by decide) ?_ fun _=>fj
  omega
theorem mF (x:Nat) (h:x<18446744073709551616):aA Tryz.prog 299 [.i .u64 x] (E ((64-Lib.bitLen x:Nat):Int)):=by
 have h1:=Lib.bitLen_le x 64 (by decide) h
 refine eW Tryz.call299 Tryz.func299 ?_;repeat' first|simp only[go_sem,seval]|refine cP (xE x h) ?_|refine sB ?_|(first|apply pX|apply bX)<;>intro hc|refine⟨oD,?_⟩|exact oD|fail
 congr 1;omega
theorem l9 (x y:Nat) (hx:x<18446744073709551616) (hy:y<18446744073709551616):aA Tryz.prog 210 [.i .u64 x, .i .u64 y] (.tup [.i .u64 (x*y/18446744073709551616:Nat), .i .u64 (x*y%18446744073709551616:Nat)]):=by
 obtain⟨h1,h2,h3,h4⟩:=Lib.mul64_hi x y hx hy;refine eW Tryz.call210 Tryz.func210 ?_;simp only[go_sem,seval,uw,ss,mE,qD,yY,wC,rp,uz,qZ,q9,lC];have hb:=Lib.half_mul_le (a:=x/4294967296) (b:=y%4294967296) (by omega) (by omega)
 have ha:=Lib.half_mul_le (a:=x/4294967296) (b:=y/4294967296) (by omega) (by omega)
 have hc:=Lib.half_mul_le (a:=x%4294967296) (b:=y/4294967296) (by omega) (by omega)
 rw[←h4];generalize x/4294967296*(y%4294967296)=b at*;generalize x/4294967296*(y/4294967296)=a at*;generalize x%4294967296*(y/4294967296)=c at*;generalize x%4294967296*(y%4294967296)=d at*;congr 4;omega
end Go.Proofs.YtmobkhegihemeaaGreatDoor
namespace Go.Dom
open Go.RowKit

def hO (ops:Array Oper) (a a':Act):Prop:= ∀k,(∀(j:Nat) (o:Oper),ops[j]?=some o→o.dst≠some k)→a'.tmps.getD k undef=a.tmps.getD k undef
theorem hO.put {ops:Array Oper} {a a':Act} (h:hO ops a a') {j:Nat} {o:Oper} (ho:ops[j]?=some o) (v:Value) (ds:List Deferred):hO ops a (({a' with defers:=ds}:Act).put o.dst v):=by
 intro k hk;have hd:=hk j o ho;unfold Act.put
 cases hdst:o.dst with
 |none=>exact h k hk
 |some d=>
  have hne:d≠k:=fun e=>hd (by rw[hdst,e])
  show(a'.tmps.setIfInBounds d v).getD k undef= _;rw[←h k hk];simp[Array.getD_eq_getD_getElem?,Array.getElem?_setIfInBounds,hne]
theorem hO.at {ops:Array Oper} {a a':Act} (h:hO ops a a') (k:Nat) (hk:(ops.toList.all fun o=> !(o.dst==some k))=true):a'.tmps.getD k undef=a.tmps.getD k undef:=by
 refine h k fun j o ho he=> ?_
 have hm:o∈ops.toList:=Array.mem_toList_iff.2 (Array.mem_of_getElem? ho);have:=List.all_eq_true.1 hk o hm;rw[he]at this;simp at this
theorem Jl {t:Array Value} {n:Nat} (h:t.size=n):t=((List.range n).map fun k=>t.getD k undef).toArray:=by
 subst h;apply Array.ext
 ·simp
 ·intro i h1 h2;simp[Array.getD_eq_getD_getElem?,Array.getElem?_eq_getElem h1]
def QN (R:Act→World→Prop):Exit→Act→World→Prop:=fun e a w=>e= .normal∧R a w
theorem BZ {P:Program} {F:Fence} {n:Nat} {ops:Array Oper} {a0 a:Act} {R:Act→World→Prop} {K:Act→World→Prop} {j:Nat} {o:Oper} (ho:ops[j]?=some o) (hk:hO ops a0 a) {r:Result Next} (h:o.uponIn F n P a K (QN R) r):o.uponIn F n P a (fun a' w'=>K a' w'∧hO ops a0 a') (QN fun a w=>R a w∧hO ops a0 a) r:=by
 have hl: ∀(R:Act→World→Prop),¬LetsOut (QN R):=by rintro R ⟨a,w,h,-⟩;cases h
 have hp: ∀(v:Value),hO ops a0 (a.put o.dst v):=fun v=>hk.put ho v a.defers
 cases r with
 |ok x w'=>
  cases x with
  |value v=>exact⟨h,hp v⟩
  |skip=>exact⟨h,hp _⟩
  |defer d=>exact⟨h,hk.put ho _ _⟩
  |enter f args=>
   simp only[Oper.uponIn]at h⊢;refine⟨h.1,CallsIn.mono h.2 fun e w'' he=> ?_⟩
   cases e with
   |returned v=>exact⟨he,hp v⟩
   |panicked c=>obtain⟨h,-⟩:=he;cases h
   |outgrown=>exact(hl _ he).elim
  |row row args=>
   simp only[Oper.uponIn]at h⊢;exact⟨h.1,RowsIn.mono h.2 fun v w'' he=>⟨he,hp v⟩⟩
  |round l f tmps assign body=>
   simp only[Oper.uponIn]at h⊢;refine⟨h.1,RoundIn.mono h.2 fun e w'' he=> ?_⟩
   cases e with
   |returned v=>exact⟨he,hp v⟩
   |panicked c=>obtain⟨h,-⟩:=he;cases h
   |outgrown=>exact(hl _ he).elim
  | _=>exact h
 |halt e w'=>
  cases e with
  |panic v=>obtain⟨h,-⟩:=h;cases h
  | _=>exact h
theorem Ju {P:Program} {F:Fence} {n:Nat} {ops:Array Oper} {a0 a:Act} {w:World} {R:Act→World→Prop} {K:Act→World→Prop} {i:Nat} (hk:hO ops a0 a) (h:wpOpIn F n P ops (QN R) i K a w):wpOpIn F n P ops (QN fun a w=>R a w∧hO ops a0 a) i (fun a' w'=>K a' w'∧hO ops a0 a') a w:=by
 unfold wpOpIn at*
 cases ho:ops[i]? with
 |none=>simp only[ho]at h⊢;exact⟨h,hk⟩
 |some o=>
  simp only[ho]at h⊢;split
  ·rename_i hw;rw[if_pos hw]at h;exact⟨h.1,BZ ho hk h.2⟩
  ·rename_i hw;rw[if_neg hw]at h;exact⟨h.1,h.2,hk.put ho _ a.defers⟩
theorem Eh {P:Program} {F:Fence} {n:Nat} {md:Region.Mode} {ops:Array Oper} {a0:Act} {R:Act→World→Prop}: ∀(fuel:Nat) (listed:Array Bool) (a:Act) (w:World),hO ops a0 a→wpAnyIn F n P md ops (QN R) fuel listed a w→wpAnyIn F n P md ops (QN fun a w=>R a w∧hO ops a0 a) fuel listed a w:=by
 intro fuel
 induction fuel with
 |zero=>intro listed a w hk h;exact⟨h.1,h.2.1,h.2.2,hk⟩
 |succ fuel ih=>
  intro listed a w hk h;refine⟨fun hr=>⟨(h.1 hr).1,(h.1 hr).2,hk⟩,fun i hi=> ?_⟩
  exact wpOpIn_mono (fun a' w' h'=>ih _ _ _ h'.2 h'.1) (Ju hk (h.2 i hi))
theorem DC {P:Program} [aX P] (hm:P.follows .mixedOrders=true) {id:Nat} {ops:Array Oper} {sc:SC} {a:Act} {W:World} {rd:Rd} {pvs out:List (Nat×PV)} (hc:comp P a.tmps.size (.region id ops true)=some sc) (hd:a.defers=[]) (htr: ∀b o v,TR P b o=some v→rd b o=some v) (hrd: ∀b o v,rd b o=some v→W.cell? ⟨b,o,none⟩=some v)
  (hp: ∀p∈pvs,PR rd p.2 (a.tmps.getD p.1 undef)) (h:aw P sc (fun x s=>x= .normal∧ ∀p∈out,aD s.t p.1= .v p.2) ⟨pvs.map fun p=>(p.1, .v p.2),[],1000⟩):
  (Code.region id ops true).wpIn Fence.wide 0 P (fun e a' W'=>e= .normal∧((a'.defers=[]∧a'.tmps.size=a.tmps.size∧Below W.heap.size W W'∧ ∀p∈out,PR (c9 rd W W') p.2 (a'.tmps.getD p.1 undef))∧hO ops a a')) a W:=by
 let E:Env P:=⟨W,rd,fun b=>W.heap.size≤b,a.tmps.size,⟨rd,fun _=>False,fun _=>none,fun _=>0,fun _=>0,fun _=>false⟩,[],fun _ h=>h.elim,htr,W.heap.size,[],none,⟨rd,fun _=>False,fun _=>none,fun _=>0,fun _=>0,fun _=>false⟩,Nat.le_refl _,by simp,[],by simp⟩
 have hs0:iE E ⟨pvs.map fun p=>(p.1, .v p.2),[],1000⟩ a W:=by
  refine⟨⟨⟨rd,fun n=>n<1000,fun _=>none,fun _=>0,fun _=>0,fun _=>false⟩,?_,⟨hrd,?_,fun _ _=>rfl,?_,?_,?_,?_,?_,fun n ob hn=>by simp[Dom.ak]at hn⟩,fun _ _=>rfl,⟨⟨Wf.refl _ _,Nat.le_refl _,by simp[E]⟩,⟨⟨fun _ _ _ h=>h,fun _ h=>h.elim,fun _ h=>h.elim,fun _ h=>h.elim⟩,⟨fun _ _ _ h=>h,fun _ h=>h.elim,fun _ h=>h.elim,fun _ h=>h.elim⟩⟩,fun n ob hn=>by simp[Dom.ak]at hn⟩,hd,rfl,?_⟩,fun n hn=>hn.elim False.elim False.elim⟩
  ·intro n;simp
  ·intro n ob hn;simp[Dom.ak]at hn
  ·intro n ob hn;simp[Dom.ak]at hn
  ·intro n m ob oc hn;simp[Dom.ak]at hn
  ·intro n ob hn;simp[Dom.ak]at hn
  ·intro n ob hn;simp[Dom.ak]at hn
  ·intro n ob hn;simp[Dom.ak]at hn
  ·intro k;rcases yg (t:=pvs.map fun p=>(p.1,AV.v p.2)) (k:=k)with e|e
   ·rw[e];exact .u _
   ·obtain⟨p,hpm,he⟩:=List.mem_map.1 e;injection he with e1 e2
    rw[←e2,←e1];exact .v (hp p hpm)
 have hend: ∀(s:AS) (a':Act) (W':World),(∀p∈out,aD s.t p.1= .v p.2)→iE E s a' W'→a'.defers=[]∧a'.tmps.size=a.tmps.size∧Below W.heap.size W W'∧ ∀p∈out,PR (c9 rd W W') p.2 (a'.tmps.getD p.1 undef):=by
  intro s a' W' hq hsr;obtain⟨⟨C,hal,hh,hrd',⟨hwf,-,-⟩,hdf,hsz,htm⟩,-⟩:=hsr;refine⟨hdf,hsz,⟨hwf.wf.os,hwf.wf.tape,hwf.wf.output,hwf.wf.size,fun k hk=>hwf.wf.blk k hk (fun hw=>by have:W.heap.size≤k:=hw;omega)⟩,fun p hp=> ?_⟩
  have h1:=htm p.1;rw[hq p hp]at h1
  cases h1 with
  |v h2=>
   refine h2.mono fun b o v hv=> ?_
   unfold c9
   by_cases hb:b<W.heap.size
   ·rw[if_pos hb];have e:C.rd b=rd b:=hrd' b (.inl hb);rw[e]at hv;exact hv
   ·rw[if_neg hb];exact hh.rdw _ _ _ hv
 simp only[comp,AZ]at hc
 split at hc
 ·rename_i sops hsops;obtain⟨hlen,hok⟩:=qC hsops;simp only[if_true]at hc
  split at hc
  ·rename_i hcond;simp only[Bool.and_eq_true]at hcond;simp only[Option.some.injEq]at hc;subst hc;simp only[aw]at h;obtain⟨s2,tr,h1,h2,h3,h4⟩:=xM (sops:=sops) sops 0 _ [] _ (fun j=>by simp) h
   rw[←List.range_eq_range']at h1;have hl:=wz h1;rw[List.length_range]at hl;have hind:=qp hl hcond.2 h3;rw[hlen]at h1 hind;refine wpIn_region_any hm ?_;refine Eh (R:=fun a' W'=>a'.defers=[]∧a'.tmps.size=a.tmps.size∧Below W.heap.size W W'∧ ∀p∈out,PR (c9 rd W W') p.2 (a'.tmps.getD p.1 undef)) _ _ _ _ (fun _ _=>rfl) ?_
   have hrep: ∀k,k<ops.size→(Array.replicate ops.size false).getD k true=false:=by
    intro k hk;simp[Array.getD_eq_getD_getElem?,hk]
   refine ti (E:=E) (fun b hb=>hb) hlen hok hcond.1 (nx:=1000) (al:=fun n=>n<1000) (fun k _ h=>by omega) ?_ ops.size _ (List.range ops.size) _ _ tr a _ (by simp) List.pairwise_lt_range ?_ (by simp) ?_ h1 hind ?_
   ·intro a' w' hsr;refine⟨rfl,hend {s2 with nx:=1000+sops.length} a' w' h4.2 ?_⟩
    rw[hlen];exact iE.region hs0.2 hsr
   ·intro k;rw[List.mem_range];exact⟨fun h=>⟨h,hrep k h⟩,fun h=>h.1⟩
   ·intro j o ho hl;have hj:j<ops.size:=(Array.getElem?_eq_some_iff.1 ho).1;rw[hrep j hj]at hl;cases hl
   ·refine hs0.1.drew.gF fun n=>⟨.inl,?_⟩
    rintro(h|⟨k,h1,h2,-⟩)
    ·exact h
    ·rw[hrep k h1]at h2;cases h2
  ·cases hc
 ·cases hc
end Go.Dom
namespace Go.Proofs.YtmobkhegihemeaaGreatDoor
open Go Go.Dom
set_option maxRecDepth 100000
set_option maxHeartbeats 16000000
def jv (n:Nat):Bytes:=if n<10 then[UInt8.ofNat (48+n)]else[UInt8.ofNat (48+n/10),UInt8.ofNat (48+n%10)]
theorem wJ (n:Nat):(jv n).length≤2:=by unfold jv;split<;>simp
theorem Sc: ∀n:Fin 10,List.drop n.val (List.take (n.val+1) ([48,49,50,51,52,53,54,55,56,57,97,98,99,100,101,102,103,104,105,106,107,108,109,110,111,112,113,114,115,116,117,118,119,120,121,122]:Bytes))=jv n.val:=by decide+kernel
def R4:Bytes:=(List.range 100).flatMap fun n=>[UInt8.ofNat (48+n/10),UInt8.ofNat (48+n%10)]
theorem RQ: ∀n:Fin 100,10≤n.val→List.drop (n.val*2) (List.take (n.val*2+2) R4)=jv n.val:=by decide+kernel
theorem FX (n:Nat) (hn:n<100):aA Tryz.prog 340 [.i .i64 (n:Int)] (.s (jv n)):=by
 by_cases h:n<10
 ·have hb:=Sc ⟨n,h⟩;have t1: ∀ _:True,((n:Int)+1).toNat=n+1:=fun _=>by omega
  have d1: ∀ _:True,((n:Int)<10)=True:=fun _=>by simp;omega
  refine eW Tryz.call340 Tryz.func340 ?_;repeat' first|simp only[go_sem,seval,t1 trivial]|refine sB ?_|(first|apply pX|apply bX)<;>intro hc|refine⟨oD,?_⟩|exact oD|fail
  all_goals first|omega|exact congrArg PV.s hb|skip
 ·have hb:=RQ ⟨n,hn⟩ (by simpa using h)
  have t1: ∀ _:True,((n:Int)*2+2).toNat=n*2+2:=fun _=>by omega
  have t2: ∀ _:True,((n:Int)*2).toNat=n*2:=fun _=>by omega
  refine eW Tryz.call340 Tryz.func340 ?_;repeat' first|simp only[go_sem,seval,t1 trivial,t2 trivial]|refine sB ?_|(first|apply pX|apply bX)<;>intro hc|refine⟨oD,?_⟩|exact oD|fail
  all_goals first|omega|exact congrArg PV.s hb|skip
theorem uy (n:Nat) (hn:n<100):aA Tryz.prog 121 [.i .i64 (n:Int)] (.s (jv n)):=by
 have h:=FX n hn;have hF:aA Tryz.prog 291 [.i .i64 (n:Int), .i .i64 10] (.s (jv n)):=by
  refine eW Tryz.call291 Tryz.func291 ?_;repeat' first|simp only[go_sem,seval]|refine cP h ?_|refine sB ?_|(first|apply pX|apply bX)<;>intro hc|refine⟨oD,?_⟩|exact oD|fail
 have hI:aA Tryz.prog 205 [.i .i64 (n:Int)] (.s (jv n)):=by
  refine eW Tryz.call205 Tryz.func205 ?_;repeat' first|simp only[go_sem,seval]|refine cP hF ?_|refine sB ?_|(first|apply pX|apply bX)<;>intro hc|refine⟨oD,?_⟩|exact oD|fail
 refine eW Tryz.call121 Tryz.func121 ?_;repeat' first|simp only[go_sem,seval]|refine cP hI ?_|refine sB ?_|(first|apply pX|apply bX)<;>intro hc|refine⟨oD,?_⟩|exact oD|fail
end Go.Proofs.YtmobkhegihemeaaGreatDoor
