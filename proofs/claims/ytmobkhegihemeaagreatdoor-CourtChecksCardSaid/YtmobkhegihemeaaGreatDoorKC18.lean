/-
  Part of the proof, part KC18. Own work.
-/
import Derived.Test.YtmobkhegihemeaaGreatDoorKC17
import Derived.Test.YtmobkhegihemeaaGreatDoorChecked
import Derived.KernelRfl
import Derived.Lib.Bytealg
import Derived.Lib.Mul64
import Derived.Lib.ItoaNum
set_option linter.all false
namespace Go.Dom
open Go.RowKit
section
variable (P:Program) [bT P] (I:TypeId→Option TypeInfo)
def jv (t:TypeId):Option TypeDesc:=
 match I t with
 |some {desc:= .named _ u, .. }=>(I u).map (·.desc)
 |some i=>some i.desc
 |none=>none
def y2 (t:TypeId):Option (List AV):=do
 let i←I t
 let z←i.zero
 if z.cells.size=i.size then aQ MN z.cells.toList else none
def SH (t:TypeId):Option PV:=do
 let i←I t
 let v←i.zero
 match MN v with
 |some (.v z)=>some z
 | _=>none
def zG (t:TypeId):Option Bool:=
 match jv I t with
 |some (.struct _)=>some true
 |some (.array _ _)=>some true
 |some _=>some false
 |none=>none
def iH (t:TypeId):Option Nat:=(I t).map (·.size)
def NV (fs:Array Field) (ps:Array (Nat×Operand)):Option (List (Nat×Nat×SX)):=
 aQ (fun p=>do
  let f←fs[p.1]?
  let z←iH I f.type
  let x←sx P p.2
  some (f.offset,z,x)) ps.toList
def GL (o:Oper) (c:Call):Option SO:=
 match c.callee with
 | .value f=>do
  let f←sx P f
  let args←aQ (sx P) c.args.toList
  some (.call f args)
 | .builtin b=>
  match b,c.args.toList,c.argTypes.toList with
  | .len,[x],[t]=>match jv I t with
   |some .string=>do some (.lenS (←sx P x))
   |some (.slice _)=>do some (.len (←sx P x))
   |some (.array n _)=>some (.lenA n)
   | _=>none
  | .append,[x,y],[t,u]=>match jv I t,jv I u with
   |some (.slice e),some (.slice e')=>do
    let i←I e
    let z←i.zero
    if z.cells.size=i.size∧0<i.size∧e=e'∧t=u then some (.app e i.size i.bytes (←sx P x) (←sx P y))else none
   |some (.slice e),some .string=>do
    let i←I e
    let z←i.zero
    if z.cells.size=i.size∧i.size=1 then some (.app e i.size i.bytes (←sx P x) (←sx P y))else none
   | _,_=>none
  | .copy,[x,y],[t,u]=>match jv I t,jv I u with
   |some (.slice e),some (.slice _)=>do some (.cpy (←iH I e) (←sx P x) (←sx P y))
   |some (.slice e),some .string=>do
    if(←iH I e)=1 then some (.cpy 1 (←sx P x) (←sx P y))else none
   | _,_=>none
  | .clear,[x],[t]=>match jv I t with
   |some (.slice e)=>do some (.clr (←y2 I e) (←sx P x))
   | _=>none
  | .max,[x,y],_=>do some (.mm true (←sx P x) (←sx P y))
  | .min,[x,y],_=>do some (.mm false (←sx P x) (←sx P y))
  | .unsafeSliceData,[x],_=>do some (.sld (←sx P x))
  | .unsafeString,[x,y],[pt,_]=>match jv I pt with
   |some (.pointer e)=>do if(iH I e).getD 0=1 then some (.ust e (←sx P x) (←sx P y))else none
   | _=>none
  | _,_,_=>none
 | .invoke _ _=>none
def ML (o:Oper):Option SO:=
 match o.op with
 | .move x=>do some (.mov (←sx P x))
 | .assign x=>do some (.mov (←sx P x))
 | .pick c a b=>do some (.pick (←sx P c) (←sx P a) (←sx P b))
 | .alloc t=>do some (.alloc t (←y2 I t))
 | .box _ x=>do some (.box (←sx P x))
 | .build t ps=>match jv I t with
  |some (.struct fs)=>do
   if fs.toList.all (fun f=>(iH I f.type).isSome)then some (.build (←y2 I t) (←NV P I fs ps))else none
  |some (.array _ e)=>do
   let z←iH I e
   some (.build (←y2 I t) (←DU P z ps))
  | _=>none
 | .buildSlice t n ps=>match jv I t with
  |some (.slice e)=>do
   let z←iH I e
   let ze←y2 I e
   let xs←aQ (sx P) (ps.toList.map (·.2))
   if ps.toList.map (·.1)=List.range n∧n*z≤16777216∧0<z then some (.bsl (Wn ze) z xs)else none
  | _=>none
 | .load t x=>do
  let ag←zG I t
  let z←iH I t
  if ag||z==1 then some (.ld ag z (←sx P x))else none
 | .store t a x=>do
  let z←iH I t
  some (.st z (←sx P a) (←sx P x))
 | .binOp op t x y _=>match jv I t with
  |some (.int _)=>do some (.bin op (←sx P x) (←sx P y))
  |some .string=>do some (.bin op (←sx P x) (←sx P y))
  |some .bool=>match op with
   | .eql=>do some (.beq false (←sx P x) (←sx P y))
   | .neq=>do some (.beq true (←sx P x) (←sx P y))
   | _=>none
  |some (.pointer te)=>if(I te).isSome then(match op with
   | .eql=>do some (.peq false (←sx P x) (←sx P y))
   | .neq=>do some (.peq true (←sx P x) (←sx P y))
   | _=>none)else none
  |some (.struct _)=>match op,(bT.pl P).find? (·.1==t)with
   | .eql,some q=>do some (.ceq false q.2 (←sx P x) (←sx P y))
   | .neq,some q=>do some (.ceq true q.2 (←sx P x) (←sx P y))
   | _,_=>none
  |some (.slice _)=>match op,y with
   | .eql, .const (.slice none 0 0)=>do some (.snl false (←sx P x))
   | .neq, .const (.slice none 0 0)=>do some (.snl true (←sx P x))
   | _,_=>none
  | _=>none
 | .unOp op _ x=>do some (.un op (←sx P x))
 | .convert s d x=>match jv I s,jv I d with
  |some (.int _),some (.int k)=>do some (.cvi k (←sx P x))
  |some .string,some .string=>do some (.cvs (←sx P x))
  |some (.slice e),some .string=>match jv I e with
   |some (.int .u8)=>do
    if(←iH I e)=1 then some (.b2s (←sx P x))else none
   | _=>none
  |some .string,some (.slice e)=>match jv I e with
   |some (.int .u8)=>do some (.s2b (←sx P x))
   | _=>none
  |some (.pointer t),some .unsafePointer=>do
   if(←iH I t)=0 then none else some (.cvp (fun _ _ _=>true) (←sx P x))
  |some .unsafePointer,some (.pointer u)=>do
   if(←iH I u)=0 then none else some (.cvp (fun e n o=>liesAt P P.depth e (n/P.cellsOf e) o u 1) (←sx P x))
  | _,_=>none
 | .makeSlice t l c=>match jv I t with
  |some (.slice e)=>do
   let i←I e
   let z←y2 I e
   if 0<i.size∧0<i.bytes then some (.mks z i.bytes (←sx P l) (←sx P c))else none
  | _=>none
 | .slice t x lo hi mx=>match jv I t with
  |some .string=>match mx with
   |none=>do some (.slS (←sx P x) (←xu P lo) (←xu P hi))
   |some _=>none
  |some (.slice e)=>do some (.slL (←iH I e) (←sx P x) (←xu P lo) (←xu P hi) (←xu P mx))
  |some (.array n e)=>do some (.slA n (←iH I e) (←sx P x) (←xu P lo) (←xu P hi) (←xu P mx))
  | _=>none
 | .fieldAddr s x f=>match jv I s with
  |some (.struct fs)=>do
   let fl←fs[f]?
   let z←iH I fl.type
   if z=0 then none else some (.fad fl.offset (←sx P x))
  | _=>none
 | .field s x f=>match jv I s with
  |some (.struct fs)=>do
   let fl←fs[f]?
   let z←iH I fl.type
   let ag←zG I fl.type
   if ag||z==1 then some (.fld ag fl.offset z (←sx P x))else none
  | _=>none
 | .indexAddr t x i=>match jv I t with
  |some (.slice e)=>do some (.ixs (←iH I e) (←sx P x) (←sx P i))
  |some (.array n e)=>do some (.ixa n (←iH I e) (←sx P x) (←sx P i))
  | _=>none
 | .index t x i=>match jv I t with
  |some .string=>do some (.ixS (←sx P x) (←sx P i))
  |some (.array n e)=>do
   let z←iH I e
   let ag←zG I e
   if ag||z==1 then some (.ixV ag n z (←sx P x) (←sx P i))else none
  | _=>none
 | .extract x k=>do some (.ext (←sx P x) k)
 | .call c=>GL P I o c
 | .makeFunc f a c=>do some (.mkf f (←aQ (sx P) a.toList) (←aQ (sx P) c.toList))
 | .nilCheck x=>do some (.nck (←sx P x))
 | .makeInterface t x=>match jv I t with
  |some (.int _)=>do some (.mki t (←sx P x))
  |some .string=>do some (.mki t (←sx P x))
  | _=>none
 | .makeMap t r=>match r,jv I t with
  |none,some (.map _ _)=>some .mkm
  |some (.const (.int _ _)),some (.map _ _)=>some .mkm
  | _,_=>none
 | .lookup t x k c=>match jv I t with
  |some (.map kt et)=>do
   let z←SH I et
   let x←sx P x
   let k←sx P k
   match jv I kt with
   |some (.int _)=>some (.mget c false z x k)
   |some .string=>some (.mget c true z x k)
   | _=>none
  | _=>none
 | .mapUpdate t m k v=>match jv I t with
  |some (.map kt _)=>do
   let m←sx P m
   let k←sx P k
   let v←sx P v
   match jv I kt with
   |some (.int _)=>some (.mset false m k v)
   |some .string=>some (.mset true m k v)
   | _=>none
  | _=>none
 | .panic _=>some .stop
 | _=>none
def QW (nt:Nat) (ops:Array Oper) (o:Oper):Option iK:=
 match ML P I o,EX ops nt o.guard with
 |some so,some g=>if Vq nt o.dst then some ⟨o.dst,so,g⟩else none
 | _,_=>none
def Je (nt:Nat) (ops:Array Oper) (draw:Bool):Option SC:=
 match aQ (QW P I nt ops) ops.toList with
 |some sops=>if draw then(if DP ops (Region.before ops).toList&&stat (Region.before ops).toList sops then some (.reg (some (Region.before ops).toList) sops)else none)else some (.reg none sops)
 |none=>none
def vz:List ResultVar→Option (List nS):=
 aQ fun
  | .tmp t=>some (.t t)
  | .cell a ty=>match zG I ty,iH I ty with
   |some ag,some z=>if ag||z==1 then some (.c a ag z)else none
   | _,_=>none
end
def lB (P:Program) [bT P] (I:TypeId→Option TypeInfo) (nt:Nat):Code→Option SC
 | .skip=>some .skip
 | .region _ ops draw=>Je P I nt ops draw
 | .seq a b=>match lB P I nt a,lB P I nt b with
  |some a,some b=>some (.seq a b)
  | _,_=>none
 | .cond c a b=>match sx P c,lB P I nt a,lB P I nt b with
  |some c,some a,some b=>some (.cond c a b)
  | _,_,_=>none
 | .block id a=>match lB P I nt a with
  |some a=>some (.blk id a)
  |none=>none
 | .loop a=>match lB P I nt a with
  |some a=>some (.loop a)
  |none=>none
 | .rangeFunc g ps a b=>match sx P g,lB P I nt a,lB P I nt b with
  |some g,some a,some b=>if a.dG&&b.dG&&ps.toList.all (fun p=>Nat.blt p nt)then some (.rng g ps.toList a b)else none
  | _,_,_=>none
 | .exit id=>some (.exit id)
 | .ret=>some .ret
 | .refuse _=>some .stop
 | .scope a=>lB P I nt a
 | .label _=>some .skip
 | _=>none
section
variable {P:Program} [bT P]
theorem Jc:lB P P.info?=comp P:=by
 funext nt c
 have h:Je P P.info?=EZ P:=rfl
 induction c<;>simp_all[lB,comp]<;>rfl
theorem Bp:vz P.info?=fB P:=rfl
end
theorem bH {β:Type} {f:Nat→Option β} {a n:Nat} {l:List (Option β)} (h:(List.range' a n).map f=l) {t:Nat} (h1:a≤t) (h2:t<a+n):l.getD (t-a) none=f t:=by
 subst h;have:t-a<n:=by omega
 simp[aX,this,show a+(t-a)=t by omega]
end Go.Dom
namespace Go.Proofs.YtmobkhegihemeaaGreatDoor
open Go Go.Dom
set_option maxRecDepth 100000
theorem mixed:Tryz.prog.follows .mixedOrders=true:=by kernel_rfl
def lW:List Int:=[0,1,28,2,29,14,24,3,30,22,20,15,25,17,4,8,31,27,13,23,21,19,16,7,26,12,18,6,11,5,10,9]
def lZ:List Int:=[0,1,56,2,57,49,28,3,61,58,42,50,38,29,17,4,62,47,59,36,45,43,51,22,53,39,33,30,24,18,12,5,63,55,48,27,60,41,37,16,46,35,44,21,52,32,23,11,54,26,40,15,34,20,31,10,25,14,19,9,13,8,7,6]
def nO:List Int:=[1,10,100,1000,10000,100000,1000000,10000000,100000000,1000000000,10000000000,100000000000,1000000000000,10000000000000,100000000000000,1000000000000000,10000000000000000,100000000000000000,1000000000000000000,10000000000000000000]
instance Xr:bT Tryz.prog:=⟨[(5,lW.map fun n=>(.u8,n)),(0,lZ.map fun n=>(.u8,n)),(4,nO.map fun n=>(.u64,n))],[(49,[0,1])],by
 intro q hq;simp only[cO]at hq;subst hq;kernel_rfl⟩
noncomputable def Ws:{l:List (Option TypeInfo)//(List.range' 0 16).map Tryz.prog.info?=l}:=⟨_,by conv=>lhs;reduce⟩
noncomputable def Wt:{l:List (Option TypeInfo)//(List.range' 16 16).map Tryz.prog.info?=l}:=⟨_,by conv=>lhs;reduce⟩
noncomputable def Wu:{l:List (Option TypeInfo)//(List.range' 32 16).map Tryz.prog.info?=l}:=⟨_,by conv=>lhs;reduce⟩
noncomputable def Wv:{l:List (Option TypeInfo)//(List.range' 48 16).map Tryz.prog.info?=l}:=⟨_,by conv=>lhs;reduce⟩
noncomputable def Ww:{l:List (Option TypeInfo)//(List.range' 64 16).map Tryz.prog.info?=l}:=⟨_,by conv=>lhs;reduce⟩
noncomputable def Wx:{l:List (Option TypeInfo)//(List.range' 80 16).map Tryz.prog.info?=l}:=⟨_,by conv=>lhs;reduce⟩
noncomputable def Wy:{l:List (Option TypeInfo)//(List.range' 96 16).map Tryz.prog.info?=l}:=⟨_,by conv=>lhs;reduce⟩
noncomputable def Wz:{l:List (Option TypeInfo)//(List.range' 112 16).map Tryz.prog.info?=l}:=⟨_,by conv=>lhs;reduce⟩
noncomputable def WA:{l:List (Option TypeInfo)//(List.range' 128 16).map Tryz.prog.info?=l}:=⟨_,by conv=>lhs;reduce⟩
noncomputable def WC:{l:List (Option TypeInfo)//(List.range' 144 16).map Tryz.prog.info?=l}:=⟨_,by conv=>lhs;reduce⟩
noncomputable def Uo:{l:List (Option TypeInfo)//(List.range' 160 16).map Tryz.prog.info?=l}:=⟨_,by conv=>lhs;reduce⟩
noncomputable def Up:{l:List (Option TypeInfo)//(List.range' 176 16).map Tryz.prog.info?=l}:=⟨_,by conv=>lhs;reduce⟩
noncomputable def Uq:{l:List (Option TypeInfo)//(List.range' 192 16).map Tryz.prog.info?=l}:=⟨_,by conv=>lhs;reduce⟩
noncomputable def Ur:{l:List (Option TypeInfo)//(List.range' 208 16).map Tryz.prog.info?=l}:=⟨_,by conv=>lhs;reduce⟩
noncomputable def Us:{l:List (Option TypeInfo)//(List.range' 224 16).map Tryz.prog.info?=l}:=⟨_,by conv=>lhs;reduce⟩
noncomputable def Ut:{l:List (Option TypeInfo)//(List.range' 240 16).map Tryz.prog.info?=l}:=⟨_,by conv=>lhs;reduce⟩
noncomputable def Uu:{l:List (Option TypeInfo)//(List.range' 256 16).map Tryz.prog.info?=l}:=⟨_,by conv=>lhs;reduce⟩
noncomputable def Uv:{l:List (Option TypeInfo)//(List.range' 272 16).map Tryz.prog.info?=l}:=⟨_,by conv=>lhs;reduce⟩
noncomputable def Uw:{l:List (Option TypeInfo)//(List.range' 288 16).map Tryz.prog.info?=l}:=⟨_,by conv=>lhs;reduce⟩
noncomputable def Ux:{l:List (Option TypeInfo)//(List.range' 304 16).map Tryz.prog.info?=l}:=⟨_,by conv=>lhs;reduce⟩
noncomputable def Uy:{l:List (Option TypeInfo)//(List.range' 320 16).map Tryz.prog.info?=l}:=⟨_,by conv=>lhs;reduce⟩
noncomputable def Uz:{l:List (Option TypeInfo)//(List.range' 336 16).map Tryz.prog.info?=l}:=⟨_,by conv=>lhs;reduce⟩
noncomputable def UA:{l:List (Option TypeInfo)//(List.range' 352 16).map Tryz.prog.info?=l}:=⟨_,by conv=>lhs;reduce⟩
noncomputable def UB:{l:List (Option TypeInfo)//(List.range' 368 16).map Tryz.prog.info?=l}:=⟨_,by conv=>lhs;reduce⟩
noncomputable def UC:{l:List (Option TypeInfo)//(List.range' 384 16).map Tryz.prog.info?=l}:=⟨_,by conv=>lhs;reduce⟩
noncomputable def UD:{l:List (Option TypeInfo)//(List.range' 400 16).map Tryz.prog.info?=l}:=⟨_,by conv=>lhs;reduce⟩
noncomputable def UE:{l:List (Option TypeInfo)//(List.range' 416 10).map Tryz.prog.info?=l}:=⟨_,by conv=>lhs;reduce⟩
noncomputable def SE (t:Nat):Option TypeInfo:=if t<426 then(if t<208 then if t<96 then if t<48 then if t<16 then Ws.1.getD (t-0) none else if t<32 then Wt.1.getD (t-16) none else Wu.1.getD (t-32) none else if t<64 then Wv.1.getD (t-48) none else if t<80 then Ww.1.getD (t-64) none else Wx.1.getD (t-80) none else if t<144 then if t<112 then Wy.1.getD (t-96) none else if t<128 then Wz.1.getD (t-112) none else WA.1.getD (t-128) none else if t<176 then if t<160 then WC.1.getD (t-144) none else Uo.1.getD (t-160) none else if t<192 then Up.1.getD (t-176) none else Uq.1.getD (t-192) none else if t<320 then if t<256 then if t<224 then Ur.1.getD (t-208) none else if t<240 then Us.1.getD (t-224) none else Ut.1.getD (t-240) none else if t<288 then if t<272 then Uu.1.getD (t-256) none else Uv.1.getD (t-272) none else if t<304 then Uw.1.getD (t-288) none else Ux.1.getD (t-304) none else if t<368 then if t<336 then Uy.1.getD (t-320) none else if t<352 then Uz.1.getD (t-336) none else UA.1.getD (t-352) none else if t<400 then if t<384 then UB.1.getD (t-368) none else UC.1.getD (t-384) none else if t<416 then UD.1.getD (t-400) none else UE.1.getD (t-416) none)else Tryz.prog.info? t
theorem Xv:SE=Tryz.prog.info?:=by
 funext t;unfold SE
 repeat' split
 ·exact bH Ws.2 (by omega) (by omega)
 ·exact bH Wt.2 (by omega) (by omega)
 ·exact bH Wu.2 (by omega) (by omega)
 ·exact bH Wv.2 (by omega) (by omega)
 ·exact bH Ww.2 (by omega) (by omega)
 ·exact bH Wx.2 (by omega) (by omega)
 ·exact bH Wy.2 (by omega) (by omega)
 ·exact bH Wz.2 (by omega) (by omega)
 ·exact bH WA.2 (by omega) (by omega)
 ·exact bH WC.2 (by omega) (by omega)
 ·exact bH Uo.2 (by omega) (by omega)
 ·exact bH Up.2 (by omega) (by omega)
 ·exact bH Uq.2 (by omega) (by omega)
 ·exact bH Ur.2 (by omega) (by omega)
 ·exact bH Us.2 (by omega) (by omega)
 ·exact bH Ut.2 (by omega) (by omega)
 ·exact bH Uu.2 (by omega) (by omega)
 ·exact bH Uv.2 (by omega) (by omega)
 ·exact bH Uw.2 (by omega) (by omega)
 ·exact bH Ux.2 (by omega) (by omega)
 ·exact bH Uy.2 (by omega) (by omega)
 ·exact bH Uz.2 (by omega) (by omega)
 ·exact bH UA.2 (by omega) (by omega)
 ·exact bH UB.2 (by omega) (by omega)
 ·exact bH UC.2 (by omega) (by omega)
 ·exact bH UD.2 (by omega) (by omega)
 ·exact bH UE.2 (by omega) (by omega)
 ·rfl
theorem iL:(∀nt c sc,lB Tryz.prog SE nt c=some sc→comp Tryz.prog nt c=some sc)∧ ∀l rs,vz SE l=some rs→fB Tryz.prog l=some rs:=by
 rw[Xv,Jc,Bp];exact⟨fun _ _ _ h=>h,fun _ _ h=>h⟩
theorem eW {f:FuncId} {fn:Func} {sc:SC} {rs:List nS} (hent:Enters Tryz.prog f f) (hfn:Tryz.prog.funcs[f]?=some fn) {args:List PV} {r:PV} (h:CW Tryz.prog (Gq rs r) sc [] ⟨Q0 0 args,[],1000⟩) (hb:fn.body.isSome=true:=by exact rfl) (hc:lB Tryz.prog SE fn.ntmps (fn.body.getD .skip)=some sc:=by cbv) (hr:vz SE fn.results.toList=some rs:=by cbv) (hlen:Nat.ble args.length fn.ntmps=true:=by exact rfl):aD Tryz.prog f args r:=aD.w mixed hent hfn hb (iL.1 _ _ _ hc) (iL.2 _ _ hr) hlen h
theorem WD {c:UInt8} (h:(c.toNat:Int)=0):c=0:=jd.1 (by simpa using h)
theorem V8 {c:UInt8} (h:(c.toNat:Int)≠0):c≠0:=fun e=>by subst e;simp at h
abbrev E (n:Int):PV:= .i .i64 n
theorem Nm {l:Bytes} {x:Nat} (h:x<l.length):(l.map u8).getD x .fn0=u8 (l.getD x 0):=by
 simp[aX,h]
theorem MG (c:UInt8):(u8 c).byte=c:=by simp[u8,PV.byte]
theorem u6 (l:Bytes):(l.map u8).map PV.byte=l:=by induction l<;>simp_all[MG]
theorem rZ {l:Bytes} {y:PV} (h:y∈l.map u8):y.isByte:=by
 obtain⟨c,_,rfl⟩:=a5.1 h;trivial
theorem ve {l:Bytes} {y:PV} (h:y∈l.map u8):y.cells.length=1:=by
 obtain⟨c,_,rfl⟩:=a5.1 h;rfl
theorem sN (a:Bytes):aa a=(decide ((a.length:Int)≤128)&&(((a.length:Int)==0)||(((a.getD 0 0).toNat:Int) !=0))):=by
 unfold aa;have h1:decide ((a.length:Int)≤128)=decide (a.length≤128):=by simp;omega
 have h2:((a.length:Int)==0)=(a.length==0):=by rw[dx];simp only[beq_iff_eq];omega
 have h3:(((a.getD 0 0).toNat:Int) !=0)=(a.headD 0 !=0):=by
  cases a with
  |nil=>rfl
  |cons x r=>
   have:x.toNat=0↔x=0:=by
    constructor
    ·intro h;exact jd.1 h
    ·intro h;subst h;rfl
   rw[dx];simp[this]
 rw[h1,h2,h3]
theorem aM (a:Bytes):aD Tryz.prog 71 [.s a] (.b (aa a)):=by
 rw[sN];refine eW Tryz.call71 Tryz.func71 ?_;repeat' first|simp only[go_sem,seval]|refine sB ?_|(first|apply pX|apply bX)<;>intro hc|refine⟨oD,?_⟩|exact oD|fail
 all_goals simp_all
 all_goals omega
theorem ju (l:Bytes):aD Tryz.prog 78 [.sl (l.map u8)] (.s (fZ l)):=by
 refine eW Tryz.call78 Tryz.func78 ?_;simp only[go_sem,seval];refine aj (α:=Bytes) List.length (fun x=>⟨[(0, .v (.sl (x.map u8)))],[],_⟩) (fun x=>fZ x=fZ l) l (fun _=>au _) rfl ?_ ?_
 ·refine AS.Le.of (au _) ⟨rfl,rfl,trivial⟩ trivial
 ·intro x hx R hR
  cases x with
  |nil=>
   repeat' first|simp only[go_sem,seval]|refine sB ?_|(first|apply pX|apply bX)<;>intro hc|refine⟨oD,?_⟩|exact oD|fail
   rw[←hx];rfl
  |cons c r=>
   repeat' first|simp only[go_sem,seval]|refine sB ?_|(first|apply pX|apply bX)<;>intro hc|refine⟨oD,?_⟩|exact oD|fail
   ·refine⟨⟨by omega,fun x hx=>ve hx⟩,hR r ?_ (uc _) _ (AS.Le.of (by decide) ⟨rfl,rfl,trivial⟩ trivial)⟩
    rw[←hx,fZ,if_pos (WD hc)]
   ·refine⟨fun y hy=>rZ hy,?_⟩
    rw[←hx,fZ,if_neg (V8 hc)];rw[u6]
theorem pw (a:Bytes):aD Tryz.prog 148 [.s a] (.tup [.s (if a.length≤128 then a else[]),E (if a.length≤128 then 0 else 5)]):=by
 refine eW Tryz.call148 Tryz.func148 ?_;repeat' first|simp only[go_sem,seval]|refine sB ?_|(first|apply pX|apply bX)<;>intro hc|refine⟨oD,?_⟩|exact oD|fail
 ·have h: ¬a.length≤128:=by omega
  simp[h]
 ·have h:a.length≤128:=by omega
  simp[h]
theorem jX (a:Bytes) (i:Nat) (ha:a.length<4611686018427387904):aD Tryz.prog 147 [.s a,E i] (E ((num a/256^i%256:Nat):Int)):=by
 refine eW Tryz.call147 Tryz.func147 ?_;repeat' first|simp only[go_sem,seval]|refine sB ?_|(first|apply pX|apply bX)<;>intro hc|refine⟨oD,?_⟩|exact oD|fail
 ·rw[pC a (by omega)];rfl
 ·have h:=sj a (i:=i) (by omega)
  rw[←h,show((a.length:Int)-1-(i:Int)).toNat=a.length-1-i by omega]
  have:=(a.getD (a.length-1-i) 0).toNat_lt;rw[IntWalk.i64_in _ (by omega)]
theorem JR (x:Int):aD Tryz.prog 212 [E x] (.b false):=by
 refine eW Tryz.call212 Tryz.func212 ?_;simp only[go_sem,seval];simp
theorem GJ (x y:Int):aD Tryz.prog 135 [E x,E y] (E (if x<y then-1 else if y<x then 1 else 0)):=by
 refine eW Tryz.call135 Tryz.func135 ?_;repeat' first|simp only[go_sem,seval]|refine cP (JR _) ?_|refine sB ?_|(first|apply pX|apply bX)<;>intro hc|refine⟨oD,?_⟩|exact oD|fail
 all_goals (simp_all<;>omega)
theorem GK (a b:Bytes):U7 Tryz.prog 300 [.s a, .s b] (E (Lib.compareBytes a b)):=by
 intro rd vs w hv;obtain⟨x,us,rfl,hx,hv⟩:=hv.eR;obtain⟨y,us,rfl,hy,hv⟩:=hv.eR;obtain rfl:=hv.dq
 cases hx;cases hy
 have h1:(Tryz.f300.name== "runtime.NumGoroutine")=false:=by kernel_rfl
 have h2:Tryz.f300.body.isNone=true:=by kernel_rfl
 have h3:(Extern.findNext Tryz.f300).isNone=true:=by kernel_rfl
 have h4:Extern.find Tryz.f300=some Extern.BytealgCompare.compare:=by kernel_rfl
 have h3':Extern.findNext Tryz.f300=none:=by simpa using h3
 refine⟨.int .i64 (Lib.compareBytes a b),?_, .i _ _⟩;simp only[callFunc,bw,run_program,Result.andThen,Tryz.func300,h1,h2,h3',h4,if_true,aW,if_false];have:=Lib.run_compareString (P:=Tryz.prog) ⟨a.toArray⟩ ⟨b.toArray⟩ w;simp only[List.toList_toArray]at this;simp[this]
theorem xO (a b:Bytes):aD Tryz.prog 213 [.s a, .s b] (E (Lib.compareBytes a b)):=by
 refine eW Tryz.call213 Tryz.func213 ?_;repeat' first|simp only[go_sem,seval]|(refine PS (GK _ _) rfl ?_)|refine sB ?_|(first|apply pX|apply bX)<;>intro hc|refine⟨oD,?_⟩|exact oD|fail
theorem xW (a b:Bytes):aD Tryz.prog 136 [.s a, .s b] (E (Lib.compareBytes a b)):=by
 refine eW Tryz.call136 Tryz.func136 ?_;repeat' first|simp only[go_sem,seval]|refine cP (xO _ _) ?_|refine sB ?_|(first|apply pX|apply bX)<;>intro hc|refine⟨oD,?_⟩|exact oD|fail
def a6 (a b:Nat):Int:=if a<b then-1 else if b<a then 1 else 0
theorem jl: ∀{a b:Bytes},a.length=b.length→Lib.compareBytes a b=a6 (num a) (num b)
 |[],[],_=>rfl
 |x::r,y::s,h=>by
  have hl:r.length=s.length:=by simpa using h
  have ih:=jl hl;have h1:=s8 x y hl;have h2:=s8 y x hl.symm;have e1:x<y↔x.toNat<y.toNat:=uk;have e2:y<x↔y.toNat<x.toNat:=uk;simp only[Lib.compareBytes,a6,h1,h2,e1,e2,ih];rcases A5 x.toNat y.toNat with h|h|h
  ·simp[h]
  ·have:x=y:=jd.1 h;subst this;simp
  ·have hne: ¬x=y:=fun e=>by subst e;omega
   simp[h,Nat.lt_asymm h,hne]
theorem mV {a b:Bytes} (ha:Canon a) (hb:Canon b):aD Tryz.prog 77 [.s a, .s b] (E (a6 (num a) (num b))):=by
 refine eW Tryz.call77 Tryz.func77 ?_;repeat' first|simp only[go_sem,seval]|refine cP (GJ _ _) ?_|refine cP (xW _ _) ?_|refine sB ?_|(first|apply pX|apply bX)<;>intro hc|refine⟨oD,?_⟩|exact oD|fail
 ·congr 1;refine jl ?_
  split at hc
  ·simp at hc
  ·split at hc
   ·simp at hc
   ·omega
 ·congr 1;unfold a6
  split at hc
  ·have:=gJ (a:=a) hb (by omega)
   simp_all
  ·split at hc
   ·have:=gJ (a:=b) ha (by omega)
    rename_i g1 g2;rw[if_neg g1,if_pos g2,if_neg (by omega),if_pos (by omega)]
   ·simp at hc
theorem kL (a b:Bytes):aD Tryz.prog 30 [.s a, .s b] (E (if aa a&&aa b then a6 (num a) (num b)else 0)):=by
 refine eW Tryz.call30 Tryz.func30 ?_;repeat' first|simp only[go_sem,seval]|refine cP (aM _) ?_|(refine dF (mV (bE (by assumption)) (bE (by assumption))) rfl ?_)|refine sB ?_|(first|apply pX|apply bX)<;>intro hc|refine⟨oD,?_⟩|exact oD|fail
 all_goals simp_all
theorem jM {a:Bytes} {i:Nat} (h:i<a.length):num (a.take (i+1))=num (a.take i)*256+(a.getD i 0).toNat:=by
 rw[Gf h,B4];simp[aX,h]
theorem mD (a:Bytes):aD Tryz.prog 130 [.s a] (.tup [.i .u64 (if aa a&&decide (a.length≤8)then num a else 0), .b (aa a&&decide (a.length≤8))]):=by
 refine eW Tryz.call130 Tryz.func130 ?_;repeat' first|simp only[go_sem,seval]|refine cP (aM _) ?_|refine sB ?_|(first|apply pX|apply bX)<;>intro hc|refine⟨oD,?_⟩|exact oD|fail
 rotate_right
 ·simp_all
 ·have: ¬a.length≤8:=by omega
  simp[this]
 ·have h8:a.length≤8:=by omega
  refine aj (α:=Nat) (fun i=>a.length-i) (fun i=>⟨[(0, .v (.s a)),(4, .v (.i .u64 (num (a.take i)))),(15, .v (.i .i64 a.length)),(16, .v (.i .i64 i))],[],1014⟩) (fun i=>i≤a.length) 0 (fun _=>au _) (aL _) ?_ ?_
  ·(refine AS.Le.of (by first|decide|omega) ?_ ?_<;>simp[cl,cj,aF,ar,AV.bd,AV.bd.bdL,u8,ah,ai,aq]);rfl
  ·intro i hi R hR
   by_cases hlt:i<a.length
   ·repeat' first|simp only[go_sem,seval]|refine sB ?_|(first|apply pX|apply bX)<;>intro hc|refine⟨oD,?_⟩|exact oD|fail
    refine hR (i+1) (by omega) (by omega) _ ?_
    have h1:=jM hlt;have h2:num (a.take i)<72057594037927936:=by
     refine a9 (bV _) (fg (cQ (by decide) (?_: _≤7)) (by decide))
     simp;omega
    have h3:=(a.getD i 0).toNat_lt;rw[show((num (a.take i):Int)*256)=((num (a.take i)*256:Nat):Int) by simp]
    rw[IntWalk.u64_in _ (by omega),IntWalk.u64_in _ (by omega),Q4 .u64 rfl (by show _<18446744073709551616;omega) (by show _<18446744073709551616;omega),B9 (k:=8) (by omega)]
    (refine AS.Le.of (by first|decide|omega) ?_ ?_<;>simp[cl,cj,aF,ar,AV.bd,AV.bd.bdL,u8,ah,ai,aq])
    rw[h1];simp
   ·repeat' first|simp only[go_sem,seval]|refine sB ?_|(first|apply pX|apply bX)<;>intro hc|refine⟨oD,?_⟩|exact oD|fail
    rw[bM (by omega)]
    simp[*]
theorem J0: ∀x:Fin 256,([0,1,2,2,3,3,3,3,4,4,4,4,4,4,4,4,5,5,5,5,5,5,5,5,5,5,5,5,5,5,5,5,6,6,6,6,6,6,6,6,6,6,6,6,6,6,6,6,6,6,6,6,6,6,6,6,6,6,6,6,6,6,6,6,7,7,7,7,7,7,7,7,7,7,7,7,7,7,7,7,7,7,7,7,7,7,7,7,7,7,7,7,7,7,7,7,7,7,7,7,7,7,7,7,7,7,7,7,7,7,7,7,7,7,7,7,7,7,7,7,7,7,7,7,7,7,7,7,8,8,8,8,8,8,8,8,8,8,8,8,8,8,8,8,8,8,8,8,8,8,8,8,8,8,8,8,8,8,8,8,8,8,8,8,8,8,8,8,8,8,8,8,8,8,8,8,8,8,8,8,8,8,8,8,8,8,8,8,8,8,8,8,8,8,8,8,8,8,8,8,8,8,8,8,8,8,8,8,8,8,8,8,8,8,8,8,8,8,8,8,8,8,8,8,8,8,8,8,8,8,8,8,8,8,8,8,8,8,8,8,8,8,8,8,8,8,8,8,8,8,8,8,8,8,8,8]:Bytes).getD x.val 0=UInt8.ofNat (Lib.bitLen x.val):=by decide+kernel
theorem iN {x:Nat} (h:x<256):([0,1,2,2,3,3,3,3,4,4,4,4,4,4,4,4,5,5,5,5,5,5,5,5,5,5,5,5,5,5,5,5,6,6,6,6,6,6,6,6,6,6,6,6,6,6,6,6,6,6,6,6,6,6,6,6,6,6,6,6,6,6,6,6,7,7,7,7,7,7,7,7,7,7,7,7,7,7,7,7,7,7,7,7,7,7,7,7,7,7,7,7,7,7,7,7,7,7,7,7,7,7,7,7,7,7,7,7,7,7,7,7,7,7,7,7,7,7,7,7,7,7,7,7,7,7,7,7,8,8,8,8,8,8,8,8,8,8,8,8,8,8,8,8,8,8,8,8,8,8,8,8,8,8,8,8,8,8,8,8,8,8,8,8,8,8,8,8,8,8,8,8,8,8,8,8,8,8,8,8,8,8,8,8,8,8,8,8,8,8,8,8,8,8,8,8,8,8,8,8,8,8,8,8,8,8,8,8,8,8,8,8,8,8,8,8,8,8,8,8,8,8,8,8,8,8,8,8,8,8,8,8,8,8,8,8,8,8,8,8,8,8,8,8,8,8,8,8,8,8,8,8,8,8,8,8]:Bytes).getD x 0=UInt8.ofNat (Lib.bitLen x):=J0 ⟨x,h⟩
theorem iM {x:Nat} (h:x<256):Lib.bitLen x≤8:=Lib.bitLen_le x 8 (by decide) (by omega)
theorem len8_int {x:Nat} (h:x<256):(((UInt8.ofNat (Lib.bitLen x)).toNat:Nat):Int)=(Lib.bitLen x:Int):=by
 have:=iM h;rw[ga];omega
theorem EH (x:Nat) (h:x<256):aD Tryz.prog 209 [.i .u8 x] (E (Lib.bitLen x)):=by
 refine eW Tryz.call209 Tryz.func209 ?_;repeat' first|simp only[go_sem,seval]|refine sB ?_|(first|apply pX|apply bX)<;>intro hc|refine⟨oD,?_⟩|exact oD|fail
 rw[iN h,len8_int h];have:=iM h;rw[IntWalk.i64_in _ (by omega)]
theorem lH {x y k:Nat} (hy:y<256) (hk:k≤56) (h:Lib.bitLen x=k+Lib.bitLen y) {T:Bytes} (hT: ∀x,x<256→T.getD x 0=UInt8.ofNat (Lib.bitLen x)):
  (0≤IntKind.u8.wrap (y:Int)∧IntKind.u8.wrap (y:Int)<256)∧PV.i IntKind.i64 (IntKind.i64.wrap ((k:Int)+IntKind.i64.wrap ((T.getD (IntKind.u8.wrap (y:Int)).toNat 0).toNat:Int)))=E (Lib.bitLen x):=by
 have h8:=iM hy;rw[Wb hy,Int.toNat_natCast,hT y hy,len8_int hy,IntWalk.i64_in (Lib.bitLen y:Int) (by omega),IntWalk.i64_in _ (by omega),h]
 refine⟨by omega,?_⟩
 simp
theorem Bb (x:Nat) (h:x<18446744073709551616):aD Tryz.prog 353 [.i .u64 x] (E (Lib.bitLen x)):=by
 have g8:=Lib.bitLen_shift8;have g16:=Lib.bitLen_shift16;have g32:=Lib.bitLen_shift32;refine eW Tryz.call353 Tryz.func353 ?_;repeat' first|simp only[go_sem,seval]|refine sB ?_|(first|apply pX|apply bX)<;>intro hc|refine⟨oD,?_⟩|exact oD|fail
 ·refine lH (k:=56) (by omega) (by decide) ?_ fun _=>iN
  rw[g32 x (by omega) (by omega),g16 _ (by omega) (by omega),g8 _ (by omega) (by omega)];omega
 ·refine lH (k:=48) (by omega) (by decide) ?_ fun _=>iN
  rw[g32 x (by omega) (by omega),g16 _ (by omega) (by omega)];omega
 ·refine lH (k:=40) (by omega) (by decide) ?_ fun _=>iN
  rw[g32 x (by omega) (by omega),g8 _ (by omega) (by omega)];omega
 ·refine lH (k:=32) (by omega) (by decide) ?_ fun _=>iN
  rw[g32 x (by omega) (by omega)]
 ·refine lH (k:=24) (by omega) (by decide) ?_ fun _=>iN
  rw[g16 x (by omega) (by omega),g8 _ (by omega) (by omega)];omega
 ·refine lH (k:=16) (by omega) (by decide) ?_ fun _=>iN
  rw[g16 x (by omega) (by omega)]
 ·refine lH (k:=8) (by omega) (by decide) ?_ fun _=>iN
  rw[g8 x (by omega) (by omega)]
 ·refine lH (k:=0) (by omega) (by decide) ?_ fun _=>iN
  omega
theorem pT (x:Nat) (h:x<18446744073709551616):aD Tryz.prog 299 [.i .u64 x] (E ((64-Lib.bitLen x:Nat):Int)):=by
 have h1:=Lib.bitLen_le x 64 (by decide) h
 refine eW Tryz.call299 Tryz.func299 ?_;repeat' first|simp only[go_sem,seval]|refine cP (Bb x h) ?_|refine sB ?_|(first|apply pX|apply bX)<;>intro hc|refine⟨oD,?_⟩|exact oD|fail
 congr 1;omega
theorem pU (x y:Nat) (hx:x<18446744073709551616) (hy:y<18446744073709551616):aD Tryz.prog 210 [.i .u64 x, .i .u64 y] (.tup [.i .u64 (x*y/18446744073709551616:Nat), .i .u64 (x*y%18446744073709551616:Nat)]):=by
 obtain⟨h1,h2,h3,h4⟩:=Lib.mul64_hi x y hx hy;refine eW Tryz.call210 Tryz.func210 ?_;simp only[go_sem,seval,uw,xQ,qx,wF,Ei,Bg,uV,Ag,xt,xr,pg];have hb:=Lib.half_mul_le (a:=x/4294967296) (b:=y%4294967296) (by omega) (by omega)
 have ha:=Lib.half_mul_le (a:=x/4294967296) (b:=y/4294967296) (by omega) (by omega)
 have hc:=Lib.half_mul_le (a:=x%4294967296) (b:=y/4294967296) (by omega) (by omega)
 rw[←h4];generalize x/4294967296*(y%4294967296)=b at*;generalize x/4294967296*(y/4294967296)=a at*;generalize x%4294967296*(y/4294967296)=c at*;generalize x%4294967296*(y%4294967296)=d at*;congr 4;omega
end Go.Proofs.YtmobkhegihemeaaGreatDoor
namespace Go.Dom
open Go.RowKit

def kN (ops:Array Oper) (a a':Act):Prop:= ∀k,(∀(j:Nat) (o:Oper),ops[j]?=some o→o.dst≠some k)→a'.tmps.getD k undef=a.tmps.getD k undef
theorem kN.put {ops:Array Oper} {a a':Act} (h:kN ops a a') {j:Nat} {o:Oper} (ho:ops[j]?=some o) (v:Value) (ds:List Deferred):kN ops a (({a' with defers:=ds}:Act).put o.dst v):=by
 intro k hk;have hd:=hk j o ho;unfold Act.put
 cases hdst:o.dst with
 |none=>exact h k hk
 |some d=>
  have hne:d≠k:=fun e=>hd (by rw[hdst,e])
  show(a'.tmps.setIfInBounds d v).getD k undef= _;rw[←h k hk];simp[gR,Array.getElem?_setIfInBounds,hne]
theorem kN.at {ops:Array Oper} {a a':Act} (h:kN ops a a') (k:Nat) (hk:(ops.toList.all fun o=> !(o.dst==some k))=true):a'.tmps.getD k undef=a.tmps.getD k undef:=by
 refine h k fun j o ho he=> ?_
 have hm:o∈ops.toList:=Array.mem_toList_iff.2 (AP ho);have:=bc.1 hk o hm;rw[he]at this;simp at this
theorem Mk {t:Array Value} {n:Nat} (h:t.size=n):t=((List.range n).map fun k=>t.getD k undef).toArray:=by
 subst h;apply Array.ext
 ·simp
 ·intro i h1 h2;simp[gR,uo h1]
def QN (R:Act→World→Prop):Exit→Act→World→Prop:=fun e a w=>e= .normal∧R a w
theorem H3 {P:Program} {F:Fence} {n:Nat} {ops:Array Oper} {a0 a:Act} {R:Act→World→Prop} {K:Act→World→Prop} {j:Nat} {o:Oper} (ho:ops[j]?=some o) (hk:kN ops a0 a) {r:Result Next} (h:o.uponIn F n P a K (QN R) r):o.uponIn F n P a (fun a' w'=>K a' w'∧kN ops a0 a') (QN fun a w=>R a w∧kN ops a0 a) r:=by
 have hl: ∀(R:Act→World→Prop),¬LetsOut (QN R):=by rintro R ⟨a,w,h,-⟩;cases h
 have hp: ∀(v:Value),kN ops a0 (a.put o.dst v):=fun v=>hk.put ho v a.defers
 cases r with
 |ok x w'=>
  cases x with
  |value v=>exact⟨h,hp v⟩
  |skip=>exact⟨h,hp _⟩
  |defer d=>exact⟨h,hk.put ho _ _⟩
  |enter f args=>
   simp only[Oper.uponIn]at h⊢;refine⟨h.1,CallsIn.mono h.2 fun e w'' he=> ?_⟩
   cases e with
   |returned v=>exact⟨he,hp v⟩
   |panicked c=>obtain⟨h,-⟩:=he;cases h
   |outgrown=>exact(hl _ he).elim
  |row row args=>
   simp only[Oper.uponIn]at h⊢;exact⟨h.1,RowsIn.mono h.2 fun v w'' he=>⟨he,hp v⟩⟩
  |round l f tmps assign body=>
   simp only[Oper.uponIn]at h⊢;refine⟨h.1,RoundIn.mono h.2 fun e w'' he=> ?_⟩
   cases e with
   |returned v=>exact⟨he,hp v⟩
   |panicked c=>obtain⟨h,-⟩:=he;cases h
   |outgrown=>exact(hl _ he).elim
  | _=>exact h
 |halt e w'=>
  cases e with
  |panic v=>obtain⟨h,-⟩:=h;cases h
  | _=>exact h
theorem NT {P:Program} {F:Fence} {n:Nat} {ops:Array Oper} {a0 a:Act} {w:World} {R:Act→World→Prop} {K:Act→World→Prop} {i:Nat} (hk:kN ops a0 a) (h:wpOpIn F n P ops (QN R) i K a w):wpOpIn F n P ops (QN fun a w=>R a w∧kN ops a0 a) i (fun a' w'=>K a' w'∧kN ops a0 a') a w:=by
 unfold wpOpIn at*
 cases ho:ops[i]? with
 |none=>simp only[ho]at h⊢;exact⟨h,hk⟩
 |some o=>
  simp only[ho]at h⊢;split
  ·rename_i hw;rw[if_pos hw]at h;exact⟨h.1,H3 ho hk h.2⟩
  ·rename_i hw;rw[if_neg hw]at h;exact⟨h.1,h.2,hk.put ho _ a.defers⟩
theorem Iy {P:Program} {F:Fence} {n:Nat} {md:Region.Mode} {ops:Array Oper} {a0:Act} {R:Act→World→Prop}: ∀(fuel:Nat) (listed:Array Bool) (a:Act) (w:World),kN ops a0 a→wpAnyIn F n P md ops (QN R) fuel listed a w→wpAnyIn F n P md ops (QN fun a w=>R a w∧kN ops a0 a) fuel listed a w:=by
 intro fuel
 induction fuel with
 |zero=>intro listed a w hk h;exact⟨h.1,h.2.1,h.2.2,hk⟩
 |succ fuel ih=>
  intro listed a w hk h;refine⟨fun hr=>⟨(h.1 hr).1,(h.1 hr).2,hk⟩,fun i hi=> ?_⟩
  exact wpOpIn_mono (fun a' w' h'=>ih _ _ _ h'.2 h'.1) (NT hk (h.2 i hi))
theorem Hx {P:Program} [bT P] (hm:P.follows .mixedOrders=true) {id:Nat} {ops:Array Oper} {sc:SC} {a:Act} {W:World} {rd:Rd} {pvs out:List (Nat×PV)} (hc:comp P a.tmps.size (.region id ops true)=some sc) (hd:a.defers=[]) (htr: ∀b o v,TR P b o=some v→rd b o=some v) (hrd: ∀b o v,rd b o=some v→W.cell? ⟨b,o,none⟩=some v)
  (hp: ∀p∈pvs,PR rd p.2 (a.tmps.getD p.1 undef)) (h:aw P sc (fun x s=>x= .normal∧ ∀p∈out,aF s.t p.1= .v p.2) ⟨pvs.map fun p=>(p.1, .v p.2),[],1000⟩):
  (Code.region id ops true).wpIn Fence.wide 0 P (fun e a' W'=>e= .normal∧((a'.defers=[]∧a'.tmps.size=a.tmps.size∧Below W.heap.size W W'∧ ∀p∈out,PR (eT rd W W') p.2 (a'.tmps.getD p.1 undef))∧kN ops a a')) a W:=by
 let E:Env P:=⟨W,rd,fun b=>W.heap.size≤b,a.tmps.size,⟨rd,fun _=>False,fun _=>none,fun _=>0,fun _=>0,fun _=>false⟩,[],fun _ h=>h.elim,htr,W.heap.size,[],none,⟨rd,fun _=>False,fun _=>none,fun _=>0,fun _=>0,fun _=>false⟩,au _,by simp,[],by simp⟩
 have hs0:lj E ⟨pvs.map fun p=>(p.1, .v p.2),[],1000⟩ a W:=by
  refine⟨⟨⟨rd,fun n=>n<1000,fun _=>none,fun _=>0,fun _=>0,fun _=>false⟩,?_,⟨hrd,?_,fun _ _=>rfl,?_,?_,?_,?_,?_,fun n ob hn=>by simp[Dom.ar]at hn⟩,fun _ _=>rfl,⟨⟨Wf.refl _ _,au _,by simp[E]⟩,⟨⟨fun _ _ _ h=>h,fun _ h=>h.elim,fun _ h=>h.elim,fun _ h=>h.elim⟩,⟨fun _ _ _ h=>h,fun _ h=>h.elim,fun _ h=>h.elim,fun _ h=>h.elim⟩⟩,fun n ob hn=>by simp[Dom.ar]at hn⟩,hd,rfl,?_⟩,fun n hn=>hn.elim False.elim False.elim⟩
  ·intro n;simp
  ·intro n ob hn;simp[Dom.ar]at hn
  ·intro n ob hn;simp[Dom.ar]at hn
  ·intro n m ob oc hn;simp[Dom.ar]at hn
  ·intro n ob hn;simp[Dom.ar]at hn
  ·intro n ob hn;simp[Dom.ar]at hn
  ·intro n ob hn;simp[Dom.ar]at hn
  ·intro k;rcases CQ (t:=pvs.map fun p=>(p.1,AV.v p.2)) (k:=k)with e|e
   ·rw[e];exact .u _
   ·obtain⟨p,hpm,he⟩:=a5.1 e;injection he with e1 e2
    rw[←e2,←e1];exact .v (hp p hpm)
 have hend: ∀(s:AS) (a':Act) (W':World),(∀p∈out,aF s.t p.1= .v p.2)→lj E s a' W'→a'.defers=[]∧a'.tmps.size=a.tmps.size∧Below W.heap.size W W'∧ ∀p∈out,PR (eT rd W W') p.2 (a'.tmps.getD p.1 undef):=by
  intro s a' W' hq hsr;obtain⟨⟨C,hal,hh,hrd',⟨hwf,-,-⟩,hdf,hsz,htm⟩,-⟩:=hsr;refine⟨hdf,hsz,⟨hwf.wf.os,hwf.wf.tape,hwf.wf.output,hwf.wf.size,fun k hk=>hwf.wf.blk k hk (fun hw=>by have:W.heap.size≤k:=hw;omega)⟩,fun p hp=> ?_⟩
  have h1:=htm p.1;rw[hq p hp]at h1
  cases h1 with
  |v h2=>
   refine h2.mono fun b o v hv=> ?_
   unfold eT
   by_cases hb:b<W.heap.size
   ·rw[if_pos hb];have e:C.rd b=rd b:=hrd' b (.inl hb);rw[e]at hv;exact hv
   ·rw[if_neg hb];exact hh.rdw _ _ _ hv
 simp only[comp,EZ]at hc
 split at hc
 ·rename_i sops hsops;obtain⟨hlen,hok⟩:=vw hsops;simp only[if_true]at hc
  split at hc
  ·rename_i hcond;simp only[aZ]at hcond;simp only[af]at hc;subst hc;simp only[aw]at h;obtain⟨s2,tr,h1,h2,h3,h4⟩:=Bh (sops:=sops) sops 0 _ [] _ (fun j=>by simp) h
   rw[←AE]at h1;have hl:=BH h1;rw[nH]at hl;have hind:=vU hl hcond.2 h3;rw[hlen]at h1 hind;refine wpIn_region_any hm ?_;refine Iy (R:=fun a' W'=>a'.defers=[]∧a'.tmps.size=a.tmps.size∧Below W.heap.size W W'∧ ∀p∈out,PR (eT rd W W') p.2 (a'.tmps.getD p.1 undef)) _ _ _ _ (fun _ _=>rfl) ?_
   have hrep: ∀k,k<ops.size→(Array.replicate ops.size false).getD k true=false:=by
    intro k hk;simp[gR,hk]
   refine yZ (E:=E) (fun b hb=>hb) hlen hok hcond.1 (nx:=1000) (al:=fun n=>n<1000) (fun k _ h=>by omega) ?_ ops.size _ (List.range ops.size) _ _ tr a _ (by simp) List.pairwise_lt_range ?_ (by simp) ?_ h1 hind ?_
   ·intro a' w' hsr;refine⟨rfl,hend {s2 with nx:=1000+sops.length} a' w' h4.2 ?_⟩
    rw[hlen];exact lj.region hs0.2 hsr
   ·intro k;rw[dk];exact⟨fun h=>⟨h,hrep k h⟩,fun h=>h.1⟩
   ·intro j o ho hl;have hj:j<ops.size:=(iT.1 ho).1;rw[hrep j hj]at hl;cases hl
   ·refine hs0.1.drew.jU fun n=>⟨.inl,?_⟩
    rintro(h|⟨k,h1,h2,-⟩)
    ·exact h
    ·rw[hrep k h1]at h2;cases h2
  ·cases hc
 ·cases hc
end Go.Dom
namespace Go.Proofs.YtmobkhegihemeaaGreatDoor
open Go Go.Dom
set_option maxRecDepth 100000
set_option maxHeartbeats 16000000
def mW (n:Nat):Bytes:=if n<10 then[UInt8.ofNat (48+n)]else[UInt8.ofNat (48+n/10),UInt8.ofNat (48+n%10)]
theorem Bu (n:Nat):(mW n).length≤2:=by unfold mW;split<;>simp
theorem Vr: ∀n:Fin 10,List.drop n.val (List.take (n.val+1) ([48,49,50,51,52,53,54,55,56,57,97,98,99,100,101,102,103,104,105,106,107,108,109,110,111,112,113,114,115,116,117,118,119,120,121,122]:Bytes))=mW n.val:=by decide+kernel
def V6:Bytes:=(List.range 100).flatMap fun n=>[UInt8.ofNat (48+n/10),UInt8.ofNat (48+n%10)]
theorem Vs: ∀n:Fin 100,10≤n.val→List.drop (n.val*2) (List.take (n.val*2+2) V6)=mW n.val:=by decide+kernel
theorem Lj (n:Nat) (hn:n<100):aD Tryz.prog 340 [.i .i64 (n:Int)] (.s (mW n)):=by
 by_cases h:n<10
 ·have hb:=Vr ⟨n,h⟩;have t1: ∀ _:True,((n:Int)+1).toNat=n+1:=fun _=>by omega
  have d1: ∀ _:True,((n:Int)<10)=True:=fun _=>by simp;omega
  refine eW Tryz.call340 Tryz.func340 ?_;repeat' first|simp only[go_sem,seval,t1 trivial]|refine sB ?_|(first|apply pX|apply bX)<;>intro hc|refine⟨oD,?_⟩|exact oD|fail
  all_goals first|omega|exact congrArg PV.s hb|skip
 ·have hb:=Vs ⟨n,hn⟩ (by simpa using h)
  have t1: ∀ _:True,((n:Int)*2+2).toNat=n*2+2:=fun _=>by omega
  have t2: ∀ _:True,((n:Int)*2).toNat=n*2:=fun _=>by omega
  refine eW Tryz.call340 Tryz.func340 ?_;repeat' first|simp only[go_sem,seval,t1 trivial,t2 trivial]|refine sB ?_|(first|apply pX|apply bX)<;>intro hc|refine⟨oD,?_⟩|exact oD|fail
  all_goals first|omega|exact congrArg PV.s hb|skip
theorem y3 (n:Nat) (hn:n<100):aD Tryz.prog 121 [.i .i64 (n:Int)] (.s (mW n)):=by
 have h:=Lj n hn;have hF:aD Tryz.prog 291 [.i .i64 (n:Int), .i .i64 10] (.s (mW n)):=by
  refine eW Tryz.call291 Tryz.func291 ?_;repeat' first|simp only[go_sem,seval]|refine cP h ?_|refine sB ?_|(first|apply pX|apply bX)<;>intro hc|refine⟨oD,?_⟩|exact oD|fail
 have hI:aD Tryz.prog 205 [.i .i64 (n:Int)] (.s (mW n)):=by
  refine eW Tryz.call205 Tryz.func205 ?_;repeat' first|simp only[go_sem,seval]|refine cP hF ?_|refine sB ?_|(first|apply pX|apply bX)<;>intro hc|refine⟨oD,?_⟩|exact oD|fail
 refine eW Tryz.call121 Tryz.func121 ?_;repeat' first|simp only[go_sem,seval]|refine cP hI ?_|refine sB ?_|(first|apply pX|apply bX)<;>intro hc|refine⟨oD,?_⟩|exact oD|fail
end Go.Proofs.YtmobkhegihemeaaGreatDoor
