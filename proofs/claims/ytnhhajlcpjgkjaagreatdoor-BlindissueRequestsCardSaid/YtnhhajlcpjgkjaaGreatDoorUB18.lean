/- Part of the proof. -/
import Derived.Test.YtnhhajlcpjgkjaaGreatDoorChecked
import Derived.KernelRfl
import Derived.Lib.Bytealg
import Derived.Lib.Mul64
import Derived.Lib.TrailingZeros
import Derived.Test.YtnhhajlcpjgkjaaGreatDoorUB17
set_option linter.all false
set_option maxHeartbeats 4000000
set_option maxRecDepth 100000
namespace Go.Dom
open Go.RowKit
section
variable (P:Program) [cM P] (I:TypeId->Option TypeInfo)
def kH (t:TypeId):Option TypeDesc:=
 match I t with
 |some {desc:= .named _ u, .. }=>(I u).map (·.desc)
 |some i=>some i.desc
 |none=>none
def Cw (t:TypeId):Option (List AV):=do
 let i<-I t
 let z<-i.zero
 if z.cells.size=i.size then bc Rn z.cells.toList else none
def Xl (t:TypeId):Option PV:=do
 let i<-I t
 let v<-i.zero
 match Rn v with
 |some (.v z)=>some z
 | _=>none
def CZ (t:TypeId):Option Bool:=
 match kH I t with
 |some (.struct _)=>some true
 |some (.array _ _)=>some true
 |some _=>some false
 |none=>none
def jA (t:TypeId):Option Nat:=(I t).map (·.size)
def Sh (fs:Array Field) (ps:Array (Nat×Operand)):Option (List (Nat×Nat×SX)):=
 bc (fun p=>do
  let f<-fs[p.1]?
  let z<-jA I f.type
  let x<-sx P p.2
  some (f.offset,z,x)) ps.toList
def Ku (o:Oper) (c:Call):Option SO:=
 match c.callee with
 | .value f=>do
  let f<-sx P f
  let args<-bc (sx P) c.args.toList
  some (.call f args)
 | .builtin b=>
  match b,c.args.toList,c.argTypes.toList with
  | .len,[x],[t]=>match kH I t with
   |some .string=>do some (.lenS (<-sx P x))
   |some (.slice _)=>do some (.len (<-sx P x))
   |some (.array n _)=>some (.lenA n)
   | _=>none
  | .append,[x,y],[t,u]=>match kH I t,kH I u with
   |some (.slice e),some (.slice e')=>do
    let i<-I e
    let z<-i.zero
    if z.cells.size=i.size/\0<i.size/\e=e'/\t=u then some (.app e i.size i.bytes (<-sx P x) (<-sx P y))else none
   |some (.slice e),some .string=>do
    let i<-I e
    let z<-i.zero
    if z.cells.size=i.size/\i.size=1 then some (.app e i.size i.bytes (<-sx P x) (<-sx P y))else none
   | _,_=>none
  | .copy,[x,y],[t,u]=>match kH I t,kH I u with
   |some (.slice e),some (.slice _)=>do some (.cpy (<-jA I e) (<-sx P x) (<-sx P y))
   |some (.slice e),some .string=>do
    if(<-jA I e)=1 then some (.cpy 1 (<-sx P x) (<-sx P y))else none
   | _,_=>none
  | .clear,[x],[t]=>match kH I t with
   |some (.slice e)=>do some (.clr (<-Cw I e) (<-sx P x))
   | _=>none
  | .max,[x,y],_=>do some (.mm true (<-sx P x) (<-sx P y))
  | .min,[x,y],_=>do some (.mm false (<-sx P x) (<-sx P y))
  | .unsafeSliceData,[x],_=>do some (.sld (<-sx P x))
  | .unsafeString,[x,y],[pt,_]=>match kH I pt with
   |some (.pointer e)=>do if(jA I e).getD 0=1 then some (.ust e (<-sx P x) (<-sx P y))else none
   | _=>none
  | _,_,_=>none
 | .invoke _ _=>none
def Rl (o:Oper):Option SO:=
 match o.op with
 | .move x=>do some (.mov (<-sx P x))
 | .assign x=>do some (.mov (<-sx P x))
 | .pick c a b=>do some (.pick (<-sx P c) (<-sx P a) (<-sx P b))
 | .alloc t=>do some (.alloc t (<-Cw I t))
 | .box _ x=>do some (.box (<-sx P x))
 | .build t ps=>match kH I t with
  |some (.struct fs)=>do
   if fs.toList.all (fun f=>(jA I f.type).isSome)then some (.build (<-Cw I t) (<-Sh P I fs ps))else none
  |some (.array _ e)=>do
   let z<-jA I e
   some (.build (<-Cw I t) (<-Hz P z ps))
  | _=>none
 | .buildSlice t n ps=>match kH I t with
  |some (.slice e)=>do
   let z<-jA I e
   let ze<-Cw I e
   let xs<-bc (sx P) (ps.toList.map (·.2))
   if ps.toList.map (·.1)=List.range n/\n*z<=16777216/\0<z then some (.bsl (isW ze) z xs)else none
  | _=>none
 | .load t x=>do
  let ag<-CZ I t
  let z<-jA I t
  if ag||z==1 then some (.ld ag z (<-sx P x))else none
 | .store t a x=>do
  let z<-jA I t
  some (.st z (<-sx P a) (<-sx P x))
 | .binOp op t x y _=>match kH I t with
  |some (.int _)=>do some (.bin op (<-sx P x) (<-sx P y))
  |some .string=>do some (.bin op (<-sx P x) (<-sx P y))
  |some .bool=>match op with
   | .eql=>do some (.beq false (<-sx P x) (<-sx P y))
   | .neq=>do some (.beq true (<-sx P x) (<-sx P y))
   | _=>none
  |some (.pointer te)=>if(I te).isSome then(match op with
   | .eql=>do some (.peq false (<-sx P x) (<-sx P y))
   | .neq=>do some (.peq true (<-sx P x) (<-sx P y))
   | _=>none)else none
  |some (.struct _)=>match op,(cM.pl P).find? (·.1==t)with
   | .eql,some q=>do some (.ceq false q.2 (<-sx P x) (<-sx P y))
   | .neq,some q=>do some (.ceq true q.2 (<-sx P x) (<-sx P y))
   | _,_=>none
  |some (.slice _)=>match op,y with
   | .eql, .const (.slice none 0 0)=>do some (.snl false (<-sx P x))
   | .neq, .const (.slice none 0 0)=>do some (.snl true (<-sx P x))
   | _,_=>none
  | _=>none
 | .unOp op _ x=>do some (.un op (<-sx P x))
 | .convert s d x=>match kH I s,kH I d with
  |some (.int _),some (.int k)=>do some (.cvi k (<-sx P x))
  |some .string,some .string=>do some (.cvs (<-sx P x))
  |some (.slice e),some .string=>match kH I e with
   |some (.int .u8)=>do
    if(<-jA I e)=1 then some (.b2s (<-sx P x))else none
   | _=>none
  |some .string,some (.slice e)=>match kH I e with
   |some (.int .u8)=>do some (.s2b (<-sx P x))
   | _=>none
  |some (.pointer t),some .unsafePointer=>do
   if(<-jA I t)=0 then none else some (.cvp (fun _ _ _=>true) (<-sx P x))
  |some .unsafePointer,some (.pointer u)=>do
   if(<-jA I u)=0 then none else some (.cvp (fun e n o=>liesAt P P.depth e (n/P.cellsOf e) o u 1) (<-sx P x))
  | _,_=>none
 | .makeSlice t l c=>match kH I t with
  |some (.slice e)=>do
   let i<-I e
   let z<-Cw I e
   if 0<i.size/\0<i.bytes then some (.mks z i.bytes (<-sx P l) (<-sx P c))else none
  | _=>none
 | .slice t x lo hi mx=>match kH I t with
  |some .string=>match mx with
   |none=>do some (.slS (<-sx P x) (<-AF P lo) (<-AF P hi))
   |some _=>none
  |some (.slice e)=>do some (.slL (<-jA I e) (<-sx P x) (<-AF P lo) (<-AF P hi) (<-AF P mx))
  |some (.array n e)=>do some (.slA n (<-jA I e) (<-sx P x) (<-AF P lo) (<-AF P hi) (<-AF P mx))
  | _=>none
 | .fieldAddr s x f=>match kH I s with
  |some (.struct fs)=>do
   let fl<-fs[f]?
   let z<-jA I fl.type
   if z=0 then none else some (.fad fl.offset (<-sx P x))
  | _=>none
 | .field s x f=>match kH I s with
  |some (.struct fs)=>do
   let fl<-fs[f]?
   let z<-jA I fl.type
   let ag<-CZ I fl.type
   if ag||z==1 then some (.fld ag fl.offset z (<-sx P x))else none
  | _=>none
 | .indexAddr t x i=>match kH I t with
  |some (.slice e)=>do some (.ixs (<-jA I e) (<-sx P x) (<-sx P i))
  |some (.array n e)=>do some (.ixa n (<-jA I e) (<-sx P x) (<-sx P i))
  | _=>none
 | .index t x i=>match kH I t with
  |some .string=>do some (.ixS (<-sx P x) (<-sx P i))
  |some (.array n e)=>do
   let z<-jA I e
   let ag<-CZ I e
   if ag||z==1 then some (.ixV ag n z (<-sx P x) (<-sx P i))else none
  | _=>none
 | .extract x k=>do some (.ext (<-sx P x) k)
 | .call c=>Ku P I o c
 | .makeFunc f a c=>do some (.mkf f (<-bc (sx P) a.toList) (<-bc (sx P) c.toList))
 | .nilCheck x=>do some (.nck (<-sx P x))
 | .makeInterface t x=>match kH I t with
  |some (.int _)=>do some (.mki t (<-sx P x))
  |some .string=>do some (.mki t (<-sx P x))
  | _=>none
 | .makeMap t r=>match r,kH I t with
  |none,some (.map _ _)=>some .mkm
  |some (.const (.int _ _)),some (.map _ _)=>some .mkm
  | _,_=>none
 | .lookup t x k c=>match kH I t with
  |some (.map kt et)=>do
   let z<-Xl I et
   let x<-sx P x
   let k<-sx P k
   match kH I kt with
   |some (.int _)=>some (.mget c false z x k)
   |some .string=>some (.mget c true z x k)
   | _=>none
  | _=>none
 | .mapUpdate t m k v=>match kH I t with
  |some (.map kt _)=>do
   let m<-sx P m
   let k<-sx P k
   let v<-sx P v
   match kH I kt with
   |some (.int _)=>some (.mset false m k v)
   |some .string=>some (.mset true m k v)
   | _=>none
  | _=>none
 | .panic _=>some .stop
 | _=>none
def Vn (nt:Nat) (ops:Array Oper) (o:Oper):Option jD:=
 match Rl P I o,IH ops nt o.guard with
 |some so,some g=>if dOk nt o.dst then some ⟨o.dst,so,g⟩else none
 | _,_=>none
def MZ (nt:Nat) (ops:Array Oper) (draw:Bool):Option SC:=
 match bc (Vn P I nt ops) ops.toList with
 |some sops=>if draw then(if Hu ops (Region.before ops).toList&&stat (Region.before ops).toList sops then some (.reg (some (Region.before ops).toList) sops)else none)else some (.reg none sops)
 |none=>none
def zc:List ResultVar->Option (List qn):=
 bc fun
  | .tmp t=>some (.t t)
  | .cell a ty=>match CZ I ty,jA I ty with
   |some ag,some z=>if ag||z==1 then some (.c a ag z)else none
   | _,_=>none
end
def j7 (P:Program) [cM P] (I:TypeId->Option TypeInfo) (nt:Nat):Code->Option SC
 | .skip=>some .skip
 | .region _ ops draw=>MZ P I nt ops draw
 | .seq a b=>match j7 P I nt a,j7 P I nt b with
  |some a,some b=>some (.seq a b)
  | _,_=>none
 | .cond c a b=>match sx P c,j7 P I nt a,j7 P I nt b with
  |some c,some a,some b=>some (.cond c a b)
  | _,_,_=>none
 | .block id a=>match j7 P I nt a with
  |some a=>some (.blk id a)
  |none=>none
 | .loop a=>match j7 P I nt a with
  |some a=>some (.loop a)
  |none=>none
 | .rangeFunc g ps a b=>match sx P g,j7 P I nt a,j7 P I nt b with
  |some g,some a,some b=>if a.eU&&b.eU&&ps.toList.all (fun p=>Nat.blt p nt)then some (.rng g ps.toList a b)else none
  | _,_,_=>none
 | .exit id=>some (.exit id)
 | .ret=>some .ret
 | .refuse _=>some .stop
 | .scope a=>j7 P I nt a
 | .label _=>some .skip
 | _=>none
section
variable {P:Program} [cM P]
theorem MX:j7 P P.info?=comp P:=by
 funext nt c
 have h:MZ P P.info?=IJ P:=rfl
 induction c<;>simp_all[j7,comp]<;>rfl
theorem E5:zc P.info?=gS P:=rfl
end
theorem bY {β:Type} {f:Nat->Option β} {a n:Nat} {l:List (Option β)} (h:(List.range' a n).map f=l) {t:Nat} (h1:a<=t) (h2:t<a+n):l.getD (t-a) none=f t:=by
 subst h;have:t-a<n:=by omega
 simp[b9,this,show a+(t-a)=t by omega]
end Go.Dom
namespace Go.Proofs.Tryz
open Go Go.Dom
variable {x:Nat}
theorem mixed:prog.follows .mixedOrders=true:=by kernel_rfl
def nK:List Int:=[0,1,28,2,29,14,24,3,30,22,20,15,25,17,4,8,31,27,13,23,21,19,16,7,26,12,18,6,11,5,10,9]
def nL:List Int:=[0,1,56,2,57,49,28,3,61,58,42,50,38,29,17,4,62,47,59,36,45,43,51,22,53,39,33,30,24,18,12,5,63,55,48,27,60,41,37,16,46,35,44,21,52,32,23,11,54,26,40,15,34,20,31,10,25,14,19,9,13,8,7,6]
def pW:List Int:=[1,10,100,1000,10000,100000,1000000,10000000,100000000,1000000000,10000000000,100000000000,1000000000000,10000000000000,100000000000000,1000000000000000,10000000000000000,100000000000000000,1000000000000000000,10000000000000000000]
instance ab8:cM prog:=⟨[(5,nK.map fun n=>(.u8,n)),(1,nL.map fun n=>(.u8,n)),(4,pW.map fun n=>(.u64,n))],[(94,[0,1]),(62,[1,1,1]),(52,[1,1])],by
 intro q hq;simp only[cu,ir,or_false]at hq;rcases hq with rfl|rfl|rfl<;>kernel_rfl⟩
noncomputable def ty0:{l:List (Option TypeInfo)//(List.range' 0 16).map prog.info?=l}:=⟨_,by conv=>lhs;reduce⟩
noncomputable def ty1:{l:List (Option TypeInfo)//(List.range' 16 16).map prog.info?=l}:=⟨_,by conv=>lhs;reduce⟩
noncomputable def ty2:{l:List (Option TypeInfo)//(List.range' 32 16).map prog.info?=l}:=⟨_,by conv=>lhs;reduce⟩
noncomputable def ty3:{l:List (Option TypeInfo)//(List.range' 48 16).map prog.info?=l}:=⟨_,by conv=>lhs;reduce⟩
noncomputable def ty4:{l:List (Option TypeInfo)//(List.range' 64 16).map prog.info?=l}:=⟨_,by conv=>lhs;reduce⟩
noncomputable def ty5:{l:List (Option TypeInfo)//(List.range' 80 16).map prog.info?=l}:=⟨_,by conv=>lhs;reduce⟩
noncomputable def ty6:{l:List (Option TypeInfo)//(List.range' 96 16).map prog.info?=l}:=⟨_,by conv=>lhs;reduce⟩
noncomputable def ty7:{l:List (Option TypeInfo)//(List.range' 112 16).map prog.info?=l}:=⟨_,by conv=>lhs;reduce⟩
noncomputable def ty8:{l:List (Option TypeInfo)//(List.range' 128 16).map prog.info?=l}:=⟨_,by conv=>lhs;reduce⟩
noncomputable def ty9:{l:List (Option TypeInfo)//(List.range' 144 16).map prog.info?=l}:=⟨_,by conv=>lhs;reduce⟩
noncomputable def Zo:{l:List (Option TypeInfo)//(List.range' 160 16).map prog.info?=l}:=⟨_,by conv=>lhs;reduce⟩
noncomputable def Zq:{l:List (Option TypeInfo)//(List.range' 176 16).map prog.info?=l}:=⟨_,by conv=>lhs;reduce⟩
noncomputable def Zr:{l:List (Option TypeInfo)//(List.range' 192 16).map prog.info?=l}:=⟨_,by conv=>lhs;reduce⟩
noncomputable def Zs:{l:List (Option TypeInfo)//(List.range' 208 16).map prog.info?=l}:=⟨_,by conv=>lhs;reduce⟩
noncomputable def Zt:{l:List (Option TypeInfo)//(List.range' 224 16).map prog.info?=l}:=⟨_,by conv=>lhs;reduce⟩
noncomputable def Zu:{l:List (Option TypeInfo)//(List.range' 240 16).map prog.info?=l}:=⟨_,by conv=>lhs;reduce⟩
noncomputable def Zv:{l:List (Option TypeInfo)//(List.range' 256 16).map prog.info?=l}:=⟨_,by conv=>lhs;reduce⟩
noncomputable def Zw:{l:List (Option TypeInfo)//(List.range' 272 16).map prog.info?=l}:=⟨_,by conv=>lhs;reduce⟩
noncomputable def Zx:{l:List (Option TypeInfo)//(List.range' 288 16).map prog.info?=l}:=⟨_,by conv=>lhs;reduce⟩
noncomputable def Zy:{l:List (Option TypeInfo)//(List.range' 304 16).map prog.info?=l}:=⟨_,by conv=>lhs;reduce⟩
noncomputable def Zz:{l:List (Option TypeInfo)//(List.range' 320 16).map prog.info?=l}:=⟨_,by conv=>lhs;reduce⟩
noncomputable def ZA:{l:List (Option TypeInfo)//(List.range' 336 16).map prog.info?=l}:=⟨_,by conv=>lhs;reduce⟩
noncomputable def ZB:{l:List (Option TypeInfo)//(List.range' 352 16).map prog.info?=l}:=⟨_,by conv=>lhs;reduce⟩
noncomputable def ZC:{l:List (Option TypeInfo)//(List.range' 368 16).map prog.info?=l}:=⟨_,by conv=>lhs;reduce⟩
noncomputable def ZD:{l:List (Option TypeInfo)//(List.range' 384 16).map prog.info?=l}:=⟨_,by conv=>lhs;reduce⟩
noncomputable def ZE:{l:List (Option TypeInfo)//(List.range' 400 16).map prog.info?=l}:=⟨_,by conv=>lhs;reduce⟩
noncomputable def ZF:{l:List (Option TypeInfo)//(List.range' 416 16).map prog.info?=l}:=⟨_,by conv=>lhs;reduce⟩
noncomputable def ZG:{l:List (Option TypeInfo)//(List.range' 432 16).map prog.info?=l}:=⟨_,by conv=>lhs;reduce⟩
noncomputable def ZH:{l:List (Option TypeInfo)//(List.range' 448 16).map prog.info?=l}:=⟨_,by conv=>lhs;reduce⟩
noncomputable def ZI:{l:List (Option TypeInfo)//(List.range' 464 16).map prog.info?=l}:=⟨_,by conv=>lhs;reduce⟩
noncomputable def ZJ:{l:List (Option TypeInfo)//(List.range' 480 16).map prog.info?=l}:=⟨_,by conv=>lhs;reduce⟩
noncomputable def ZK:{l:List (Option TypeInfo)//(List.range' 496 16).map prog.info?=l}:=⟨_,by conv=>lhs;reduce⟩
noncomputable def ZL:{l:List (Option TypeInfo)//(List.range' 512 16).map prog.info?=l}:=⟨_,by conv=>lhs;reduce⟩
noncomputable def ZM:{l:List (Option TypeInfo)//(List.range' 528 5).map prog.info?=l}:=⟨_,by conv=>lhs;reduce⟩
noncomputable def Xf (t:Nat):Option TypeInfo:=if t<533 then(if t<272 then if t<128 then if t<64 then if t<32 then if t<16 then ty0.1.getD (t-0) none else ty1.1.getD (t-16) none else if t<48 then ty2.1.getD (t-32) none else ty3.1.getD (t-48) none else if t<96 then if t<80 then ty4.1.getD (t-64) none else ty5.1.getD (t-80) none else if t<112 then ty6.1.getD (t-96) none else ty7.1.getD (t-112) none else if t<192 then if t<160 then if t<144 then ty8.1.getD (t-128) none else ty9.1.getD (t-144) none else if t<176 then Zo.1.getD (t-160) none else Zq.1.getD (t-176) none else if t<224 then if t<208 then Zr.1.getD (t-192) none else Zs.1.getD (t-208) none else if t<240 then Zt.1.getD (t-224) none else if t<256 then Zu.1.getD (t-240) none else Zv.1.getD (t-256) none else if t<400 then if t<336 then if t<304 then if t<288 then Zw.1.getD (t-272) none else Zx.1.getD (t-288) none else if t<320 then Zy.1.getD (t-304) none else Zz.1.getD (t-320) none else if t<368 then if t<352 then ZA.1.getD (t-336) none else ZB.1.getD (t-352) none else if t<384 then ZC.1.getD (t-368) none else ZD.1.getD (t-384) none else if t<464 then if t<432 then if t<416 then ZE.1.getD (t-400) none else ZF.1.getD (t-416) none else if t<448 then ZG.1.getD (t-432) none else ZH.1.getD (t-448) none else if t<496 then if t<480 then ZI.1.getD (t-464) none else ZJ.1.getD (t-480) none else if t<512 then ZK.1.getD (t-496) none else if t<528 then ZL.1.getD (t-512) none else ZM.1.getD (t-528) none)else prog.info? t
theorem tyE:Xf=prog.info?:=by
 funext t;unfold Xf
 repeat' split
 ·exact bY ty0.2 (by omega) (by omega)
 ·exact bY ty1.2 (by omega) (by omega)
 ·exact bY ty2.2 (by omega) (by omega)
 ·exact bY ty3.2 (by omega) (by omega)
 ·exact bY ty4.2 (by omega) (by omega)
 ·exact bY ty5.2 (by omega) (by omega)
 ·exact bY ty6.2 (by omega) (by omega)
 ·exact bY ty7.2 (by omega) (by omega)
 ·exact bY ty8.2 (by omega) (by omega)
 ·exact bY ty9.2 (by omega) (by omega)
 ·exact bY Zo.2 (by omega) (by omega)
 ·exact bY Zq.2 (by omega) (by omega)
 ·exact bY Zr.2 (by omega) (by omega)
 ·exact bY Zs.2 (by omega) (by omega)
 ·exact bY Zt.2 (by omega) (by omega)
 ·exact bY Zu.2 (by omega) (by omega)
 ·exact bY Zv.2 (by omega) (by omega)
 ·exact bY Zw.2 (by omega) (by omega)
 ·exact bY Zx.2 (by omega) (by omega)
 ·exact bY Zy.2 (by omega) (by omega)
 ·exact bY Zz.2 (by omega) (by omega)
 ·exact bY ZA.2 (by omega) (by omega)
 ·exact bY ZB.2 (by omega) (by omega)
 ·exact bY ZC.2 (by omega) (by omega)
 ·exact bY ZD.2 (by omega) (by omega)
 ·exact bY ZE.2 (by omega) (by omega)
 ·exact bY ZF.2 (by omega) (by omega)
 ·exact bY ZG.2 (by omega) (by omega)
 ·exact bY ZH.2 (by omega) (by omega)
 ·exact bY ZI.2 (by omega) (by omega)
 ·exact bY ZJ.2 (by omega) (by omega)
 ·exact bY ZK.2 (by omega) (by omega)
 ·exact bY ZL.2 (by omega) (by omega)
 ·exact bY ZM.2 (by omega) (by omega)
 ·rfl
theorem ka:(∀nt c sc,j7 prog Xf nt c=some sc->comp prog nt c=some sc)/\ ∀l rs,zc Xf l=some rs->gS prog l=some rs:=by
 rw[tyE,MX,E5];exact⟨fun _ _ _ h=>h,fun _ _ h=>h⟩
abbrev aE (f:FuncId) (a:List PV) (r:PV):Prop:=qX prog f a r
theorem eW {f:FuncId} {fn:Func} {sc:SC} {rs:List qn} (hent:Enters prog f f) (hfn:prog.funcs[f]?=some fn) {args:List PV} {r:PV} (h:CW prog (J6 rs r) sc [] ⟨Vu 0 args,[],1000⟩) (hb:fn.body.isSome=true:=by exact rfl) (hc:j7 prog Xf fn.ntmps (fn.body.getD .skip)=some sc:=by cbv) (hr:zc Xf fn.results.toList=some rs:=by cbv) (hlen:Nat.ble args.length fn.ntmps=true:=by exact rfl):qX prog f args r:=qX.w mixed hent hfn hb (ka.1 _ _ _ hc) (ka.2 _ _ hr) hlen h
theorem u8z {c:UInt8} (h:(c.toNat:Int)=0):c=0:=jo.1 (by simpa using h)
theorem aa7 {c:UInt8} (h:(c.toNat:Int)≠0):c≠0:=fun e=>by subst e;simp at h
abbrev E (n:Int):PV:= .i .i64 n
theorem RJ {l:Bytes} (h:x<l.length):(l.map u8).getD x .fn0=u8 (l.getD x 0):=by
 simp[b9,h]
theorem Rh (c:UInt8):(u8 c).byte=c:=by simp[u8,PV.byte]
theorem yW (l:Bytes):(l.map u8).map PV.byte=l:=by induction l<;>simp_all[Rh]
theorem vM {l:Bytes} {y:PV} (h:y∈l.map u8):y.isByte:=by
 obtain⟨c,_,rfl⟩:=cE.1 h;trivial
theorem yZ {l:Bytes} {y:PV} (h:y∈l.map u8):y.cells.length=1:=by
 obtain⟨c,_,rfl⟩:=cE.1 h;rfl
theorem wL (a:Bytes):aa a=(decide ((a.length:Int)<=128)&&(((a.length:Int)==0)||(((a.getD 0 0).toNat:Int) !=0))):=by
 unfold aa;have h1:decide ((a.length:Int)<=128)=decide (a.length<=128):=by simp;omega
 have h2:((a.length:Int)==0)=(a.length==0):=by rw[cX];simp only[eD];omega
 have h3:(((a.getD 0 0).toNat:Int) !=0)=(a.headD 0 !=0):=by
  cases a with
  |nil=>rfl
  |cons x r=>
   have:x.toNat=0↔x=0:=by
    constructor
    ·intro h;exact jo.1 h
    ·intro h;subst h;rfl
   rw[cX];simp[this]
 rw[h1,h2,h3]
theorem aI (a:Bytes):aE 32 [.s a] (.b (aa a)):=by
 rw[wL];refine eW call32 func32 ?_;repeat' first|simp only[go_sem,seval]|refine oE ?_|apply xX<;>intro hc
 all_goals simp_all
 all_goals omega
theorem kG (l:Bytes):aE 135 [.sl (l.map u8)] (.s (fK l)):=by
 refine eW call135 func135 ?_;simp only[go_sem,seval];refine ak (α:=Bytes) List.length (fun x=>⟨[(0, .v (.sl (x.map u8)))],[],_⟩) (fun x=>fK x=fK l) l (fun _=>aD _) rfl ?_ ?_
 ·refine AS.Le.of (aD _) ⟨rfl,rfl,trivial⟩ trivial
 ·intro x hx R hR
  cases x with
  |nil=>
   refine xF ?_;rw[<-hx];rfl
  |cons c r=>
   repeat' first|simp only[go_sem,seval]|refine oE ?_|apply xX<;>intro hc
   ·refine⟨⟨oO,fun x hx=>yZ hx⟩,hR r ?_ (yt _) _ (AS.Le.of oC ⟨rfl,rfl,trivial⟩ trivial)⟩
    rw[<-hx,fK,ah (u8z hc)]
   ·refine⟨fun y hy=>vM hy,?_⟩
    rw[<-hx,fK,af (aa7 hc)];rw[yW]
theorem sK (a:Bytes):aE 134 [.s a] (.tup [.s (if a.length<=128 then a else[]),E (if a.length<=128 then 0 else 5)]):=by
 refine eW call134 func134 ?_;repeat' first|simp only[go_sem,seval]|refine oE ?_|apply xX<;>intro hc
 ·have h: ¬a.length<=128:=oO;simp[h]
 ·have h:a.length<=128:=oO;simp[h]
theorem lA (a:Bytes) (i:Nat) (ha:a.length<4611686018427387904):aE 133 [.s a,E i] (E ((num a/256^i%256:Nat):Int)):=by
 refine eW call133 func133 ?_;repeat' first|simp only[go_sem,seval]|refine oE ?_|apply xX<;>intro hc
 ·rw[sP a oO];rfl
 ·have h:=vY a (i:=i) oO;rw[<-h,show((a.length:Int)-1-(i:Int)).toNat=a.length-1-i by omega]
  have:=(a.getD (a.length-1-i) 0).toNat_lt;rw[IntWalk.i64_in _ oO]
theorem NL (x:Int):aE 297 [E x] (.b false):=by
 refine eW call297 func297 ?_;simp only[go_sem,seval];simp
theorem Ks (x y:Int):aE 176 [E x,E y] (E (if x<y then-1 else if y<x then 1 else 0)):=by
 refine eW call176 func176 ?_;repeat' first|simp only[go_sem,seval]|refine cP (NL _) ?_|refine oE ?_|apply xX<;>intro hc
 all_goals (simp_all<;>omega)
theorem Kt (a b:Bytes):EvX prog 409 [.s a, .s b] (E (Lib.compareBytes a b)):=by
 intro rd vs w hv;obtain⟨x,us,rfl,hx,hv⟩:=hv.fI;obtain⟨y,us,rfl,hy,hv⟩:=hv.fI;obtain rfl:=hv.ec
 cases hx;cases hy
 have h1:(Tryz.f409.name== "runtime.NumGoroutine")=false:=by kernel_rfl
 have h2:Tryz.f409.body.isNone=true:=by kernel_rfl
 have h3:(Extern.findNext Tryz.f409).isNone=true:=by kernel_rfl
 have h4:Extern.find Tryz.f409=some Extern.BytealgCompare.compare:=by kernel_rfl
 have h3':Extern.findNext Tryz.f409=none:=by simpa using h3
 refine⟨.int .i64 (Lib.compareBytes a b),?_, .i _ _⟩;simp only[callFunc,bG,run_program,Result.andThen,func409,h1,h2,h3',h4,aB,bM,az];have:=Lib.run_compareString (P:=prog) ⟨a.toArray⟩ ⟨b.toArray⟩ w;simp only[List.toList_toArray]at this;simp[this]
theorem Be (a b:Bytes):aE 298 [.s a, .s b] (E (Lib.compareBytes a b)):=by
 refine eW call298 func298 ?_;repeat' first|simp only[go_sem,seval]|(refine Ue (Kt _ _) rfl ?_)|refine oE ?_|apply xX<;>intro hc
theorem Bn (a b:Bytes):aE 177 [.s a, .s b] (E (Lib.compareBytes a b)):=by
 refine eW call177 func177 ?_;repeat' first|simp only[go_sem,seval]|refine cP (Be _ _) ?_|refine oE ?_|apply xX<;>intro hc
def aW (a b:Nat):Int:=if a<b then-1 else if b<a then 1 else 0
theorem kp: ∀{a b:Bytes},a.length=b.length->Lib.compareBytes a b=aW (num a) (num b)
 |[],[],_=>rfl
 |x::r,y::s,h=>by
  have hl:r.length=s.length:=by simpa using h
  have ih:=kp hl;have h1:=xc x y hl;have h2:=xc y x hl.symm;have e1:x<y↔x.toNat<y.toNat:=yo;have e2:y<x↔y.toNat<x.toNat:=yo;simp only[Lib.compareBytes,aW,h1,h2,e1,e2,ih];rcases D5 x.toNat y.toNat with h|h|h
  ·simp[h]
  ·have:x=y:=jo.1 h;subst this;simp
  ·have hne: ¬x=y:=fun e=>by subst e;omega
   simp[h,Nat.lt_asymm h,hne]
theorem pc {a b:Bytes} (ha:Canon a) (hb:Canon b):aE 89 [.s a, .s b] (E (aW (num a) (num b))):=by
 refine eW call89 func89 ?_;repeat' first|simp only[go_sem,seval]|refine cP (Ks _ _) ?_|refine cP (Bn _ _) ?_|refine oE ?_|apply xX<;>intro hc
 ·congr 1;refine kp ?_
  split at hc
  ·simp at hc
  ·split at hc
   ·simp at hc
   ·omega
 ·congr 1;unfold aW
  split at hc
  ·have:=iN (a:=a) hb oO;simp_all
  ·split at hc
   ·have:=iN (a:=b) ha oO;rename_i g1 g2;rw[af g1,ah g2,af oO,ah oO]
   ·simp at hc
theorem mG (a b:Bytes):aE 36 [.s a, .s b] (E (if aa a&&aa b then aW (num a) (num b)else 0)):=by
 refine eW call36 func36 ?_;repeat' first|simp only[go_sem,seval]|refine cP (aI _) ?_|(refine gQ (pc (bL (by assumption)) (bL (by assumption))) rfl ?_)|refine oE ?_|apply xX<;>intro hc
 all_goals simp_all
theorem kU {a:Bytes} {i:Nat} (h:i<a.length):num (a.take (i+1))=num (a.take i)*256+(a.getD i 0).toNat:=by
 rw[JS h,zV];simp[b9,h]
theorem oz (a:Bytes):aE 294 [.s a] (.tup [.i .u64 (if aa a&&decide (a.length<=8)then num a else 0), .b (aa a&&decide (a.length<=8))]):=by
 refine eW call294 func294 ?_;repeat' first|simp only[go_sem,seval]|refine cP (aI _) ?_|refine oE ?_|apply xX<;>intro hc
 rotate_right
 ·simp_all
 ·have: ¬a.length<=8:=oO;simp[this]
 ·have h8:a.length<=8:=oO;refine ak (α:=Nat) (fun i=>a.length-i) (fun i=>⟨[(0, .v (.s a)),(4, .v (.i .u64 (num (a.take i)))),(15, .v (.i .i64 a.length)),(16, .v (.i .i64 i))],[],1014⟩) (fun i=>i<=a.length) 0 (fun _=>aD _) (aO _) ?_ ?_
  ·(refine AS.Le.of (by first|decide|omega) ?_ ?_<;>simp[dw,du,aS,aC,AV.bd,AV.bd.bdL,u8,an,ar,aA]);rfl
  ·intro i hi R hR
   by_cases hlt:i<a.length
   ·refine xF ?_;refine hR (i+1) oO oO _ ?_;have h1:=kU hlt;have h2:num (a.take i)<72057594037927936:=by
     refine br (cF _) (gj (cQ oC (?_: _<=7)) oC);simp;omega
    have h3:=(a.getD i 0).toNat_lt;rw[show((num (a.take i):Int)*256)=((num (a.take i)*256:Nat):Int) by simp]
    rw[IntWalk.u64_in _ oO,IntWalk.u64_in _ oO,VA .u64 rfl (by show _<18446744073709551616;omega) (by show _<18446744073709551616;omega),FG (k:=8) oO]
    (refine AS.Le.of (by first|decide|omega) ?_ ?_<;>simp[dw,du,aS,aC,AV.bd,AV.bd.bdL,u8,an,ar,aA])
    rw[h1];simp
   ·refine xF ?_;rw[cZ oO];simp[*]
theorem jK (h:x<256):([0,1,2,2,3,3,3,3,4,4,4,4,4,4,4,4,5,5,5,5,5,5,5,5,5,5,5,5,5,5,5,5,6,6,6,6,6,6,6,6,6,6,6,6,6,6,6,6,6,6,6,6,6,6,6,6,6,6,6,6,6,6,6,6,7,7,7,7,7,7,7,7,7,7,7,7,7,7,7,7,7,7,7,7,7,7,7,7,7,7,7,7,7,7,7,7,7,7,7,7,7,7,7,7,7,7,7,7,7,7,7,7,7,7,7,7,7,7,7,7,7,7,7,7,7,7,7,7,8,8,8,8,8,8,8,8,8,8,8,8,8,8,8,8,8,8,8,8,8,8,8,8,8,8,8,8,8,8,8,8,8,8,8,8,8,8,8,8,8,8,8,8,8,8,8,8,8,8,8,8,8,8,8,8,8,8,8,8,8,8,8,8,8,8,8,8,8,8,8,8,8,8,8,8,8,8,8,8,8,8,8,8,8,8,8,8,8,8,8,8,8,8,8,8,8,8,8,8,8,8,8,8,8,8,8,8,8,8,8,8,8,8,8,8,8,8,8,8,8,8,8,8,8,8,8,8]:Bytes).getD x 0=UInt8.ofNat (Lib.bitLen x):=by
 revert x;decide+kernel
theorem jI (h:x<256):Lib.bitLen x<=8:=Lib.bitLen_le x 8 oC oO
theorem len8_int (h:x<256):(((UInt8.ofNat (Lib.bitLen x)).toNat:Nat):Int)=(Lib.bitLen x:Int):=by
 have:=jI h;rw[iH];omega
theorem It (x:Nat) (h:x<256):aE 183 [.i .u8 x] (E (Lib.bitLen x)):=by
 refine eW call183 func183 ?_;refine xF ?_;rw[jK h,len8_int h];have:=jI h;rw[IntWalk.i64_in _ oO]
theorem nA {y k:Nat} (hy:y<256) (hk:k<=56) (h:Lib.bitLen x=k+Lib.bitLen y) {T:Bytes} (hT: ∀x,x<256->T.getD x 0=UInt8.ofNat (Lib.bitLen x)):
  (0<=IntKind.u8.wrap (y:Int)/\IntKind.u8.wrap (y:Int)<256)/\PV.i IntKind.i64 (IntKind.i64.wrap ((k:Int)+IntKind.i64.wrap ((T.getD (IntKind.u8.wrap (y:Int)).toNat 0).toNat:Int)))=E (Lib.bitLen x):=by
 have h8:=jI hy;rw[aba hy,Int.toNat_natCast,hT y hy,len8_int hy,IntWalk.i64_in (Lib.bitLen y:Int) oO,IntWalk.i64_in _ oO,h];refine⟨oO,?_⟩;simp
theorem EF (x:Nat) (h:x<(2^64)):aE 514 [.i .u64 x] (E (Lib.bitLen x)):=by
 have g8:=Lib.bitLen_shift8;have g16:=Lib.bitLen_shift16;have g32:=Lib.bitLen_shift32;refine eW call514 func514 ?_;repeat' first|simp only[go_sem,seval]|refine oE ?_|apply xX<;>intro hc
 ·refine nA (k:=56) oO oC ?_ fun _=>jK
  rw[g32 x oO oO,g16 _ oO oO,g8 _ oO oO];omega
 ·refine nA (k:=48) oO oC ?_ fun _=>jK
  rw[g32 x oO oO,g16 _ oO oO];omega
 ·refine nA (k:=40) oO oC ?_ fun _=>jK
  rw[g32 x oO oO,g8 _ oO oO];omega
 ·refine nA (k:=32) oO oC ?_ fun _=>jK
  rw[g32 x oO oO]
 ·refine nA (k:=24) oO oC ?_ fun _=>jK
  rw[g16 x oO oO,g8 _ oO oO];omega
 ·refine nA (k:=16) oO oC ?_ fun _=>jK
  rw[g16 x oO oO]
 ·refine nA (k:=8) oO oC ?_ fun _=>jK
  rw[g8 x oO oO]
 ·refine nA (k:=0) oO oC ?_ fun _=>jK
  omega
theorem tD (x:Nat) (h:x<(2^64)):aE 478 [.i .u64 x] (E ((64-Lib.bitLen x:Nat):Int)):=by
 have h1:=Lib.bitLen_le x 64 oC h;refine eW call478 func478 ?_;repeat' first|simp only[go_sem,seval]|refine cP (EF x h) ?_|refine oE ?_|apply xX<;>intro hc
 congr 1;omega
theorem tE (x y:Nat) (hx:x<(2^64)) (hy:y<(2^64)):aE 295 [.i .u64 x, .i .u64 y] (.tup [.i .u64 (x*y/(2^64):Nat), .i .u64 (x*y%(2^64):Nat)]):=by
 obtain⟨h1,h2,h3,h4⟩:=Lib.mul64_hi x y hx hy;refine eW call295 func295 ?_;simp only[go_sem,seval,uw,Bj,ug,zO,H6,EI,yP,DD,AE,AD,su];have hb:=Lib.half_mul_le (a:=x/4294967296) (b:=y%4294967296) oO oO;have ha:=Lib.half_mul_le (a:=x/4294967296) (b:=y/4294967296) oO oO;have hc:=Lib.half_mul_le (a:=x%4294967296) (b:=y/4294967296) oO oO;rw[<-h4];generalize x/4294967296*(y%4294967296)=b at*;generalize x/4294967296*(y/4294967296)=a at*;generalize x%4294967296*(y/4294967296)=c at*;generalize x%4294967296*(y%4294967296)=d at*;congr 4;omega
end Go.Proofs.Tryz
namespace Go.Proofs.Tryz
open Go Go.Dom
variable {q r t z:Nat}
abbrev U (n:Nat):AV:= .v (.i .u64 n)
structure Qd (hi lo y s Y V u:Nat):Prop where
 hy:0<y
 s64:s<64
 yl:9223372036854775808<=Y
 yh:Y<(2^64)
 hY:Y=y*2^s
 hV:V=lo*2^s%(2^64)
 hVl:V<(2^64)
 hil:u<Y
 eqn:(hi*(2^64)+lo)*2^s=u*(2^64)+V
 hyy:Y=Y/4294967296*4294967296+Y%4294967296
theorem Qd.sub {hi lo y s Y V u:Nat} (D:Qd hi lo y s Y V u) (hz:z<(2^64)):(z+((2^64)-z/(Y/4294967296)*(Y/4294967296)%(2^64)))%(2^64)=z%(Y/4294967296):=by
 have g1:=iJ z (Y/4294967296);have g2:=rK z (Y/4294967296);rw[bZ]at g1;generalize z/(Y/4294967296)*(Y/4294967296)=k at g1 g2⊢;generalize z%(Y/4294967296)=l at g1⊢;omega
theorem Qd.quo {hi lo y s Y V u:Nat} (D:Qd hi lo y s Y V u) (hz:z<(2^64)):z/(Y/4294967296)%(2^64)=z/(Y/4294967296):=bE (eR (fg _ _) hz)
structure yG (Y u t:Nat) (x:Nat×Nat):Prop where
 d:Ip 4294967296 Y (Y/4294967296) (Y%4294967296) u t x.1 x.2
 r:x.2<4294967296
 q:x.1<(2^64)
theorem yG.start {hi lo y s Y V u:Nat} (D:Qd hi lo y s Y V u) (hz:z<Y) (ht:t<4294967296):yG Y z t (z/(Y/4294967296),z%(Y/4294967296)):=by
 have:=D.yl;have:=D.yh;refine⟨Ip.start D.hyy oO hz ht,?_,?_⟩
 ·have:=aQ z (y:=Y/4294967296) oO;show z%(Y/4294967296)< _;omega
 ·show z/(Y/4294967296)< _;exact eR (fg _ _) oO
theorem yG.fin {hi lo y s Y V u:Nat} (D:Qd hi lo y s Y V u) (hz:z<Y) (ht:t<4294967296) (h:yG Y z t (q,r)) (hq:q*(Y%4294967296)<=4294967296*r+t):q=(z*4294967296+t)/Y:=h.d.done D.hyy (by have:=D.yl;omega) hq
theorem yG.go {hi lo y s Y V u:Nat} (D:Qd hi lo y s Y V u) (hz:z<Y) (ht:t<4294967296) (h:yG Y z t (q,r)) (hq:4294967296<=q\/4294967296*r+t<q*(Y%4294967296)):
  (q+18446744073709551615)%(2^64)=q-1/\(r+Y/4294967296)%(2^64)=r+Y/4294967296/\q-1<q/\(4294967296<=r+Y/4294967296->q-1=(z*4294967296+t)/Y)/\(r+Y/4294967296<4294967296->yG Y z t (q-1,r+Y/4294967296)):=by
 have h1:=D.yl;have h2:=D.yh;have h3:=h.r;have h4:=h.q;simp only at h3 h4;obtain⟨p1,p2⟩:=h.d.step D.hyy oO hz ht hq;simp only at p1 p2;exact⟨oO,oO,oO,fun g=>p2.big D.hyy oO oO hz g,fun g=>⟨p2,g,by show q-1< _;omega⟩⟩
theorem Qd.out {hi lo y s Y V u q1 z q0:Nat} (D:Qd hi lo y s Y V u) (hlo:lo<(2^64)) (h:hi<y) (h1:q1=(u*4294967296+V/4294967296)/Y) (hz:z=(u*4294967296+V/4294967296)%Y) (h0:q0=(z*4294967296+V%4294967296)/Y):
  (q1*4294967296%(2^64)+q0)%(2^64)=(hi*(2^64)+lo)/y/\((z*4294967296%(2^64)+V%4294967296)%(2^64)+((2^64)-q0*Y%(2^64)))%(2^64)/2^s=(hi*(2^64)+lo)%y:=by
 have hy:=D.hy;have yl:=D.yl;have yh:=D.yh;obtain⟨a,b⟩:=whole (N:=hi*(2^64)+lo) hy D.hY D.eqn h1 hz h0;have hzl:z<Y:=by rw[hz];exact aQ _ oO
 have hq0:q0<4294967296:=Ip.lt (B:=4294967296) (y1:=Y/4294967296) (y0:=Y%4294967296) oO hzl (aQ _ oC) h0;have hq1:q1<4294967296:=Ip.lt (B:=4294967296) (y1:=Y/4294967296) (y0:=Y%4294967296) oO D.hil (by have:=D.hVl;omega) h1
 have hw:=rz (CN h0) (by rw[jz h0];exact br (aQ _ oO) oO)
 rw[jz h0,eE]at hw;rw[hw,b,<-a];exact⟨oO,rfl⟩
theorem EC (hi lo y:Nat) (h:hi<y) (hlo:lo<(2^64)) (hy:y<(2^64)):aE 413 [.i .u64 hi, .i .u64 lo, .i .u64 y] (.tup [.i .u64 ((hi*(2^64)+lo)/y:Nat), .i .u64 ((hi*(2^64)+lo)%y:Nat)]):=by
 by_cases h0:hi=0
 ·subst h0;have hq:=bE (eR (fg lo y) hlo);refine eW call413 func413 ?_;repeat' first|simp only[go_sem,seval,uw,hq,uQ]|refine oE ?_|apply xX<;>intro hc
 have sc:=scaled h hlo hy;obtain⟨s,hs⟩: ∃s,s=64-Lib.bitLen y:=⟨_,rfl⟩;rw[<-hs]at sc;have hlz:=tD y hy;rw[<-hs]at hlz;obtain⟨s64,yl,yh,hil,eqn,hs1,ol⟩:=sc;obtain⟨Y,hY⟩: ∃Y,Y=y*2^s:=⟨_,rfl⟩;obtain⟨V,hV⟩: ∃V,V=lo*2^s%(2^64):=⟨_,rfl⟩;obtain⟨u,hu⟩: ∃u,u=hi*2^s+lo/2^(64-s):=⟨_,rfl⟩;rw[<-hY]at yl yh hil;rw[<-hu]at hil eqn;rw[<-hV]at eqn;have hVl:V<(2^64):=by rw[hV];exact aQ _ oC
 have D:Qd hi lo y s Y V u:=⟨oO,s64,yl,yh,hY,hV,hVl,hil,eqn,oO⟩;have e1: ∀ _:True,s%(2^64)=s:=fun _=>oO
 have e2: ∀ _:True,Y%(2^64)=Y:=fun _=>oO
 have e3: ∀ _:True,hi*2^s%(2^64)=hi*2^s:=fun _=>bE hs1
 have e4: ∀ _:True,(64+((2^64)-s))%(2^64)=64-s:=fun _=>oO
 have e5: ∀ _:True,Hj .u64 ((hi*2^s:Nat):Int) ((lo/2^(64-s):Nat):Int)=(u:Int):=fun _=>by
  rw[VA .u64 rfl hs1 (eR (fg _ _) hlo),FG ol,hu]
 have hm1: ∀ _:True,(if s<=64 then s else 64)=s:=fun _=>by split<;>omega
 have hm2: ∀ _:True,(if 64-s<=64 then 64-s else 64)=64-s:=fun _=>by split<;>omega
 have hY': ∀ _:True,y*2^s=Y:=fun _=>hY.symm
 have hV': ∀ _:True,lo*2^s%(2^64)=V:=fun _=>hV.symm
 have hr0: ∀ _:True,(u+((2^64)-u/(Y/4294967296)*(Y/4294967296)%(2^64)))%(2^64)=u%(Y/4294967296):=fun _=>D.sub oO
 have hq0: ∀ _:True,u/(Y/4294967296)%(2^64)=u/(Y/4294967296):=fun _=>D.quo oO
 have hy1:Y/4294967296≠0:=oO;have h':=h;clear hs hY hV hu eqn hs1 ol hil yl yh hVl s64;refine eW call413 func413 ?_;simp only[go_sem,seval,uw,Bj,ug,zO,H6,EI,yP,DD,AE,AD,su];repeat' first|simp only[go_sem,seval,uw,Bj,ug,zO,H6,EI,yP,DD,AE,AD,su,e1 oT,hm1 oT,hm2 oT,hY' oT,e2 oT,e3 oT,e4 oT,e5 oT,hV' oT,hq0 oT,eE,hr0 oT]|refine cP hlz ?_|refine oE ?_|apply xX<;>intro hc
 clear e1 e2 e3 e4 e5 hm2 hr0 hq0 hlz hY' hV' h0;refine ak (α:=Nat×Nat) (fun x=>x.1) (fun x=>⟨[(2,U Y),(8,U s),(9,U (Y/4294967296)),(10,U (Y%4294967296)),(11,U u),(13,U (V/4294967296)),(14,U (V%4294967296)),(15,U x.1),(16,U x.2)],[],_⟩) (yG Y u (V/4294967296)) (u/(Y/4294967296),u%(Y/4294967296)) (fun _=>aD _) (.start D D.hil (by have:=D.hVl;omega)) ?_ ?_
 ·exact lE
 ·rintro⟨q,r⟩ hd R hR;have f0:=hd.r;simp only at f0;have f1: ∀ _:True,4294967296*r%(2^64)=4294967296*r:=fun _=>oO
  have f2: ∀ _:True,(4294967296*r+V/4294967296)%(2^64)=4294967296*r+V/4294967296:=fun _=>by have:=D.hVl;omega
  have f3:q*(Y%4294967296)<4294967296*4294967296\/4294967296<=q:=by
   by_cases g:4294967296<=q
   ·exact .inr g
   ·exact .inl (fO oO (aQ _ oC))
  repeat' first|simp only[go_sem,seval,uw,Bj,ug,zO,H6,EI,yP,DD,AE,AD,su,f1 oT,f2 oT]|refine oE ?_|apply xX<;>intro hc
  ·obtain⟨g1,g2,g3,g4,g5⟩:=hd.go D D.hil (by have:=D.hVl;omega) oO
   have hq1:(q-1)=(u*4294967296+V/4294967296)/Y:=g4 oO;obtain⟨q1,e1⟩: ∃q1,q1=(q-1):=⟨_,rfl⟩;rw[<-e1]at hq1;obtain⟨z,hz⟩: ∃z,z=(u*4294967296+V/4294967296)%Y:=⟨_,rfl⟩;have hyl:=D.yl;have hyh:=D.yh;have hzl:z<Y:=by rw[hz];exact aQ _ oO
   have hw1:=rz (CN hq1) (by rw[jz hq1,<-hz];omega)
   rw[jz hq1,<-hz,eE]at hw1;have hq0:=D.quo (z:=z) oO;have hr0:=D.sub (z:=z) oO;simp only[g1,<-e1,eE,hw1,hq0,hr0];clear hw1 hq0 hr0 hyl hyh e1 f0 f3;refine ak (α:=Nat×Nat) (fun x=>x.1) (fun x=>⟨[(2,U Y),(8,U s),(9,U (Y/4294967296)),(10,U (Y%4294967296)),(14,U (V%4294967296)),(15,U q1),(17,U z),(18,U x.1),(16,U x.2)],[],_⟩) (yG Y z (V%4294967296)) (z/(Y/4294967296),z%(Y/4294967296)) (fun _=>aD _) (.start D hzl (aQ _ oC)) ?_ ?_
   ·exact lE
   ·rintro⟨q,r⟩ hd R hR;have f0:=hd.r;simp only at f0;have f1: ∀ _:True,4294967296*r%(2^64)=4294967296*r:=fun _=>oO
    have f2: ∀ _:True,(4294967296*r+V%4294967296)%(2^64)=4294967296*r+V%4294967296:=fun _=>by have:=D.hVl;omega
    have f3:q*(Y%4294967296)<4294967296*4294967296\/4294967296<=q:=by
     by_cases g:4294967296<=q
     ·exact .inr g
     ·exact .inl (fO oO (aQ _ oC))
    repeat' first|simp only[go_sem,seval,uw,Bj,ug,zO,H6,EI,yP,DD,AE,AD,su,f1 oT,f2 oT]|refine oE ?_|apply xX<;>intro hc
    ·obtain⟨g1,g2,g3,g4,g5⟩:=hd.go D hzl (aQ _ oC) oO;have:=D.out hlo h' hq1 hz (g4 oO);simp only[g1,hm1 oT,eE,this.1,this.2]
    ·obtain⟨g1,g2,g3,g4,g5⟩:=hd.go D hzl (aQ _ oC) oO;refine hR (q-1,r+Y/4294967296) (g5 oO) g3 _ ?_;rw[g1,g2];exact lE
    ·obtain⟨g1,g2,g3,g4,g5⟩:=hd.go D hzl (aQ _ oC) oO;have:=D.out hlo h' hq1 hz (g4 oO);simp only[g1,hm1 oT,eE,this.1,this.2]
    ·obtain⟨g1,g2,g3,g4,g5⟩:=hd.go D hzl (aQ _ oC) oO;refine hR (q-1,r+Y/4294967296) (g5 oO) g3 _ ?_;rw[g1,g2];exact lE
    ·have:=D.out hlo h' hq1 hz (hd.fin D hzl (aQ _ oC) oO);simp only[hm1 oT,eE,this.1,this.2]
  ·obtain⟨g1,g2,g3,g4,g5⟩:=hd.go D D.hil (by have:=D.hVl;omega) oO
   refine hR (q-1,r+Y/4294967296) (g5 oO) g3 _ ?_;rw[g1,g2];exact lE
  ·obtain⟨g1,g2,g3,g4,g5⟩:=hd.go D D.hil (by have:=D.hVl;omega) oO
   have hq1:(q-1)=(u*4294967296+V/4294967296)/Y:=g4 oO;obtain⟨q1,e1⟩: ∃q1,q1=(q-1):=⟨_,rfl⟩;rw[<-e1]at hq1;obtain⟨z,hz⟩: ∃z,z=(u*4294967296+V/4294967296)%Y:=⟨_,rfl⟩;have hyl:=D.yl;have hyh:=D.yh;have hzl:z<Y:=by rw[hz];exact aQ _ oO
   have hw1:=rz (CN hq1) (by rw[jz hq1,<-hz];omega)
   rw[jz hq1,<-hz,eE]at hw1;have hq0:=D.quo (z:=z) oO;have hr0:=D.sub (z:=z) oO;simp only[g1,<-e1,eE,hw1,hq0,hr0];clear hw1 hq0 hr0 hyl hyh e1 f0 f3;refine ak (α:=Nat×Nat) (fun x=>x.1) (fun x=>⟨[(2,U Y),(8,U s),(9,U (Y/4294967296)),(10,U (Y%4294967296)),(14,U (V%4294967296)),(15,U q1),(17,U z),(18,U x.1),(16,U x.2)],[],_⟩) (yG Y z (V%4294967296)) (z/(Y/4294967296),z%(Y/4294967296)) (fun _=>aD _) (.start D hzl (aQ _ oC)) ?_ ?_
   ·exact lE
   ·rintro⟨q,r⟩ hd R hR;have f0:=hd.r;simp only at f0;have f1: ∀ _:True,4294967296*r%(2^64)=4294967296*r:=fun _=>oO
    have f2: ∀ _:True,(4294967296*r+V%4294967296)%(2^64)=4294967296*r+V%4294967296:=fun _=>by have:=D.hVl;omega
    have f3:q*(Y%4294967296)<4294967296*4294967296\/4294967296<=q:=by
     by_cases g:4294967296<=q
     ·exact .inr g
     ·exact .inl (fO oO (aQ _ oC))
    repeat' first|simp only[go_sem,seval,uw,Bj,ug,zO,H6,EI,yP,DD,AE,AD,su,f1 oT,f2 oT]|refine oE ?_|apply xX<;>intro hc
    ·obtain⟨g1,g2,g3,g4,g5⟩:=hd.go D hzl (aQ _ oC) oO;have:=D.out hlo h' hq1 hz (g4 oO);simp only[g1,hm1 oT,eE,this.1,this.2]
    ·obtain⟨g1,g2,g3,g4,g5⟩:=hd.go D hzl (aQ _ oC) oO;refine hR (q-1,r+Y/4294967296) (g5 oO) g3 _ ?_;rw[g1,g2];exact lE
    ·obtain⟨g1,g2,g3,g4,g5⟩:=hd.go D hzl (aQ _ oC) oO;have:=D.out hlo h' hq1 hz (g4 oO);simp only[g1,hm1 oT,eE,this.1,this.2]
    ·obtain⟨g1,g2,g3,g4,g5⟩:=hd.go D hzl (aQ _ oC) oO;refine hR (q-1,r+Y/4294967296) (g5 oO) g3 _ ?_;rw[g1,g2];exact lE
    ·have:=D.out hlo h' hq1 hz (hd.fin D hzl (aQ _ oC) oO);simp only[hm1 oT,eE,this.1,this.2]
  ·obtain⟨g1,g2,g3,g4,g5⟩:=hd.go D D.hil (by have:=D.hVl;omega) oO
   refine hR (q-1,r+Y/4294967296) (g5 oO) g3 _ ?_;rw[g1,g2];exact lE
  ·have hq1:q=(u*4294967296+V/4294967296)/Y:=hd.fin D D.hil (by have:=D.hVl;omega) oO
   obtain⟨q1,e1⟩: ∃q1,q1=q:=⟨_,rfl⟩;rw[<-e1]at hq1;obtain⟨z,hz⟩: ∃z,z=(u*4294967296+V/4294967296)%Y:=⟨_,rfl⟩;have hyl:=D.yl;have hyh:=D.yh;have hzl:z<Y:=by rw[hz];exact aQ _ oO
   have hw1:=rz (CN hq1) (by rw[jz hq1,<-hz];omega)
   rw[jz hq1,<-hz,eE]at hw1;have hq0:=D.quo (z:=z) oO;have hr0:=D.sub (z:=z) oO;simp only[true_and,<-e1,eE,hw1,hq0,hr0];clear hw1 hq0 hr0 hyl hyh e1 f0 f3;refine ak (α:=Nat×Nat) (fun x=>x.1) (fun x=>⟨[(2,U Y),(8,U s),(9,U (Y/4294967296)),(10,U (Y%4294967296)),(14,U (V%4294967296)),(15,U q1),(17,U z),(18,U x.1),(16,U x.2)],[],_⟩) (yG Y z (V%4294967296)) (z/(Y/4294967296),z%(Y/4294967296)) (fun _=>aD _) (.start D hzl (aQ _ oC)) ?_ ?_
   ·exact lE
   ·rintro⟨q,r⟩ hd R hR;have f0:=hd.r;simp only at f0;have f1: ∀ _:True,4294967296*r%(2^64)=4294967296*r:=fun _=>oO
    have f2: ∀ _:True,(4294967296*r+V%4294967296)%(2^64)=4294967296*r+V%4294967296:=fun _=>by have:=D.hVl;omega
    have f3:q*(Y%4294967296)<4294967296*4294967296\/4294967296<=q:=by
     by_cases g:4294967296<=q
     ·exact .inr g
     ·exact .inl (fO oO (aQ _ oC))
    repeat' first|simp only[go_sem,seval,uw,Bj,ug,zO,H6,EI,yP,DD,AE,AD,su,f1 oT,f2 oT]|refine oE ?_|apply xX<;>intro hc
    ·obtain⟨g1,g2,g3,g4,g5⟩:=hd.go D hzl (aQ _ oC) oO;have:=D.out hlo h' hq1 hz (g4 oO);simp only[g1,hm1 oT,eE,this.1,this.2]
    ·obtain⟨g1,g2,g3,g4,g5⟩:=hd.go D hzl (aQ _ oC) oO;refine hR (q-1,r+Y/4294967296) (g5 oO) g3 _ ?_;rw[g1,g2];exact lE
    ·obtain⟨g1,g2,g3,g4,g5⟩:=hd.go D hzl (aQ _ oC) oO;have:=D.out hlo h' hq1 hz (g4 oO);simp only[g1,hm1 oT,eE,this.1,this.2]
    ·obtain⟨g1,g2,g3,g4,g5⟩:=hd.go D hzl (aQ _ oC) oO;refine hR (q-1,r+Y/4294967296) (g5 oO) g3 _ ?_;rw[g1,g2];exact lE
    ·have:=D.out hlo h' hq1 hz (hd.fin D hzl (aQ _ oC) oO);simp only[hm1 oT,eE,this.1,this.2]
theorem Me (hi lo y:Nat) (h0:0<y) (hhi:hi<(2^64)) (hlo:lo<(2^64)) (hy:y<(2^64)):aE 305 [.i .u64 hi, .i .u64 lo, .i .u64 y] (.i .u64 ((hi*(2^64)+lo)%y:Nat)):=by
 have h1:hi%y<y:=aQ _ h0;have h2:(hi%y*(2^64)+lo)%y=(hi*(2^64)+lo)%y:=by
  rw[jf,cL,eE,<-cL,<-jf]
 refine eW call305 func305 ?_;repeat' first|simp only[go_sem,seval,h2]|refine cP (EC _ _ _ h1 hlo hy) ?_|refine oE ?_|apply xX<;>intro hc
end Go.Proofs.Tryz
namespace Go.Dom
open Go.RowKit
variable {K R:Act->World->Prop} {P:Program} {a a' a0:Act} {j n:Nat} {ops:Array Oper}

def mI (ops:Array Oper) (a a':Act):Prop:= ∀k,(∀(j:Nat) (o:Oper),ops[j]?=some o->o.dst≠some k)->a'.tmps.getD k undef=a.tmps.getD k undef
theorem mI.put (h:mI ops a a') {o:Oper} (ho:ops[j]?=some o) (v:Value) (ds:List Deferred):mI ops a (({a' with defers:=ds}:Act).put o.dst v):=by
 intro k hk;have hd:=hk j o ho;unfold Act.put
 cases hdst:o.dst with
 |none=>exact h k hk
 |some d=>
  have hne:d≠k:=fun e=>hd (by rw[hdst,e])
  show(a'.tmps.setIfInBounds d v).getD k undef= _;rw[<-h k hk];simp[iV,Array.getElem?_setIfInBounds,hne]
theorem mI.at (h:mI ops a a') (k:Nat) (hk:(ops.toList.all fun o=> !(o.dst==some k))=true):a'.tmps.getD k undef=a.tmps.getD k undef:=by
 refine h k fun j o ho he=> ?_
 have hm:o∈ops.toList:=Array.mem_toList_iff.2 (pN ho);have:=bH.1 hk o hm;rw[he]at this;simp at this
theorem QV {t:Array Value} (h:t.size=n):t=((List.range n).map fun k=>t.getD k undef).toArray:=by
 subst h;apply Array.ext
 ·simp
 ·intro i h1 h2;simp[iV,yx h1]
def QN (R:Act->World->Prop):Exit->Act->World->Prop:=fun e a w=>e= .normal/\R a w
theorem LW {F:Fence} {o:Oper} (ho:ops[j]?=some o) (hk:mI ops a0 a) {r:Result Next} (h:o.uponIn F n P a K (QN R) r):o.uponIn F n P a (fun a' w'=>K a' w'/\mI ops a0 a') (QN fun a w=>R a w/\mI ops a0 a) r:=by
 have hl: ∀(R:Act->World->Prop),¬LetsOut (QN R):=by rintro R ⟨a,w,h,-⟩;cases h
 have hp: ∀(v:Value),mI ops a0 (a.put o.dst v):=fun v=>hk.put ho v a.defers
 cases r with
 |ok x w'=>
  cases x with
  |value v=>exact⟨h,hp v⟩
  |skip=>exact⟨h,hp _⟩
  |defer d=>exact⟨h,hk.put ho _ _⟩
  |enter f args=>
   simp only[Oper.uponIn]at h⊢;refine⟨h.1,CallsIn.mono h.2 fun e w'' he=> ?_⟩
   cases e with
   |returned v=>exact⟨he,hp v⟩
   |panicked c=>obtain⟨h,-⟩:=he;cases h
   |outgrown=>exact(hl _ he).elim
  |row row args=>
   simp only[Oper.uponIn]at h⊢;exact⟨h.1,RowsIn.mono h.2 fun v w'' he=>⟨he,hp v⟩⟩
  |round l f tmps assign body=>
   simp only[Oper.uponIn]at h⊢;refine⟨h.1,RoundIn.mono h.2 fun e w'' he=> ?_⟩
   cases e with
   |returned v=>exact⟨he,hp v⟩
   |panicked c=>obtain⟨h,-⟩:=he;cases h
   |outgrown=>exact(hl _ he).elim
  | _=>exact h
 |halt e w'=>
  cases e with
  |panic v=>obtain⟨h,-⟩:=h;cases h
  | _=>exact h
theorem Sf {F:Fence} {w:World} {i:Nat} (hk:mI ops a0 a) (h:wpOpIn F n P ops (QN R) i K a w):wpOpIn F n P ops (QN fun a w=>R a w/\mI ops a0 a) i (fun a' w'=>K a' w'/\mI ops a0 a') a w:=by
 unfold wpOpIn at*
 cases ho:ops[i]? with
 |none=>simp only[ho]at h⊢;exact⟨h,hk⟩
 |some o=>
  simp only[ho]at h⊢;split
  ·rename_i hw;rw[ah hw]at h;exact⟨h.1,LW ho hk h.2⟩
  ·rename_i hw;rw[af hw]at h;exact⟨h.1,h.2,hk.put ho _ a.defers⟩
theorem Mo {F:Fence} {md:Region.Mode}: ∀(fuel:Nat) (listed:Array Bool) (a:Act) (w:World),mI ops a0 a->wpAnyIn F n P md ops (QN R) fuel listed a w->wpAnyIn F n P md ops (QN fun a w=>R a w/\mI ops a0 a) fuel listed a w:=by
 intro fuel
 induction fuel with
 |zero=>intro listed a w hk h;exact⟨h.1,h.2.1,h.2.2,hk⟩
 |succ fuel ih=>
  intro listed a w hk h;refine⟨fun hr=>⟨(h.1 hr).1,(h.1 hr).2,hk⟩,fun i hi=> ?_⟩
  exact wpOpIn_mono (fun a' w' h'=>ih _ _ _ h'.2 h'.1) (Sf hk (h.2 i hi))
theorem Lm [cM P] (hm:P.follows .mixedOrders=true) {id:Nat} {sc:SC} {W:World} {rd:Rd} {pvs out:List (Nat×PV)} (hc:comp P a.tmps.size (.region id ops true)=some sc) (hd:a.defers=[]) (htr: ∀b o v,TR P b o=some v->rd b o=some v) (hrd: ∀b o v,rd b o=some v->W.cell? ⟨b,o,none⟩=some v)
  (hp: ∀p∈pvs,PR rd p.2 (a.tmps.getD p.1 undef)) (h:aw P sc (fun x s=>x= .normal/\ ∀p∈out,aS s.t p.1= .v p.2) ⟨pvs.map fun p=>(p.1, .v p.2),[],1000⟩):
  (Code.region id ops true).wpIn Fence.wide 0 P (fun e a' W'=>e= .normal/\((a'.defers=[]/\a'.tmps.size=a.tmps.size/\Below W.heap.size W W'/\ ∀p∈out,PR (fU rd W W') p.2 (a'.tmps.getD p.1 undef))/\mI ops a a')) a W:=by
 let E:Env P:=⟨W,rd,fun b=>W.heap.size<=b,a.tmps.size,⟨rd,fun _=>False,fun _=>none,fun _=>0,fun _=>0,fun _=>false⟩,[],fun _ h=>h.elim,htr,W.heap.size,[],none,⟨rd,fun _=>False,fun _=>none,fun _=>0,fun _=>0,fun _=>false⟩,aD _,by simp,[],by simp⟩
 have hs0:nf E ⟨pvs.map fun p=>(p.1, .v p.2),[],1000⟩ a W:=by
  refine⟨⟨⟨rd,fun n=>n<1000,fun _=>none,fun _=>0,fun _=>0,fun _=>false⟩,?_,⟨hrd,?_,fun _ _=>rfl,?_,?_,?_,?_,?_,fun n ob hn=>by simp[Dom.aC]at hn⟩,fun _ _=>rfl,⟨⟨Wf.refl _ _,aD _,by simp[E]⟩,⟨⟨fun _ _ _ h=>h,fun _ h=>h.elim,fun _ h=>h.elim,fun _ h=>h.elim⟩,⟨fun _ _ _ h=>h,fun _ h=>h.elim,fun _ h=>h.elim,fun _ h=>h.elim⟩⟩,fun n ob hn=>by simp[Dom.aC]at hn⟩,hd,rfl,?_⟩,fun n hn=>hn.elim False.elim False.elim⟩
  ·intro n;simp
  ·intro n ob hn;simp[Dom.aC]at hn
  ·intro n ob hn;simp[Dom.aC]at hn
  ·intro n m ob oc hn;simp[Dom.aC]at hn
  ·intro n ob hn;simp[Dom.aC]at hn
  ·intro n ob hn;simp[Dom.aC]at hn
  ·intro n ob hn;simp[Dom.aC]at hn
  ·intro k;rcases Gw (t:=pvs.map fun p=>(p.1,AV.v p.2)) (k:=k)with e|e
   ·rw[e];exact .u _
   ·obtain⟨p,hpm,he⟩:=cE.1 e;injection he with e1 e2
    rw[<-e2,<-e1];exact .v (hp p hpm)
 have hend: ∀(s:AS) (a':Act) (W':World),(∀p∈out,aS s.t p.1= .v p.2)->nf E s a' W'->a'.defers=[]/\a'.tmps.size=a.tmps.size/\Below W.heap.size W W'/\ ∀p∈out,PR (fU rd W W') p.2 (a'.tmps.getD p.1 undef):=by
  intro s a' W' hq hsr;obtain⟨⟨C,hal,hh,hrd',⟨hwf,-,-⟩,hdf,hsz,htm⟩,-⟩:=hsr;refine⟨hdf,hsz,⟨hwf.wf.os,hwf.wf.tape,hwf.wf.output,hwf.wf.size,fun k hk=>hwf.wf.blk k hk (fun hw=>by have:W.heap.size<=k:=hw;omega)⟩,fun p hp=> ?_⟩
  have h1:=htm p.1;rw[hq p hp]at h1
  cases h1 with
  |v h2=>
   refine h2.mono fun b o v hv=> ?_
   unfold fU
   by_cases hb:b<W.heap.size
   ·rw[ah hb];have e:C.rd b=rd b:=hrd' b (.inl hb);rw[e]at hv;exact hv
   ·rw[af hb];exact hh.rdw _ _ _ hv
 simp only[comp,IJ]at hc
 split at hc
 ·rename_i sops hsops;obtain⟨hlen,hok⟩:=za hsops;simp only[aB]at hc
  split at hc
  ·rename_i hcond;simp only[aZ]at hcond;simp only[aq]at hc;subst hc;simp only[aw]at h;obtain⟨s2,tr,h1,h2,h3,h4⟩:=EL (sops:=sops) sops 0 _ [] _ (fun j=>by simp) h
   rw[<-Ei]at h1;have hl:=Fj h1;rw[yg]at hl;have hind:=zq hl hcond.2 h3;rw[hlen]at h1 hind;refine wpIn_region_any hm ?_;refine Mo (R:=fun a' W'=>a'.defers=[]/\a'.tmps.size=a.tmps.size/\Below W.heap.size W W'/\ ∀p∈out,PR (fU rd W W') p.2 (a'.tmps.getD p.1 undef)) _ _ _ _ (fun _ _=>rfl) ?_
   have hrep: ∀k,k<ops.size->(Array.replicate ops.size false).getD k true=false:=by
    intro k hk;simp[iV,hk]
   refine Cv (E:=E) (fun b hb=>hb) hlen hok hcond.1 (nx:=1000) (al:=fun n=>n<1000) (fun k _ h=>by omega) ?_ ops.size _ (List.range ops.size) _ _ tr a _ (by simp) List.pairwise_lt_range ?_ (by simp) ?_ h1 hind ?_
   ·intro a' w' hsr;refine⟨rfl,hend {s2 with nx:=1000+sops.length} a' w' h4.2 ?_⟩
    rw[hlen];exact nf.region hs0.2 hsr
   ·intro k;rw[fN];exact⟨fun h=>⟨h,hrep k h⟩,fun h=>h.1⟩
   ·intro j o ho hl;have hj:j<ops.size:=(jT.1 ho).1;rw[hrep j hj]at hl;cases hl
   ·refine hs0.1.drew.lk fun n=>⟨.inl,?_⟩
    rintro(h|⟨k,h1,h2,-⟩)
    ·exact h
    ·rw[hrep k h1]at h2;cases h2
  ·cases hc
 ·cases hc
