/-
  Part of the proof, part FA19. Own work.
-/
import Derived.Test.YtfdjchnefpefbaaGreatDoorChecked
import Derived.KernelRfl
import Derived.Test.YtfdjchnefpefbaaGreatDoorFA18
import Derived.Lib.Bytealg
import Derived.Lib.Mul64
import Derived.Lib.ItoaNum
set_option linter.all false
namespace Go.Dom
open Go.RowKit
section
variable (P:Program) [bY P] (I:TypeId->Option TypeInfo)
def jJ (t:TypeId):Option TypeDesc:=
 match I t with
 |some {desc:= .named _ u, .. }=>(I u).map (·.desc)
 |some i=>some i.desc
 |none=>none
def Aw (t:TypeId):Option (List AV):=do
 let i<-I t
 let z<-i.zero
 if z.cells.size=i.size then aQ OY z.cells.toList else none
def UX (t:TypeId):Option PV:=do
 let i<-I t
 let v<-i.zero
 match OY v with
 |some (.v z)=>some z
 | _=>none
def Bg (t:TypeId):Option Bool:=
 match jJ I t with
 |some (.struct _)=>some true
 |some (.array _ _)=>some true
 |some _=>some false
 |none=>none
def ja (t:TypeId):Option Nat:=(I t).map (·.size)
def PZ (fs:Array Field) (ps:Array (Nat×Operand)):Option (List (Nat×Nat×SX)):=
 aQ (fun p=>do
  let f<-fs[p.1]?
  let z<-ja I f.type
  let x<-sx P p.2
  some (f.offset,z,x)) ps.toList
def Ih (o:Oper) (c:Call):Option SO:=
 match c.callee with
 | .value f=>do
  let f<-sx P f
  let args<-aQ (sx P) c.args.toList
  some (.call f args)
 | .builtin b=>
  match b,c.args.toList,c.argTypes.toList with
  | .len,[x],[t]=>match jJ I t with
   |some .string=>do some (.lenS (<-sx P x))
   |some (.slice _)=>do some (.len (<-sx P x))
   |some (.array n _)=>some (.lenA n)
   | _=>none
  | .append,[x,y],[t,u]=>match jJ I t,jJ I u with
   |some (.slice e),some (.slice e')=>do
    let i<-I e
    let z<-i.zero
    if z.cells.size=i.size/\0<i.size/\e=e'/\t=u then some (.app e i.size i.bytes (<-sx P x) (<-sx P y))else none
   |some (.slice e),some .string=>do
    let i<-I e
    let z<-i.zero
    if z.cells.size=i.size/\i.size=1 then some (.app e i.size i.bytes (<-sx P x) (<-sx P y))else none
   | _,_=>none
  | .copy,[x,y],[t,u]=>match jJ I t,jJ I u with
   |some (.slice e),some (.slice _)=>do some (.cpy (<-ja I e) (<-sx P x) (<-sx P y))
   |some (.slice e),some .string=>do
    if(<-ja I e)=1 then some (.cpy 1 (<-sx P x) (<-sx P y))else none
   | _,_=>none
  | .clear,[x],[t]=>match jJ I t with
   |some (.slice e)=>do some (.clr (<-Aw I e) (<-sx P x))
   | _=>none
  | .max,[x,y],_=>do some (.mm true (<-sx P x) (<-sx P y))
  | .min,[x,y],_=>do some (.mm false (<-sx P x) (<-sx P y))
  | .unsafeSliceData,[x],_=>do some (.sld (<-sx P x))
  | .unsafeString,[x,y],[pt,_]=>match jJ I pt with
   |some (.pointer e)=>do if(ja I e).getD 0=1 then some (.ust e (<-sx P x) (<-sx P y))else none
   | _=>none
  | _,_,_=>none
 | .invoke _ _=>none
def OV (o:Oper):Option SO:=
 match o.op with
 | .move x=>do some (.mov (<-sx P x))
 | .assign x=>do some (.mov (<-sx P x))
 | .pick c a b=>do some (.pick (<-sx P c) (<-sx P a) (<-sx P b))
 | .alloc t=>do some (.alloc t (<-Aw I t))
 | .box _ x=>do some (.box (<-sx P x))
 | .build t ps=>match jJ I t with
  |some (.struct fs)=>do
   if fs.toList.all (fun f=>(ja I f.type).isSome)then some (.build (<-Aw I t) (<-PZ P I fs ps))else none
  |some (.array _ e)=>do
   let z<-ja I e
   some (.build (<-Aw I t) (<-Fo P z ps))
  | _=>none
 | .buildSlice t n ps=>match jJ I t with
  |some (.slice e)=>do
   let z<-ja I e
   let ze<-Aw I e
   let xs<-aQ (sx P) (ps.toList.map (·.2))
   if ps.toList.map (·.1)=List.range n/\n*z<=16777216/\0<z then some (.bsl (Zu ze) z xs)else none
  | _=>none
 | .load t x=>do
  let ag<-Bg I t
  let z<-ja I t
  if ag||z==1 then some (.ld ag z (<-sx P x))else none
 | .store t a x=>do
  let z<-ja I t
  some (.st z (<-sx P a) (<-sx P x))
 | .binOp op t x y _=>match jJ I t with
  |some (.int _)=>do some (.bin op (<-sx P x) (<-sx P y))
  |some .string=>do some (.bin op (<-sx P x) (<-sx P y))
  |some .bool=>match op with
   | .eql=>do some (.beq false (<-sx P x) (<-sx P y))
   | .neq=>do some (.beq true (<-sx P x) (<-sx P y))
   | _=>none
  |some (.pointer te)=>if(I te).isSome then(match op with
   | .eql=>do some (.peq false (<-sx P x) (<-sx P y))
   | .neq=>do some (.peq true (<-sx P x) (<-sx P y))
   | _=>none)else none
  |some (.struct _)=>match op,(bY.pl P).find? (·.1==t)with
   | .eql,some q=>do some (.ceq false q.2 (<-sx P x) (<-sx P y))
   | .neq,some q=>do some (.ceq true q.2 (<-sx P x) (<-sx P y))
   | _,_=>none
  |some (.slice _)=>match op,y with
   | .eql, .const (.slice none 0 0)=>do some (.snl false (<-sx P x))
   | .neq, .const (.slice none 0 0)=>do some (.snl true (<-sx P x))
   | _,_=>none
  | _=>none
 | .unOp op _ x=>do some (.un op (<-sx P x))
 | .convert s d x=>match jJ I s,jJ I d with
  |some (.int _),some (.int k)=>do some (.cvi k (<-sx P x))
  |some .string,some .string=>do some (.cvs (<-sx P x))
  |some (.slice e),some .string=>match jJ I e with
   |some (.int .u8)=>do
    if(<-ja I e)=1 then some (.b2s (<-sx P x))else none
   | _=>none
  |some .string,some (.slice e)=>match jJ I e with
   |some (.int .u8)=>do some (.s2b (<-sx P x))
   | _=>none
  |some (.pointer t),some .unsafePointer=>do
   if(<-ja I t)=0 then none else some (.cvp (fun _ _ _=>true) (<-sx P x))
  |some .unsafePointer,some (.pointer u)=>do
   if(<-ja I u)=0 then none else some (.cvp (fun e n o=>liesAt P P.depth e (n/P.cellsOf e) o u 1) (<-sx P x))
  | _,_=>none
 | .makeSlice t l c=>match jJ I t with
  |some (.slice e)=>do
   let i<-I e
   let z<-Aw I e
   if 0<i.size/\0<i.bytes then some (.mks z i.bytes (<-sx P l) (<-sx P c))else none
  | _=>none
 | .slice t x lo hi mx=>match jJ I t with
  |some .string=>match mx with
   |none=>do some (.slS (<-sx P x) (<-yH P lo) (<-yH P hi))
   |some _=>none
  |some (.slice e)=>do some (.slL (<-ja I e) (<-sx P x) (<-yH P lo) (<-yH P hi) (<-yH P mx))
  |some (.array n e)=>do some (.slA n (<-ja I e) (<-sx P x) (<-yH P lo) (<-yH P hi) (<-yH P mx))
  | _=>none
 | .fieldAddr s x f=>match jJ I s with
  |some (.struct fs)=>do
   let fl<-fs[f]?
   let z<-ja I fl.type
   if z=0 then none else some (.fad fl.offset (<-sx P x))
  | _=>none
 | .field s x f=>match jJ I s with
  |some (.struct fs)=>do
   let fl<-fs[f]?
   let z<-ja I fl.type
   let ag<-Bg I fl.type
   if ag||z==1 then some (.fld ag fl.offset z (<-sx P x))else none
  | _=>none
 | .indexAddr t x i=>match jJ I t with
  |some (.slice e)=>do some (.ixs (<-ja I e) (<-sx P x) (<-sx P i))
  |some (.array n e)=>do some (.ixa n (<-ja I e) (<-sx P x) (<-sx P i))
  | _=>none
 | .index t x i=>match jJ I t with
  |some .string=>do some (.ixS (<-sx P x) (<-sx P i))
  |some (.array n e)=>do
   let z<-ja I e
   let ag<-Bg I e
   if ag||z==1 then some (.ixV ag n z (<-sx P x) (<-sx P i))else none
  | _=>none
 | .extract x k=>do some (.ext (<-sx P x) k)
 | .call c=>Ih P I o c
 | .makeFunc f a c=>do some (.mkf f (<-aQ (sx P) a.toList) (<-aQ (sx P) c.toList))
 | .nilCheck x=>do some (.nck (<-sx P x))
 | .makeInterface t x=>match jJ I t with
  |some (.int _)=>do some (.mki t (<-sx P x))
  |some .string=>do some (.mki t (<-sx P x))
  | _=>none
 | .makeMap t r=>match r,jJ I t with
  |none,some (.map _ _)=>some .mkm
  |some (.const (.int _ _)),some (.map _ _)=>some .mkm
  | _,_=>none
 | .lookup t x k c=>match jJ I t with
  |some (.map kt et)=>do
   let z<-UX I et
   let x<-sx P x
   let k<-sx P k
   match jJ I kt with
   |some (.int _)=>some (.mget c false z x k)
   |some .string=>some (.mget c true z x k)
   | _=>none
  | _=>none
 | .mapUpdate t m k v=>match jJ I t with
  |some (.map kt _)=>do
   let m<-sx P m
   let k<-sx P k
   let v<-sx P v
   match jJ I kt with
   |some (.int _)=>some (.mset false m k v)
   |some .string=>some (.mset true m k v)
   | _=>none
  | _=>none
 | .panic _=>some .stop
 | _=>none
def Ta (nt:Nat) (ops:Array Oper) (o:Oper):Option jd:=
 match OV P I o,Gu ops nt o.guard with
 |some so,some g=>if Yf nt o.dst then some ⟨o.dst,so,g⟩else none
 | _,_=>none
def KM (nt:Nat) (ops:Array Oper) (draw:Bool):Option SC:=
 match aQ (Ta P I nt ops) ops.toList with
 |some sops=>if draw then(if Fi ops (Region.before ops).toList&&stat (Region.before ops).toList sops then some (.reg (some (Region.before ops).toList) sops)else none)else some (.reg none sops)
 |none=>none
def xc:List ResultVar->Option (List ov):=
 aQ fun
  | .tmp t=>some (.t t)
  | .cell a ty=>match Bg I ty,ja I ty with
   |some ag,some z=>if ag||z==1 then some (.c a ag z)else none
   | _,_=>none
end
def l9 (P:Program) [bY P] (I:TypeId->Option TypeInfo) (nt:Nat):Code->Option SC
 | .skip=>some .skip
 | .region _ ops draw=>KM P I nt ops draw
 | .seq a b=>match l9 P I nt a,l9 P I nt b with
  |some a,some b=>some (.seq a b)
  | _,_=>none
 | .cond c a b=>match sx P c,l9 P I nt a,l9 P I nt b with
  |some c,some a,some b=>some (.cond c a b)
  | _,_,_=>none
 | .block id a=>match l9 P I nt a with
  |some a=>some (.blk id a)
  |none=>none
 | .loop a=>match l9 P I nt a with
  |some a=>some (.loop a)
  |none=>none
 | .rangeFunc g ps a b=>match sx P g,l9 P I nt a,l9 P I nt b with
  |some g,some a,some b=>if a.dR&&b.dR&&ps.toList.all (fun p=>Nat.blt p nt)then some (.rng g ps.toList a b)else none
  | _,_,_=>none
 | .exit id=>some (.exit id)
 | .ret=>some .ret
 | .refuse _=>some .stop
 | .scope a=>l9 P I nt a
 | .label _=>some .skip
 | _=>none
section
variable {P:Program} [bY P]
theorem KK:l9 P P.info?=comp P:=by
 funext nt c
 have h:KM P P.info?=Gw P:=rfl
 induction c<;>simp_all[l9,comp]<;>rfl
theorem CX:xc P.info?=fG P:=rfl
end
theorem br {β:Type} {f:Nat->Option β} {a n:Nat} {l:List (Option β)} (h:(List.range' a n).map f=l) {t:Nat} (h1:a<=t) (h2:t<a+n):l.getD (t-a) none=f t:=by
 subst h;have:t-a<n:=by omega
 simp[aR,this,show a+(t-a)=t by omega]
end Go.Dom
namespace Go.Proofs.YtfdjchnefpefbaaGreatDoor
open Go Go.Dom
set_option maxRecDepth 100000
theorem mixed:Tryz.prog.follows .mixedOrders=true:=by kernel_rfl
def mw:List Int:=[0,1,28,2,29,14,24,3,30,22,20,15,25,17,4,8,31,27,13,23,21,19,16,7,26,12,18,6,11,5,10,9]
def my:List Int:=[0,1,56,2,57,49,28,3,61,58,42,50,38,29,17,4,62,47,59,36,45,43,51,22,53,39,33,30,24,18,12,5,63,55,48,27,60,41,37,16,46,35,44,21,52,32,23,11,54,26,40,15,34,20,31,10,25,14,19,9,13,8,7,6]
def oi:List Int:=[1,10,100,1000,10000,100000,1000000,10000000,100000000,1000000000,10000000000,100000000000,1000000000000,10000000000000,100000000000000,1000000000000000,10000000000000000,100000000000000000,1000000000000000000,10000000000000000000]
instance aaw:bY Tryz.prog:=⟨[(5,mw.map fun n=>(.u8,n)),(0,my.map fun n=>(.u8,n)),(4,oi.map fun n=>(.u64,n))],[(89,[0,1]),(34,[1,1,1,1])],by
 intro q hq;simp only[bL,iy,or_false]at hq;rcases hq with rfl|rfl<;>kernel_rfl⟩
noncomputable def Zz:{l:List (Option TypeInfo)//(List.range' 0 16).map Tryz.prog.info?=l}:=⟨_,by conv=>lhs;reduce⟩
noncomputable def ZA:{l:List (Option TypeInfo)//(List.range' 16 16).map Tryz.prog.info?=l}:=⟨_,by conv=>lhs;reduce⟩
noncomputable def ZB:{l:List (Option TypeInfo)//(List.range' 32 16).map Tryz.prog.info?=l}:=⟨_,by conv=>lhs;reduce⟩
noncomputable def ZC:{l:List (Option TypeInfo)//(List.range' 48 16).map Tryz.prog.info?=l}:=⟨_,by conv=>lhs;reduce⟩
noncomputable def ZD:{l:List (Option TypeInfo)//(List.range' 64 16).map Tryz.prog.info?=l}:=⟨_,by conv=>lhs;reduce⟩
noncomputable def ZE:{l:List (Option TypeInfo)//(List.range' 80 16).map Tryz.prog.info?=l}:=⟨_,by conv=>lhs;reduce⟩
noncomputable def ZF:{l:List (Option TypeInfo)//(List.range' 96 16).map Tryz.prog.info?=l}:=⟨_,by conv=>lhs;reduce⟩
noncomputable def ZG:{l:List (Option TypeInfo)//(List.range' 112 16).map Tryz.prog.info?=l}:=⟨_,by conv=>lhs;reduce⟩
noncomputable def ZH:{l:List (Option TypeInfo)//(List.range' 128 16).map Tryz.prog.info?=l}:=⟨_,by conv=>lhs;reduce⟩
noncomputable def ZI:{l:List (Option TypeInfo)//(List.range' 144 16).map Tryz.prog.info?=l}:=⟨_,by conv=>lhs;reduce⟩
noncomputable def WG:{l:List (Option TypeInfo)//(List.range' 160 16).map Tryz.prog.info?=l}:=⟨_,by conv=>lhs;reduce⟩
noncomputable def WH:{l:List (Option TypeInfo)//(List.range' 176 16).map Tryz.prog.info?=l}:=⟨_,by conv=>lhs;reduce⟩
noncomputable def WI:{l:List (Option TypeInfo)//(List.range' 192 16).map Tryz.prog.info?=l}:=⟨_,by conv=>lhs;reduce⟩
noncomputable def WJ:{l:List (Option TypeInfo)//(List.range' 208 16).map Tryz.prog.info?=l}:=⟨_,by conv=>lhs;reduce⟩
noncomputable def WK:{l:List (Option TypeInfo)//(List.range' 224 16).map Tryz.prog.info?=l}:=⟨_,by conv=>lhs;reduce⟩
noncomputable def WL:{l:List (Option TypeInfo)//(List.range' 240 16).map Tryz.prog.info?=l}:=⟨_,by conv=>lhs;reduce⟩
noncomputable def WM:{l:List (Option TypeInfo)//(List.range' 256 16).map Tryz.prog.info?=l}:=⟨_,by conv=>lhs;reduce⟩
noncomputable def WN:{l:List (Option TypeInfo)//(List.range' 272 16).map Tryz.prog.info?=l}:=⟨_,by conv=>lhs;reduce⟩
noncomputable def WO:{l:List (Option TypeInfo)//(List.range' 288 16).map Tryz.prog.info?=l}:=⟨_,by conv=>lhs;reduce⟩
noncomputable def WQ:{l:List (Option TypeInfo)//(List.range' 304 16).map Tryz.prog.info?=l}:=⟨_,by conv=>lhs;reduce⟩
noncomputable def WR:{l:List (Option TypeInfo)//(List.range' 320 16).map Tryz.prog.info?=l}:=⟨_,by conv=>lhs;reduce⟩
noncomputable def WT:{l:List (Option TypeInfo)//(List.range' 336 16).map Tryz.prog.info?=l}:=⟨_,by conv=>lhs;reduce⟩
noncomputable def WU:{l:List (Option TypeInfo)//(List.range' 352 16).map Tryz.prog.info?=l}:=⟨_,by conv=>lhs;reduce⟩
noncomputable def WV:{l:List (Option TypeInfo)//(List.range' 368 16).map Tryz.prog.info?=l}:=⟨_,by conv=>lhs;reduce⟩
noncomputable def WW:{l:List (Option TypeInfo)//(List.range' 384 16).map Tryz.prog.info?=l}:=⟨_,by conv=>lhs;reduce⟩
noncomputable def WX:{l:List (Option TypeInfo)//(List.range' 400 16).map Tryz.prog.info?=l}:=⟨_,by conv=>lhs;reduce⟩
noncomputable def WY:{l:List (Option TypeInfo)//(List.range' 416 16).map Tryz.prog.info?=l}:=⟨_,by conv=>lhs;reduce⟩
noncomputable def WZ:{l:List (Option TypeInfo)//(List.range' 432 16).map Tryz.prog.info?=l}:=⟨_,by conv=>lhs;reduce⟩
noncomputable def W0:{l:List (Option TypeInfo)//(List.range' 448 16).map Tryz.prog.info?=l}:=⟨_,by conv=>lhs;reduce⟩
noncomputable def W5:{l:List (Option TypeInfo)//(List.range' 464 16).map Tryz.prog.info?=l}:=⟨_,by conv=>lhs;reduce⟩
noncomputable def W6:{l:List (Option TypeInfo)//(List.range' 480 16).map Tryz.prog.info?=l}:=⟨_,by conv=>lhs;reduce⟩
noncomputable def W7:{l:List (Option TypeInfo)//(List.range' 496 11).map Tryz.prog.info?=l}:=⟨_,by conv=>lhs;reduce⟩
noncomputable def US (t:Nat):Option TypeInfo:=if t<507 then(if t<256 then if t<128 then if t<64 then if t<32 then if t<16 then Zz.1.getD (t-0) none else ZA.1.getD (t-16) none else if t<48 then ZB.1.getD (t-32) none else ZC.1.getD (t-48) none else if t<96 then if t<80 then ZD.1.getD (t-64) none else ZE.1.getD (t-80) none else if t<112 then ZF.1.getD (t-96) none else ZG.1.getD (t-112) none else if t<192 then if t<160 then if t<144 then ZH.1.getD (t-128) none else ZI.1.getD (t-144) none else if t<176 then WG.1.getD (t-160) none else WH.1.getD (t-176) none else if t<224 then if t<208 then WI.1.getD (t-192) none else WJ.1.getD (t-208) none else if t<240 then WK.1.getD (t-224) none else WL.1.getD (t-240) none else if t<384 then if t<320 then if t<288 then if t<272 then WM.1.getD (t-256) none else WN.1.getD (t-272) none else if t<304 then WO.1.getD (t-288) none else WQ.1.getD (t-304) none else if t<352 then if t<336 then WR.1.getD (t-320) none else WT.1.getD (t-336) none else if t<368 then WU.1.getD (t-352) none else WV.1.getD (t-368) none else if t<448 then if t<416 then if t<400 then WW.1.getD (t-384) none else WX.1.getD (t-400) none else if t<432 then WY.1.getD (t-416) none else WZ.1.getD (t-432) none else if t<480 then if t<464 then W0.1.getD (t-448) none else W5.1.getD (t-464) none else if t<496 then W6.1.getD (t-480) none else W7.1.getD (t-496) none)else Tryz.prog.info? t
theorem tyE:US=Tryz.prog.info?:=by
 funext t;unfold US
 repeat' split
 ·exact br Zz.2 (by omega) (by omega)
 ·exact br ZA.2 (by omega) (by omega)
 ·exact br ZB.2 (by omega) (by omega)
 ·exact br ZC.2 (by omega) (by omega)
 ·exact br ZD.2 (by omega) (by omega)
 ·exact br ZE.2 (by omega) (by omega)
 ·exact br ZF.2 (by omega) (by omega)
 ·exact br ZG.2 (by omega) (by omega)
 ·exact br ZH.2 (by omega) (by omega)
 ·exact br ZI.2 (by omega) (by omega)
 ·exact br WG.2 (by omega) (by omega)
 ·exact br WH.2 (by omega) (by omega)
 ·exact br WI.2 (by omega) (by omega)
 ·exact br WJ.2 (by omega) (by omega)
 ·exact br WK.2 (by omega) (by omega)
 ·exact br WL.2 (by omega) (by omega)
 ·exact br WM.2 (by omega) (by omega)
 ·exact br WN.2 (by omega) (by omega)
 ·exact br WO.2 (by omega) (by omega)
 ·exact br WQ.2 (by omega) (by omega)
 ·exact br WR.2 (by omega) (by omega)
 ·exact br WT.2 (by omega) (by omega)
 ·exact br WU.2 (by omega) (by omega)
 ·exact br WV.2 (by omega) (by omega)
 ·exact br WW.2 (by omega) (by omega)
 ·exact br WX.2 (by omega) (by omega)
 ·exact br WY.2 (by omega) (by omega)
 ·exact br WZ.2 (by omega) (by omega)
 ·exact br W0.2 (by omega) (by omega)
 ·exact br W5.2 (by omega) (by omega)
 ·exact br W6.2 (by omega) (by omega)
 ·exact br W7.2 (by omega) (by omega)
 ·rfl
theorem je:(∀nt c sc,l9 Tryz.prog US nt c=some sc->comp Tryz.prog nt c=some sc)/\ ∀l rs,xc US l=some rs->fG Tryz.prog l=some rs:=by
 rw[tyE,KK,CX];exact⟨fun _ _ _ h=>h,fun _ _ h=>h⟩
theorem eW {f:FuncId} {fn:Func} {sc:SC} {rs:List ov} (hent:Enters Tryz.prog f f) (hfn:Tryz.prog.funcs[f]?=some fn) {args:List PV} {r:PV} (h:CW Tryz.prog (HX rs r) sc [] ⟨Te 0 args,[],1000⟩) (hb:fn.body.isSome=true:=by exact rfl) (hc:l9 Tryz.prog US fn.ntmps (fn.body.getD .skip)=some sc:=by cbv) (hr:xc US fn.results.toList=some rs:=by cbv) (hlen:Nat.ble args.length fn.ntmps=true:=by exact rfl):aA Tryz.prog f args r:=aA.w mixed hent hfn hb (je.1 _ _ _ hc) (je.2 _ _ hr) hlen h
theorem ZJ {c:UInt8} (h:(c.toNat:Int)=0):c=0:=iP.1 (by simpa using h)
theorem Y9 {c:UInt8} (h:(c.toNat:Int)≠0):c≠0:=fun e=>by subst e;simp at h
abbrev E (n:Int):PV:= .i .i64 n
theorem Pp {l:Bytes} {x:Nat} (h:x<l.length):(l.map u8).getD x .fn0=u8 (l.getD x 0):=by
 simp[aR,h]
theorem OP (c:UInt8):(u8 c).byte=c:=by simp[u8,PV.byte]
theorem wS (l:Bytes):(l.map u8).map PV.byte=l:=by induction l<;>simp_all[OP]
theorem tE {l:Bytes} {y:PV} (h:y∈l.map u8):y.isByte:=by
 obtain⟨c,_,rfl⟩:=bw.1 h;trivial
theorem wV {l:Bytes} {y:PV} (h:y∈l.map u8):y.cells.length=1:=by
 obtain⟨c,_,rfl⟩:=bw.1 h;rfl
theorem uo (a:Bytes):aa a=(decide ((a.length:Int)<=128)&&(((a.length:Int)==0)||(((a.getD 0 0).toNat:Int) !=0))):=by
 unfold aa;have h1:decide ((a.length:Int)<=128)=decide (a.length<=128):=by simp;omega
 have h2:((a.length:Int)==0)=(a.length==0):=by rw[dE];simp only[beq_iff_eq];omega
 have h3:(((a.getD 0 0).toNat:Int) !=0)=(a.headD 0 !=0):=by
  cases a with
  |nil=>rfl
  |cons x r=>
   have:x.toNat=0↔x=0:=by
    constructor
    ·intro h;exact iP.1 h
    ·intro h;subst h;rfl
   rw[dE];simp[this]
 rw[h1,h2,h3]
theorem aJ (a:Bytes):aA Tryz.prog 68 [.s a] (.b (aa a)):=by
 rw[uo];refine eW Tryz.call68 Tryz.func68 ?_;repeat' first|simp only[go_sem,seval]|refine sB ?_|apply xX<;>intro hc|refine⟨oD,?_⟩|exact oD|fail
 all_goals simp_all
 all_goals omega
theorem jI (l:Bytes):aA Tryz.prog 144 [.sl (l.map u8)] (.s (gD l)):=by
 refine eW Tryz.call144 Tryz.func144 ?_;simp only[go_sem,seval];refine af (α:=Bytes) List.length (fun x=>⟨[(0, .v (.sl (x.map u8)))],[],_⟩) (fun x=>gD x=gD l) l (fun _=>an _) rfl ?_ ?_
 ·refine AS.Le.of (an _) ⟨rfl,rfl,trivial⟩ trivial
 ·intro x hx R hR
  cases x with
  |nil=>
   refine wC ?_;rw[<-hx];rfl
  |cons c r=>
   repeat' first|simp only[go_sem,seval]|refine sB ?_|apply xX<;>intro hc|refine⟨oD,?_⟩|exact oD|fail
   ·refine⟨⟨by omega,fun x hx=>wV hx⟩,hR r ?_ (sH _) _ (AS.Le.of oC ⟨rfl,rfl,trivial⟩ trivial)⟩
    rw[<-hx,gD,if_pos (ZJ hc)]
   ·refine⟨fun y hy=>tE hy,?_⟩
    rw[<-hx,gD,if_neg (Y9 hc)];rw[wS]
theorem qt (a:Bytes):aA Tryz.prog 148 [.s a] (.tup [.s (if a.length<=128 then a else[]),E (if a.length<=128 then 0 else 5)]):=by
 refine eW Tryz.call148 Tryz.func148 ?_;repeat' first|simp only[go_sem,seval]|refine sB ?_|apply xX<;>intro hc|refine⟨oD,?_⟩|exact oD|fail
 ·have h: ¬a.length<=128:=by omega
  simp[h]
 ·have h:a.length<=128:=by omega
  simp[h]
theorem ko (a:Bytes) (i:Nat) (ha:a.length<4611686018427387904):aA Tryz.prog 147 [.s a,E i] (E ((num a/256^i%256:Nat):Int)):=by
 refine eW Tryz.call147 Tryz.func147 ?_;repeat' first|simp only[go_sem,seval]|refine sB ?_|apply xX<;>intro hc|refine⟨oD,?_⟩|exact oD|fail
 ·rw[qy a oO];rfl
 ·have h:=tP a (i:=i) oO;rw[<-h,show((a.length:Int)-1-(i:Int)).toNat=a.length-1-i by omega]
  have:=(a.getD (a.length-1-i) 0).toNat_lt;rw[IntWalk.i64_in _ oO]
theorem LC (x:Int):aA Tryz.prog 269 [E x] (.b false):=by
 refine eW Tryz.call269 Tryz.func269 ?_;simp only[go_sem,seval];simp
theorem Ie (x y:Int):aA Tryz.prog 159 [E x,E y] (E (if x<y then-1 else if y<x then 1 else 0)):=by
 refine eW Tryz.call159 Tryz.func159 ?_;repeat' first|simp only[go_sem,seval]|refine cP (LC _) ?_|refine sB ?_|apply xX<;>intro hc|refine⟨oD,?_⟩|exact oD|fail
 all_goals (simp_all<;>omega)
theorem Ig (a b:Bytes):XU Tryz.prog 380 [.s a, .s b] (E (Lib.compareBytes a b)):=by
 intro rd vs w hv;obtain⟨x,us,rfl,hx,hv⟩:=hv.eY;obtain⟨y,us,rfl,hy,hv⟩:=hv.eY;obtain rfl:=hv.dk
 cases hx;cases hy
 have h1:(Tryz.f380.name== "runtime.NumGoroutine")=false:=by kernel_rfl
 have h2:Tryz.f380.body.isNone=true:=by kernel_rfl
 have h3:(Extern.findNext Tryz.f380).isNone=true:=by kernel_rfl
 have h4:Extern.find Tryz.f380=some Extern.BytealgCompare.compare:=by kernel_rfl
 have h3':Extern.findNext Tryz.f380=none:=by simpa using h3
 refine⟨.int .i64 (Lib.compareBytes a b),?_, .i _ _⟩;simp only[callFunc,bG,run_program,Result.andThen,Tryz.func380,h1,h2,h3',h4,if_true,aX,if_false];have:=Lib.run_compareString (P:=Tryz.prog) ⟨a.toArray⟩ ⟨b.toArray⟩ w;simp only[List.toList_toArray]at this;simp[this]
theorem y7 (a b:Bytes):aA Tryz.prog 270 [.s a, .s b] (E (Lib.compareBytes a b)):=by
 refine eW Tryz.call270 Tryz.func270 ?_;repeat' first|simp only[go_sem,seval]|(refine RZ (Ig _ _) rfl ?_)|refine sB ?_|apply xX<;>intro hc|refine⟨oD,?_⟩|exact oD|fail
theorem zh (a b:Bytes):aA Tryz.prog 160 [.s a, .s b] (E (Lib.compareBytes a b)):=by
 refine eW Tryz.call160 Tryz.func160 ?_;repeat' first|simp only[go_sem,seval]|refine cP (y7 _ _) ?_|refine sB ?_|apply xX<;>intro hc|refine⟨oD,?_⟩|exact oD|fail
def aU (a b:Nat):Int:=if a<b then-1 else if b<a then 1 else 0
theorem jx: ∀{a b:Bytes},a.length=b.length->Lib.compareBytes a b=aU (num a) (num b)
 |[],[],_=>rfl
 |x::r,y::s,h=>by
  have hl:r.length=s.length:=by simpa using h
  have ih:=jx hl;have h1:=uF x y hl;have h2:=uF y x hl.symm;have e1:x<y↔x.toNat<y.toNat:=vO;have e2:y<x↔y.toNat<x.toNat:=vO;simp only[Lib.compareBytes,aU,h1,h2,e1,e2,ih];rcases Ca x.toNat y.toNat with h|h|h
  ·simp[h]
  ·have:x=y:=iP.1 h;subst this;simp
  ·have hne: ¬x=y:=fun e=>by subst e;omega
   simp[h,Nat.lt_asymm h,hne]
theorem nB {a b:Bytes} (ha:Canon a) (hb:Canon b):aA Tryz.prog 96 [.s a, .s b] (E (aU (num a) (num b))):=by
 refine eW Tryz.call96 Tryz.func96 ?_;repeat' first|simp only[go_sem,seval]|refine cP (Ie _ _) ?_|refine cP (zh _ _) ?_|refine sB ?_|apply xX<;>intro hc|refine⟨oD,?_⟩|exact oD|fail
 ·congr 1;refine jx ?_
  split at hc
  ·simp at hc
  ·split at hc
   ·simp at hc
   ·omega
 ·congr 1;unfold aU
  split at hc
  ·have:=gQ (a:=a) hb oO;simp_all
  ·split at hc
   ·have:=gQ (a:=b) ha oO;rename_i g1 g2;rw[if_neg g1,if_pos g2,if_neg oO,if_pos oO]
   ·simp at hc
theorem kX (a b:Bytes):aA Tryz.prog 44 [.s a, .s b] (E (if aa a&&aa b then aU (num a) (num b)else 0)):=by
 refine eW Tryz.call44 Tryz.func44 ?_;repeat' first|simp only[go_sem,seval]|refine cP (aJ _) ?_|(refine il (nB (bK (by assumption)) (bK (by assumption))) rfl ?_)|refine sB ?_|apply xX<;>intro hc|refine⟨oD,?_⟩|exact oD|fail
 all_goals simp_all
theorem jZ {a:Bytes} {i:Nat} (h:i<a.length):num (a.take (i+1))=num (a.take i)*256+(a.getD i 0).toNat:=by
 rw[HN h,Dx];simp[aR,h]
theorem mS (a:Bytes):aA Tryz.prog 262 [.s a] (.tup [.i .u64 (if aa a&&decide (a.length<=8)then num a else 0), .b (aa a&&decide (a.length<=8))]):=by
 refine eW Tryz.call262 Tryz.func262 ?_;repeat' first|simp only[go_sem,seval]|refine cP (aJ _) ?_|refine sB ?_|apply xX<;>intro hc|refine⟨oD,?_⟩|exact oD|fail
 rotate_right
 ·simp_all
 ·have: ¬a.length<=8:=by omega
  simp[this]
 ·have h8:a.length<=8:=by omega
  refine af (α:=Nat) (fun i=>a.length-i) (fun i=>⟨[(0, .v (.s a)),(4, .v (.i .u64 (num (a.take i)))),(15, .v (.i .i64 a.length)),(16, .v (.i .i64 i))],[],1014⟩) (fun i=>i<=a.length) 0 (fun _=>an _) (aH _) ?_ ?_
  ·(refine AS.Le.of (by first|decide|omega) ?_ ?_<;>simp[dM,dL,aK,aj,AV.bd,AV.bd.bdL,u8,ai,ak,ar]);rfl
  ·intro i hi R hR
   by_cases hlt:i<a.length
   ·refine wC ?_;refine hR (i+1) oO oO _ ?_;have h1:=jZ hlt;have h2:num (a.take i)<72057594037927936:=by
     refine bj (cb _) (ft (cI oC (?_: _<=7)) oC);simp;omega
    have h3:=(a.getD i 0).toNat_lt;rw[show((num (a.take i):Int)*256)=((num (a.take i)*256:Nat):Int) by simp]
    rw[IntWalk.u64_in _ oO,IntWalk.u64_in _ oO,Tk .u64 rfl (by show _<18446744073709551616;omega) (by show _<18446744073709551616;omega),DC (k:=8) oO]
    (refine AS.Le.of (by first|decide|omega) ?_ ?_<;>simp[dM,dL,aK,aj,AV.bd,AV.bd.bdL,u8,ai,ak,ar])
    rw[h1];simp
   ·refine wC ?_;rw[cd oO];simp[*]
theorem LP: ∀x:Fin 256,([0,1,2,2,3,3,3,3,4,4,4,4,4,4,4,4,5,5,5,5,5,5,5,5,5,5,5,5,5,5,5,5,6,6,6,6,6,6,6,6,6,6,6,6,6,6,6,6,6,6,6,6,6,6,6,6,6,6,6,6,6,6,6,6,7,7,7,7,7,7,7,7,7,7,7,7,7,7,7,7,7,7,7,7,7,7,7,7,7,7,7,7,7,7,7,7,7,7,7,7,7,7,7,7,7,7,7,7,7,7,7,7,7,7,7,7,7,7,7,7,7,7,7,7,7,7,7,7,8,8,8,8,8,8,8,8,8,8,8,8,8,8,8,8,8,8,8,8,8,8,8,8,8,8,8,8,8,8,8,8,8,8,8,8,8,8,8,8,8,8,8,8,8,8,8,8,8,8,8,8,8,8,8,8,8,8,8,8,8,8,8,8,8,8,8,8,8,8,8,8,8,8,8,8,8,8,8,8,8,8,8,8,8,8,8,8,8,8,8,8,8,8,8,8,8,8,8,8,8,8,8,8,8,8,8,8,8,8,8,8,8,8,8,8,8,8,8,8,8,8,8,8,8,8,8,8]:Bytes).getD x.val 0=UInt8.ofNat (Lib.bitLen x.val):=by decide+kernel
theorem jg {x:Nat} (h:x<256):([0,1,2,2,3,3,3,3,4,4,4,4,4,4,4,4,5,5,5,5,5,5,5,5,5,5,5,5,5,5,5,5,6,6,6,6,6,6,6,6,6,6,6,6,6,6,6,6,6,6,6,6,6,6,6,6,6,6,6,6,6,6,6,6,7,7,7,7,7,7,7,7,7,7,7,7,7,7,7,7,7,7,7,7,7,7,7,7,7,7,7,7,7,7,7,7,7,7,7,7,7,7,7,7,7,7,7,7,7,7,7,7,7,7,7,7,7,7,7,7,7,7,7,7,7,7,7,7,8,8,8,8,8,8,8,8,8,8,8,8,8,8,8,8,8,8,8,8,8,8,8,8,8,8,8,8,8,8,8,8,8,8,8,8,8,8,8,8,8,8,8,8,8,8,8,8,8,8,8,8,8,8,8,8,8,8,8,8,8,8,8,8,8,8,8,8,8,8,8,8,8,8,8,8,8,8,8,8,8,8,8,8,8,8,8,8,8,8,8,8,8,8,8,8,8,8,8,8,8,8,8,8,8,8,8,8,8,8,8,8,8,8,8,8,8,8,8,8,8,8,8,8,8,8,8,8]:Bytes).getD x 0=UInt8.ofNat (Lib.bitLen x):=LP ⟨x,h⟩
theorem jf {x:Nat} (h:x<256):Lib.bitLen x<=8:=Lib.bitLen_le x 8 oC oO
theorem len8_int {x:Nat} (h:x<256):(((UInt8.ofNat (Lib.bitLen x)).toNat:Nat):Int)=(Lib.bitLen x:Int):=by
 have:=jf h;rw[gG];omega
theorem Ge (x:Nat) (h:x<256):aA Tryz.prog 242 [.i .u8 x] (E (Lib.bitLen x)):=by
 refine eW Tryz.call242 Tryz.func242 ?_;refine wC ?_;rw[jg h,len8_int h];have:=jf h;rw[IntWalk.i64_in _ oO]
theorem mi {x y k:Nat} (hy:y<256) (hk:k<=56) (h:Lib.bitLen x=k+Lib.bitLen y) {T:Bytes} (hT: ∀x,x<256->T.getD x 0=UInt8.ofNat (Lib.bitLen x)):
  (0<=IntKind.u8.wrap (y:Int)/\IntKind.u8.wrap (y:Int)<256)/\PV.i IntKind.i64 (IntKind.i64.wrap ((k:Int)+IntKind.i64.wrap ((T.getD (IntKind.u8.wrap (y:Int)).toNat 0).toNat:Int)))=E (Lib.bitLen x):=by
 have h8:=jf hy;rw[Zb hy,Int.toNat_natCast,hT y hy,len8_int hy,IntWalk.i64_in (Lib.bitLen y:Int) oO,IntWalk.i64_in _ oO,h];refine⟨by omega,?_⟩
 simp
theorem CG (x:Nat) (h:x<18446744073709551616):aA Tryz.prog 461 [.i .u64 x] (E (Lib.bitLen x)):=by
 have g8:=Lib.bitLen_shift8;have g16:=Lib.bitLen_shift16;have g32:=Lib.bitLen_shift32;refine eW Tryz.call461 Tryz.func461 ?_;repeat' first|simp only[go_sem,seval]|refine sB ?_|apply xX<;>intro hc|refine⟨oD,?_⟩|exact oD|fail
 ·refine mi (k:=56) oO oC ?_ fun _=>jg
  rw[g32 x oO oO,g16 _ oO oO,g8 _ oO oO];omega
 ·refine mi (k:=48) oO oC ?_ fun _=>jg
  rw[g32 x oO oO,g16 _ oO oO];omega
 ·refine mi (k:=40) oO oC ?_ fun _=>jg
  rw[g32 x oO oO,g8 _ oO oO];omega
 ·refine mi (k:=32) oO oC ?_ fun _=>jg
  rw[g32 x oO oO]
 ·refine mi (k:=24) oO oC ?_ fun _=>jg
  rw[g16 x oO oO,g8 _ oO oO];omega
 ·refine mi (k:=16) oO oC ?_ fun _=>jg
  rw[g16 x oO oO]
 ·refine mi (k:=8) oO oC ?_ fun _=>jg
  rw[g8 x oO oO]
 ·refine mi (k:=0) oO oC ?_ fun _=>jg
  omega
theorem qR (x:Nat) (h:x<18446744073709551616):aA Tryz.prog 444 [.i .u64 x] (E ((64-Lib.bitLen x:Nat):Int)):=by
 have h1:=Lib.bitLen_le x 64 oC h;refine eW Tryz.call444 Tryz.func444 ?_;repeat' first|simp only[go_sem,seval]|refine cP (CG x h) ?_|refine sB ?_|apply xX<;>intro hc|refine⟨oD,?_⟩|exact oD|fail
 congr 1;omega
theorem qS (x y:Nat) (hx:x<18446744073709551616) (hy:y<18446744073709551616):aA Tryz.prog 356 [.i .u64 x, .i .u64 y] (.tup [.i .u64 (x*y/18446744073709551616:Nat), .i .u64 (x*y%18446744073709551616:Nat)]):=by
 obtain⟨h1,h2,h3,h4⟩:=Lib.mul64_hi x y hx hy;refine eW Tryz.call356 Tryz.func356 ?_;simp only[go_sem,seval,uw,za,rF,xT,FM,CL,wK,BM,yG,yF,qj];have hb:=Lib.half_mul_le (a:=x/4294967296) (b:=y%4294967296) oO oO;have ha:=Lib.half_mul_le (a:=x/4294967296) (b:=y/4294967296) oO oO;have hc:=Lib.half_mul_le (a:=x%4294967296) (b:=y/4294967296) oO oO;rw[<-h4];generalize x/4294967296*(y%4294967296)=b at*;generalize x/4294967296*(y/4294967296)=a at*;generalize x%4294967296*(y/4294967296)=c at*;generalize x%4294967296*(y%4294967296)=d at*;congr 4;omega
end Go.Proofs.YtfdjchnefpefbaaGreatDoor
namespace Go.Dom
open Go.RowKit

def kZ (ops:Array Oper) (a a':Act):Prop:= ∀k,(∀(j:Nat) (o:Oper),ops[j]?=some o->o.dst≠some k)->a'.tmps.getD k undef=a.tmps.getD k undef
theorem kZ.put {ops:Array Oper} {a a':Act} (h:kZ ops a a') {j:Nat} {o:Oper} (ho:ops[j]?=some o) (v:Value) (ds:List Deferred):kZ ops a (({a' with defers:=ds}:Act).put o.dst v):=by
 intro k hk;have hd:=hk j o ho;unfold Act.put
 cases hdst:o.dst with
 |none=>exact h k hk
 |some d=>
  have hne:d≠k:=fun e=>hd (by rw[hdst,e])
  show(a'.tmps.setIfInBounds d v).getD k undef= _;rw[<-h k hk];simp[hO,Array.getElem?_setIfInBounds,hne]
theorem kZ.at {ops:Array Oper} {a a':Act} (h:kZ ops a a') (k:Nat) (hk:(ops.toList.all fun o=> !(o.dst==some k))=true):a'.tmps.getD k undef=a.tmps.getD k undef:=by
 refine h k fun j o ho he=> ?_
 have hm:o∈ops.toList:=Array.mem_toList_iff.2 (BY ho);have:=bz.1 hk o hm;rw[he]at this;simp at this
theorem Ou {t:Array Value} {n:Nat} (h:t.size=n):t=((List.range n).map fun k=>t.getD k undef).toArray:=by
 subst h;apply Array.ext
 ·simp
 ·intro i h1 h2;simp[hO,wu h1]
def QN (R:Act->World->Prop):Exit->Act->World->Prop:=fun e a w=>e= .normal/\R a w
theorem JC {P:Program} {F:Fence} {n:Nat} {ops:Array Oper} {a0 a:Act} {R:Act->World->Prop} {K:Act->World->Prop} {j:Nat} {o:Oper} (ho:ops[j]?=some o) (hk:kZ ops a0 a) {r:Result Next} (h:o.uponIn F n P a K (QN R) r):o.uponIn F n P a (fun a' w'=>K a' w'/\kZ ops a0 a') (QN fun a w=>R a w/\kZ ops a0 a) r:=by
 have hl: ∀(R:Act->World->Prop),¬LetsOut (QN R):=by rintro R ⟨a,w,h,-⟩;cases h
 have hp: ∀(v:Value),kZ ops a0 (a.put o.dst v):=fun v=>hk.put ho v a.defers
 cases r with
 |ok x w'=>
  cases x with
  |value v=>exact⟨h,hp v⟩
  |skip=>exact⟨h,hp _⟩
  |defer d=>exact⟨h,hk.put ho _ _⟩
  |enter f args=>
   simp only[Oper.uponIn]at h⊢;refine⟨h.1,CallsIn.mono h.2 fun e w'' he=> ?_⟩
   cases e with
   |returned v=>exact⟨he,hp v⟩
   |panicked c=>obtain⟨h,-⟩:=he;cases h
   |outgrown=>exact(hl _ he).elim
  |row row args=>
   simp only[Oper.uponIn]at h⊢;exact⟨h.1,RowsIn.mono h.2 fun v w'' he=>⟨he,hp v⟩⟩
  |round l f tmps assign body=>
   simp only[Oper.uponIn]at h⊢;refine⟨h.1,RoundIn.mono h.2 fun e w'' he=> ?_⟩
   cases e with
   |returned v=>exact⟨he,hp v⟩
   |panicked c=>obtain⟨h,-⟩:=he;cases h
   |outgrown=>exact(hl _ he).elim
  | _=>exact h
 |halt e w'=>
  cases e with
  |panic v=>obtain⟨h,-⟩:=h;cases h
  | _=>exact h
theorem PW {P:Program} {F:Fence} {n:Nat} {ops:Array Oper} {a0 a:Act} {w:World} {R:Act->World->Prop} {K:Act->World->Prop} {i:Nat} (hk:kZ ops a0 a) (h:wpOpIn F n P ops (QN R) i K a w):wpOpIn F n P ops (QN fun a w=>R a w/\kZ ops a0 a) i (fun a' w'=>K a' w'/\kZ ops a0 a') a w:=by
 unfold wpOpIn at*
 cases ho:ops[i]? with
 |none=>simp only[ho]at h⊢;exact⟨h,hk⟩
 |some o=>
  simp only[ho]at h⊢;split
  ·rename_i hw;rw[if_pos hw]at h;exact⟨h.1,JC ho hk h.2⟩
  ·rename_i hw;rw[if_neg hw]at h;exact⟨h.1,h.2,hk.put ho _ a.defers⟩
theorem J7 {P:Program} {F:Fence} {n:Nat} {md:Region.Mode} {ops:Array Oper} {a0:Act} {R:Act->World->Prop}: ∀(fuel:Nat) (listed:Array Bool) (a:Act) (w:World),kZ ops a0 a->wpAnyIn F n P md ops (QN R) fuel listed a w->wpAnyIn F n P md ops (QN fun a w=>R a w/\kZ ops a0 a) fuel listed a w:=by
 intro fuel
 induction fuel with
 |zero=>intro listed a w hk h;exact⟨h.1,h.2.1,h.2.2,hk⟩
 |succ fuel ih=>
  intro listed a w hk h;refine⟨fun hr=>⟨(h.1 hr).1,(h.1 hr).2,hk⟩,fun i hi=> ?_⟩
  exact wpOpIn_mono (fun a' w' h'=>ih _ _ _ h'.2 h'.1) (PW hk (h.2 i hi))
theorem I5 {P:Program} [bY P] (hm:P.follows .mixedOrders=true) {id:Nat} {ops:Array Oper} {sc:SC} {a:Act} {W:World} {rd:Rd} {pvs out:List (Nat×PV)} (hc:comp P a.tmps.size (.region id ops true)=some sc) (hd:a.defers=[]) (htr: ∀b o v,TR P b o=some v->rd b o=some v) (hrd: ∀b o v,rd b o=some v->W.cell? ⟨b,o,none⟩=some v)
  (hp: ∀p∈pvs,PR rd p.2 (a.tmps.getD p.1 undef)) (h:aw P sc (fun x s=>x= .normal/\ ∀p∈out,aK s.t p.1= .v p.2) ⟨pvs.map fun p=>(p.1, .v p.2),[],1000⟩):
  (Code.region id ops true).wpIn Fence.wide 0 P (fun e a' W'=>e= .normal/\((a'.defers=[]/\a'.tmps.size=a.tmps.size/\Below W.heap.size W W'/\ ∀p∈out,PR (ff rd W W') p.2 (a'.tmps.getD p.1 undef))/\kZ ops a a')) a W:=by
 let E:Env P:=⟨W,rd,fun b=>W.heap.size<=b,a.tmps.size,⟨rd,fun _=>False,fun _=>none,fun _=>0,fun _=>0,fun _=>false⟩,[],fun _ h=>h.elim,htr,W.heap.size,[],none,⟨rd,fun _=>False,fun _=>none,fun _=>0,fun _=>0,fun _=>false⟩,an _,by simp,[],by simp⟩
 have hs0:lU E ⟨pvs.map fun p=>(p.1, .v p.2),[],1000⟩ a W:=by
  refine⟨⟨⟨rd,fun n=>n<1000,fun _=>none,fun _=>0,fun _=>0,fun _=>false⟩,?_,⟨hrd,?_,fun _ _=>rfl,?_,?_,?_,?_,?_,fun n ob hn=>by simp[Dom.aj]at hn⟩,fun _ _=>rfl,⟨⟨Wf.refl _ _,an _,by simp[E]⟩,⟨⟨fun _ _ _ h=>h,fun _ h=>h.elim,fun _ h=>h.elim,fun _ h=>h.elim⟩,⟨fun _ _ _ h=>h,fun _ h=>h.elim,fun _ h=>h.elim,fun _ h=>h.elim⟩⟩,fun n ob hn=>by simp[Dom.aj]at hn⟩,hd,rfl,?_⟩,fun n hn=>hn.elim False.elim False.elim⟩
  ·intro n;simp
  ·intro n ob hn;simp[Dom.aj]at hn
  ·intro n ob hn;simp[Dom.aj]at hn
  ·intro n m ob oc hn;simp[Dom.aj]at hn
  ·intro n ob hn;simp[Dom.aj]at hn
  ·intro n ob hn;simp[Dom.aj]at hn
  ·intro n ob hn;simp[Dom.aj]at hn
  ·intro k;rcases Ej (t:=pvs.map fun p=>(p.1,AV.v p.2)) (k:=k)with e|e
   ·rw[e];exact .u _
   ·obtain⟨p,hpm,he⟩:=bw.1 e;injection he with e1 e2
    rw[<-e2,<-e1];exact .v (hp p hpm)
 have hend: ∀(s:AS) (a':Act) (W':World),(∀p∈out,aK s.t p.1= .v p.2)->lU E s a' W'->a'.defers=[]/\a'.tmps.size=a.tmps.size/\Below W.heap.size W W'/\ ∀p∈out,PR (ff rd W W') p.2 (a'.tmps.getD p.1 undef):=by
  intro s a' W' hq hsr;obtain⟨⟨C,hal,hh,hrd',⟨hwf,-,-⟩,hdf,hsz,htm⟩,-⟩:=hsr;refine⟨hdf,hsz,⟨hwf.wf.os,hwf.wf.tape,hwf.wf.output,hwf.wf.size,fun k hk=>hwf.wf.blk k hk (fun hw=>by have:W.heap.size<=k:=hw;omega)⟩,fun p hp=> ?_⟩
  have h1:=htm p.1;rw[hq p hp]at h1
  cases h1 with
  |v h2=>
   refine h2.mono fun b o v hv=> ?_
   unfold ff
   by_cases hb:b<W.heap.size
   ·rw[if_pos hb];have e:C.rd b=rd b:=hrd' b (.inl hb);rw[e]at hv;exact hv
   ·rw[if_neg hb];exact hh.rdw _ _ _ hv
 simp only[comp,Gw]at hc
 split at hc
 ·rename_i sops hsops;obtain⟨hlen,hok⟩:=xb hsops;simp only[if_true]at hc
  split at hc
  ·rename_i hcond;simp only[aY]at hcond;simp only[ae]at hc;subst hc;simp only[aw]at h;obtain⟨s2,tr,h1,h2,h3,h4⟩:=CM (sops:=sops) sops 0 _ [] _ (fun j=>by simp) h
   rw[<-Ci]at h1;have hl:=Df h1;rw[iN]at hl;have hind:=xz hl hcond.2 h3;rw[hlen]at h1 hind;refine wpIn_region_any hm ?_;refine J7 (R:=fun a' W'=>a'.defers=[]/\a'.tmps.size=a.tmps.size/\Below W.heap.size W W'/\ ∀p∈out,PR (ff rd W W') p.2 (a'.tmps.getD p.1 undef)) _ _ _ _ (fun _ _=>rfl) ?_
   have hrep: ∀k,k<ops.size->(Array.replicate ops.size false).getD k true=false:=by
    intro k hk;simp[hO,hk]
   refine Av (E:=E) (fun b hb=>hb) hlen hok hcond.1 (nx:=1000) (al:=fun n=>n<1000) (fun k _ h=>by omega) ?_ ops.size _ (List.range ops.size) _ _ tr a _ (by simp) List.pairwise_lt_range ?_ (by simp) ?_ h1 hind ?_
   ·intro a' w' hsr;refine⟨rfl,hend {s2 with nx:=1000+sops.length} a' w' h4.2 ?_⟩
    rw[hlen];exact lU.region hs0.2 hsr
   ·intro k;rw[cM];exact⟨fun h=>⟨h,hrep k h⟩,fun h=>h.1⟩
   ·intro j o ho hl;have hj:j<ops.size:=(jj.1 ho).1;rw[hrep j hj]at hl;cases hl
   ·refine hs0.1.drew.kj fun n=>⟨.inl,?_⟩
    rintro(h|⟨k,h1,h2,-⟩)
    ·exact h
    ·rw[hrep k h1]at h2;cases h2
  ·cases hc
 ·cases hc
end Go.Dom
