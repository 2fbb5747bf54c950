/- Part of the proof. -/
import Derived.Test.YtipbhapfacgabaaGreatDoorUH17
import Derived.Test.YtipbhapfacgabaaGreatDoorChecked
import Derived.KernelRfl
import Derived.Lib.Bytealg
import Derived.Lib.Mul64
import Derived.Lib.ItoaNum
set_option linter.all false
set_option maxRecDepth 100000
namespace Go.Dom
open Go.RowKit
section
variable (P:Program) [ct P] (I:TypeId->Option TypeInfo)
def ku (t:TypeId):Option TypeDesc:=
 match I t with
 |some {desc:= .named _ u, .. }=>(I u).map (·.desc)
 |some i=>some i.desc
 |none=>none
def BG (t:TypeId):Option (List AV):=do
 let i<-I t
 let z<-i.zero
 if z.cells.size=i.size then aU Ql z.cells.toList else none
def Wk (t:TypeId):Option PV:=do
 let i<-I t
 let v<-i.zero
 match Ql v with
 |some (.v z)=>some z
 | _=>none
def Ck (t:TypeId):Option Bool:=
 match ku I t with
 |some (.struct _)=>some true
 |some (.array _ _)=>some true
 |some _=>some false
 |none=>none
def jx (t:TypeId):Option Nat:=(I t).map (·.size)
def Rj (fs:Array Field) (ps:Array (Nat×Operand)):Option (List (Nat×Nat×SX)):=
 aU (fun p=>do
  let f<-fs[p.1]?
  let z<-jx I f.type
  let x<-sx P p.2
  some (f.offset,z,x)) ps.toList
def JQ (o:Oper) (c:Call):Option SO:=
 match c.callee with
 | .value f=>do
  let f<-sx P f
  let args<-aU (sx P) c.args.toList
  some (.call f args)
 | .builtin b=>
  match b,c.args.toList,c.argTypes.toList with
  | .len,[x],[t]=>match ku I t with
   |some .string=>do some (.lenS (<-sx P x))
   |some (.slice _)=>do some (.len (<-sx P x))
   |some (.array n _)=>some (.lenA n)
   | _=>none
  | .append,[x,y],[t,u]=>match ku I t,ku I u with
   |some (.slice e),some (.slice e')=>do
    let i<-I e
    let z<-i.zero
    if z.cells.size=i.size/\0<i.size/\e=e'/\t=u then some (.app e i.size i.bytes (<-sx P x) (<-sx P y))else none
   |some (.slice e),some .string=>do
    let i<-I e
    let z<-i.zero
    if z.cells.size=i.size/\i.size=1 then some (.app e i.size i.bytes (<-sx P x) (<-sx P y))else none
   | _,_=>none
  | .copy,[x,y],[t,u]=>match ku I t,ku I u with
   |some (.slice e),some (.slice _)=>do some (.cpy (<-jx I e) (<-sx P x) (<-sx P y))
   |some (.slice e),some .string=>do
    if(<-jx I e)=1 then some (.cpy 1 (<-sx P x) (<-sx P y))else none
   | _,_=>none
  | .clear,[x],[t]=>match ku I t with
   |some (.slice e)=>do some (.clr (<-BG I e) (<-sx P x))
   | _=>none
  | .max,[x,y],_=>do some (.mm true (<-sx P x) (<-sx P y))
  | .min,[x,y],_=>do some (.mm false (<-sx P x) (<-sx P y))
  | .unsafeSliceData,[x],_=>do some (.sld (<-sx P x))
  | .unsafeString,[x,y],[pt,_]=>match ku I pt with
   |some (.pointer e)=>do if(jx I e).getD 0=1 then some (.ust e (<-sx P x) (<-sx P y))else none
   | _=>none
  | _,_,_=>none
 | .invoke _ _=>none
def Qk (o:Oper):Option SO:=
 match o.op with
 | .move x=>do some (.mov (<-sx P x))
 | .assign x=>do some (.mov (<-sx P x))
 | .pick c a b=>do some (.pick (<-sx P c) (<-sx P a) (<-sx P b))
 | .alloc t=>do some (.alloc t (<-BG I t))
 | .box _ x=>do some (.box (<-sx P x))
 | .build t ps=>match ku I t with
  |some (.struct fs)=>do
   if fs.toList.all (fun f=>(jx I f.type).isSome)then some (.build (<-BG I t) (<-Rj P I fs ps))else none
  |some (.array _ e)=>do
   let z<-jx I e
   some (.build (<-BG I t) (<-GQ P z ps))
  | _=>none
 | .buildSlice t n ps=>match ku I t with
  |some (.slice e)=>do
   let z<-jx I e
   let ze<-BG I e
   let xs<-aU (sx P) (ps.toList.map (·.2))
   if ps.toList.map (·.1)=List.range n/\n*z<=16777216/\0<z then some (.bsl (isW ze) z xs)else none
  | _=>none
 | .load t x=>do
  let ag<-Ck I t
  let z<-jx I t
  if ag||z==1 then some (.ld ag z (<-sx P x))else none
 | .store t a x=>do
  let z<-jx I t
  some (.st z (<-sx P a) (<-sx P x))
 | .binOp op t x y _=>match ku I t with
  |some (.int _)=>do some (.bin op (<-sx P x) (<-sx P y))
  |some .string=>do some (.bin op (<-sx P x) (<-sx P y))
  |some .bool=>match op with
   | .eql=>do some (.beq false (<-sx P x) (<-sx P y))
   | .neq=>do some (.beq true (<-sx P x) (<-sx P y))
   | _=>none
  |some (.pointer te)=>if(I te).isSome then(match op with
   | .eql=>do some (.peq false (<-sx P x) (<-sx P y))
   | .neq=>do some (.peq true (<-sx P x) (<-sx P y))
   | _=>none)else none
  |some (.struct _)=>match op,(ct.pl P).find? (·.1==t)with
   | .eql,some q=>do some (.ceq false q.2 (<-sx P x) (<-sx P y))
   | .neq,some q=>do some (.ceq true q.2 (<-sx P x) (<-sx P y))
   | _,_=>none
  |some (.slice _)=>match op,y with
   | .eql, .const (.slice none 0 0)=>do some (.snl false (<-sx P x))
   | .neq, .const (.slice none 0 0)=>do some (.snl true (<-sx P x))
   | _,_=>none
  | _=>none
 | .unOp op _ x=>do some (.un op (<-sx P x))
 | .convert s d x=>match ku I s,ku I d with
  |some (.int _),some (.int k)=>do some (.cvi k (<-sx P x))
  |some .string,some .string=>do some (.cvs (<-sx P x))
  |some (.slice e),some .string=>match ku I e with
   |some (.int .u8)=>do
    if(<-jx I e)=1 then some (.b2s (<-sx P x))else none
   | _=>none
  |some .string,some (.slice e)=>match ku I e with
   |some (.int .u8)=>do some (.s2b (<-sx P x))
   | _=>none
  |some (.pointer t),some .unsafePointer=>do
   if(<-jx I t)=0 then none else some (.cvp (fun _ _ _=>true) (<-sx P x))
  |some .unsafePointer,some (.pointer u)=>do
   if(<-jx I u)=0 then none else some (.cvp (fun e n o=>liesAt P P.depth e (n/P.cellsOf e) o u 1) (<-sx P x))
  | _,_=>none
 | .makeSlice t l c=>match ku I t with
  |some (.slice e)=>do
   let i<-I e
   let z<-BG I e
   if 0<i.size/\0<i.bytes then some (.mks z i.bytes (<-sx P l) (<-sx P c))else none
  | _=>none
 | .slice t x lo hi mx=>match ku I t with
  |some .string=>match mx with
   |none=>do some (.slS (<-sx P x) (<-zI P lo) (<-zI P hi))
   |some _=>none
  |some (.slice e)=>do some (.slL (<-jx I e) (<-sx P x) (<-zI P lo) (<-zI P hi) (<-zI P mx))
  |some (.array n e)=>do some (.slA n (<-jx I e) (<-sx P x) (<-zI P lo) (<-zI P hi) (<-zI P mx))
  | _=>none
 | .fieldAddr s x f=>match ku I s with
  |some (.struct fs)=>do
   let fl<-fs[f]?
   let z<-jx I fl.type
   if z=0 then none else some (.fad fl.offset (<-sx P x))
  | _=>none
 | .field s x f=>match ku I s with
  |some (.struct fs)=>do
   let fl<-fs[f]?
   let z<-jx I fl.type
   let ag<-Ck I fl.type
   if ag||z==1 then some (.fld ag fl.offset z (<-sx P x))else none
  | _=>none
 | .indexAddr t x i=>match ku I t with
  |some (.slice e)=>do some (.ixs (<-jx I e) (<-sx P x) (<-sx P i))
  |some (.array n e)=>do some (.ixa n (<-jx I e) (<-sx P x) (<-sx P i))
  | _=>none
 | .index t x i=>match ku I t with
  |some .string=>do some (.ixS (<-sx P x) (<-sx P i))
  |some (.array n e)=>do
   let z<-jx I e
   let ag<-Ck I e
   if ag||z==1 then some (.ixV ag n z (<-sx P x) (<-sx P i))else none
  | _=>none
 | .extract x k=>do some (.ext (<-sx P x) k)
 | .call c=>JQ P I o c
 | .makeFunc f a c=>do some (.mkf f (<-aU (sx P) a.toList) (<-aU (sx P) c.toList))
 | .nilCheck x=>do some (.nck (<-sx P x))
 | .makeInterface t x=>match ku I t with
  |some (.int _)=>do some (.mki t (<-sx P x))
  |some .string=>do some (.mki t (<-sx P x))
  | _=>none
 | .makeMap t r=>match r,ku I t with
  |none,some (.map _ _)=>some .mkm
  |some (.const (.int _ _)),some (.map _ _)=>some .mkm
  | _,_=>none
 | .lookup t x k c=>match ku I t with
  |some (.map kt et)=>do
   let z<-Wk I et
   let x<-sx P x
   let k<-sx P k
   match ku I kt with
   |some (.int _)=>some (.mget c false z x k)
   |some .string=>some (.mget c true z x k)
   | _=>none
  | _=>none
 | .mapUpdate t m k v=>match ku I t with
  |some (.map kt _)=>do
   let m<-sx P m
   let k<-sx P k
   let v<-sx P v
   match ku I kt with
   |some (.int _)=>some (.mset false m k v)
   |some .string=>some (.mset true m k v)
   | _=>none
  | _=>none
 | .panic _=>some .stop
 | _=>none
def Uu (nt:Nat) (ops:Array Oper) (o:Oper):Option jV:=
 match Qk P I o,HS ops nt o.guard with
 |some so,some g=>if Zt nt o.dst then some ⟨o.dst,so,g⟩else none
 | _,_=>none
def Mz (nt:Nat) (ops:Array Oper) (draw:Bool):Option SC:=
 match aU (Uu P I nt ops) ops.toList with
 |some sops=>if draw then(if GH ops (Region.before ops).toList&&stat (Region.before ops).toList sops then some (.reg (some (Region.before ops).toList) sops)else none)else some (.reg none sops)
 |none=>none
def x8:List ResultVar->Option (List pM):=
 aU fun
  | .tmp t=>some (.t t)
  | .cell a ty=>match Ck I ty,jx I ty with
   |some ag,some z=>if ag||z==1 then some (.c a ag z)else none
   | _,_=>none
end
def j3 (P:Program) [ct P] (I:TypeId->Option TypeInfo) (nt:Nat):Code->Option SC
 | .skip=>some .skip
 | .region _ ops draw=>Mz P I nt ops draw
 | .seq a b=>match j3 P I nt a,j3 P I nt b with
  |some a,some b=>some (.seq a b)
  | _,_=>none
 | .cond c a b=>match sx P c,j3 P I nt a,j3 P I nt b with
  |some c,some a,some b=>some (.cond c a b)
  | _,_,_=>none
 | .block id a=>match j3 P I nt a with
  |some a=>some (.blk id a)
  |none=>none
 | .loop a=>match j3 P I nt a with
  |some a=>some (.loop a)
  |none=>none
 | .rangeFunc g ps a b=>match sx P g,j3 P I nt a,j3 P I nt b with
  |some g,some a,some b=>if a.ek&&b.ek&&ps.toList.all (fun p=>Nat.blt p nt)then some (.rng g ps.toList a b)else none
  | _,_,_=>none
 | .exit id=>some (.exit id)
 | .ret=>some .ret
 | .refuse _=>some .stop
 | .scope a=>j3 P I nt a
 | .label _=>some .skip
 | _=>none
section
variable {P:Program} [ct P]
theorem Mx:j3 P P.info?=comp P:=by
 funext nt c
 have h:Mz P P.info?=HU P:=rfl
 induction c<;>simp_all[j3,comp]<;>rfl
theorem Ei:x8 P.info?=gT P:=rfl
end
theorem cb {β:Type} {f:Nat->Option β} {a n:Nat} {l:List (Option β)} (h:(List.range' a n).map f=l) {t:Nat} (h1:a<=t) (h2:t<a+n):l.getD (t-a) none=f t:=by
 subst h;have:t-a<n:=by omega
 simp[bR,this,show a+(t-a)=t by omega]
end Go.Dom
namespace Go.Dom
open Go.RowKit
class Br (g:Prop) (c d t f:outParam Prop):Prop where
 go:(c->t)->(d->f)->g
section
variable {P:Program} [ct P] {Q:AX->AS->Prop}
instance brP {p:Prop} {κ:BK}:Br (PX P Q p κ) p (¬p) (BX P Q true κ) (BX P Q false κ):=⟨pX⟩
instance brB {c:Bool} {κ:BK}:Br (BX P Q c κ) (c=true) (c=false) (BX P Q true κ) (BX P Q false κ):=⟨bX⟩
end
variable {A0 A1 A2 A3 A4 A5 A6 A7 X Y p q:Prop}
theorem xX {g c d t f:Prop} [b:Br g c d t f] (h1:c->t) (h2:d->f):g:=b.go h1 h2
theorem oO (h:p:=by omega):p:=h
theorem oC (h:p:=by decide):p:=h
theorem oE (h:q) (e:p=q:=by first|(simp(disch:=first|assumption|omega) only[bP,bW]<;>rfl)|exact propext ⟨And.right,fun x=>And.intro oD x⟩|((fail_if_success apply xX);exact propext ⟨fun _=>trivial,fun _=>oD⟩)):p:=e▸h
theorem oT:True:=trivial
theorem lG {t t':List (Nat×AV)} {h h':List (Nat×aC)} {n n':Nat} (a:q) (hn:n<=n':=by first|decide|omega) (e:(dG t' n t/\dF h' n h)=q:=by simp[dG,dF,aO,hget,AV.bd,AV.bd.bdL,u8,ar,au,az]<;>rfl):(AS.mk t h n).Le ⟨t',h',n'⟩:=AS.Le.of hn (e▸a:dG t' n t/\dF h' n h).1 (e▸a:dG t' n t/\dF h' n h).2
structure Wr (Y:Prop):Prop where
 go:Y
theorem lI {P:Program} [ct P] {Q:AX->AS->Prop} {a:SC} {K:List Fr} {N:Nat} {s:AS} (h:xG P Q a K N s):xG P Q a K N s:=h
theorem aN {A B:Prop} (a:A) (b:B):A/\B:=⟨a,b⟩
theorem z0 (h:p:=by
 repeat' first|simp only[go_sem,seval]|refine oE ?_|apply xX<;>intro hc
 all_goals rfl):p:=h
theorem z1 (a0:A0) (h:A0->p:=by
 intro K0;repeat' first|simp only[go_sem,seval]|refine cP K0 ?_|refine oE ?_|apply xX<;>intro hc
 all_goals rfl):p:=h a0
theorem z2 (a0:A0) (a1:A1) (h:A0->A1->p:=by
 intro K0 K1;repeat' first|simp only[go_sem,seval]|refine cP K0 ?_|refine cP K1 ?_|refine oE ?_|apply xX<;>intro hc
 all_goals rfl):p:=h a0 a1
theorem z3 (a0:A0) (a1:A1) (a2:A2) (h:A0->A1->A2->p:=by
 intro K0 K1 K2;repeat' first|simp only[go_sem,seval]|refine cP K0 ?_|refine cP K1 ?_|refine cP K2 ?_|refine oE ?_|apply xX<;>intro hc
 all_goals rfl):p:=h a0 a1 a2
theorem z4 (a0:A0) (a1:A1) (a2:A2) (a3:A3) (h:A0->A1->A2->A3->p:=by
 intro K0 K1 K2 K3;repeat' first|simp only[go_sem,seval]|refine cP K0 ?_|refine cP K1 ?_|refine cP K2 ?_|refine cP K3 ?_|refine oE ?_|apply xX<;>intro hc
 all_goals rfl):p:=h a0 a1 a2 a3
theorem z7 (a0:A0) (a1:A1) (a2:A2) (a3:A3) (a4:A4) (a5:A5) (a6:A6) (h:A0->A1->A2->A3->A4->A5->A6->p:=by
 intro K0 K1 K2 K3 K4 K5 K6;repeat' first|simp only[go_sem,seval]|refine cP K0 ?_|refine cP K1 ?_|refine cP K2 ?_|refine cP K3 ?_|refine cP K4 ?_|refine cP K5 ?_|refine cP K6 ?_|refine oE ?_|apply xX<;>intro hc
 all_goals rfl):p:=h a0 a1 a2 a3 a4 a5 a6
theorem z8 (a0:A0) (a1:A1) (a2:A2) (a3:A3) (a4:A4) (a5:A5) (a6:A6) (a7:A7) (h:A0->A1->A2->A3->A4->A5->A6->A7->p:=by
 intro K0 K1 K2 K3 K4 K5 K6 K7;repeat' first|simp only[go_sem,seval]|refine cP K0 ?_|refine cP K1 ?_|refine cP K2 ?_|refine cP K3 ?_|refine cP K4 ?_|refine cP K5 ?_|refine cP K6 ?_|refine cP K7 ?_|refine oE ?_|apply xX<;>intro hc
 all_goals rfl):p:=h a0 a1 a2 a3 a4 a5 a6 a7
theorem Tg (h:p:=by
 repeat' first|simp only[go_sem,seval]|refine aj ?_|refine oE ?_|apply xX<;>intro hc
 all_goals rfl):p:=h
theorem Y2 (a0:A0) (h:A0->p:=by
 intro K0;repeat' first|simp only[go_sem,seval]|refine cP K0 ?_|refine aj ?_|refine oE ?_|apply xX<;>intro hc
 all_goals rfl):p:=h a0
theorem Wn (a0:A0) (a1:A1) (h:A0->A1->p:=by
 intro K0 K1;repeat' first|simp only[go_sem,seval]|refine cP K0 ?_|refine cP K1 ?_|refine aj ?_|refine oE ?_|apply xX<;>intro hc
 all_goals rfl):p:=h a0 a1
theorem zu3 (a0:A0) (a1:A1) (a2:A2) (h:A0->A1->A2->p:=by
 intro K0 K1 K2;repeat' first|simp only[go_sem,seval]|refine cP K0 ?_|refine cP K1 ?_|refine cP K2 ?_|refine aj ?_|refine oE ?_|apply xX<;>intro hc
 all_goals rfl):p:=h a0 a1 a2
theorem zu4 (a0:A0) (a1:A1) (a2:A2) (a3:A3) (h:A0->A1->A2->A3->p:=by
 intro K0 K1 K2 K3;repeat' first|simp only[go_sem,seval]|refine cP K0 ?_|refine cP K1 ?_|refine cP K2 ?_|refine cP K3 ?_|refine aj ?_|refine oE ?_|apply xX<;>intro hc
 all_goals rfl):p:=h a0 a1 a2 a3
theorem zu5 (a0:A0) (a1:A1) (a2:A2) (a3:A3) (a4:A4) (h:A0->A1->A2->A3->A4->p:=by
 intro K0 K1 K2 K3 K4;repeat' first|simp only[go_sem,seval]|refine cP K0 ?_|refine cP K1 ?_|refine cP K2 ?_|refine cP K3 ?_|refine cP K4 ?_|refine aj ?_|refine oE ?_|apply xX<;>intro hc
 all_goals rfl):p:=h a0 a1 a2 a3 a4
theorem zg4 (y:Y) (a0:A0) (a1:A1) (a2:A2) (a3:A3) (h:Y->A0->A1->A2->A3->p:=by
 intro KY K0 K1 K2 K3;repeat' first|simp only[go_sem,seval]|refine cP K0 ?_|refine cP K1 ?_|refine cP K2 ?_|refine cP K3 ?_|refine oE ?_|exact KY _ lE|apply xX<;>intro hc
 all_goals rfl):p:=h y a0 a1 a2 a3
theorem zs0 (h:p:=by
 repeat' first|simp only[go_sem,seval]|refine oE ?_|apply xX<;>intro hc
 all_goals simp_all):p:=h
theorem Sp (a0:A0) (h:A0->p:=by
 intro K0;repeat' first|simp only[go_sem,seval]|refine cP K0 ?_|refine oE ?_|apply xX<;>intro hc
 all_goals (clear K0;simp_all)):p:=h a0
theorem O5 (a0:A0) (a1:A1) (h:A0->A1->p:=by
 intro K0 K1;repeat' first|simp only[go_sem,seval]|refine cP K0 ?_|refine cP K1 ?_|refine oE ?_|apply xX<;>intro hc
 all_goals (clear K0 K1;simp_all)):p:=h a0 a1
theorem YZ (a0:A0) (a1:A1) (a2:A2) (a3:A3) (h:A0->A1->A2->A3->p:=by
 intro K0 K1 K2 K3;repeat' first|simp only[go_sem,seval]|refine cP K0 ?_|refine cP K1 ?_|refine cP K2 ?_|refine cP K3 ?_|refine oE ?_|apply xX<;>intro hc
 all_goals (clear K0 K1 K2 K3;simp_all)):p:=h a0 a1 a2 a3
theorem zs7 (a0:A0) (a1:A1) (a2:A2) (a3:A3) (a4:A4) (a5:A5) (a6:A6) (h:A0->A1->A2->A3->A4->A5->A6->p:=by
 intro K0 K1 K2 K3 K4 K5 K6;repeat' first|simp only[go_sem,seval]|refine cP K0 ?_|refine cP K1 ?_|refine cP K2 ?_|refine cP K3 ?_|refine cP K4 ?_|refine cP K5 ?_|refine cP K6 ?_|refine oE ?_|apply xX<;>intro hc
 all_goals (clear K0 K1 K2 K3 K4 K5 K6;simp_all)):p:=h a0 a1 a2 a3 a4 a5 a6
theorem Y1 (a0:A0) (a1:A1) (a2:A2) (h:A0->A1->A2->p:=by
 intro K0 K1 K2;repeat' first|simp only[go_sem,seval]|refine cP K0 ?_|refine cP K1 ?_|refine cP K2 ?_|refine aj ?_|refine oE ?_|apply xX<;>intro hc
 all_goals (clear K0 K1 K2;simp_all)):p:=h a0 a1 a2
theorem Hw (y:Y) (h:Wr Y->p:=by
 intro KY;repeat' first|simp only[go_sem,seval]|exact lI KY.1|refine oE ?_|apply xX<;>intro hc
 all_goals rfl):p:=h ⟨y⟩
theorem zl1 (a0:A0) (y:Y) (h:Wr Y->A0->p:=by
 intro KY K0;repeat' first|simp only[go_sem,seval]|refine cP K0 ?_|exact lI KY.1|refine oE ?_|apply xX<;>intro hc
 all_goals rfl):p:=h ⟨y⟩ a0
theorem zl2 (a0:A0) (a1:A1) (y:Y) (h:Wr Y->A0->A1->p:=by
 intro KY K0 K1;repeat' first|simp only[go_sem,seval]|refine cP K0 ?_|refine cP K1 ?_|exact lI KY.1|refine oE ?_|apply xX<;>intro hc
 all_goals rfl):p:=h ⟨y⟩ a0 a1
theorem xy (y:Y) (h:Wr Y->p:=by
 intro KY;repeat' first|simp only[go_sem,seval]|refine oE ?_|apply xX<;>intro hc
 exact KY.1):p:=h ⟨y⟩
theorem Za (a0:A0) (y:Y) (h:Wr Y->A0->p:=by
 intro KY K0;repeat' first|simp only[go_sem,seval]|refine cP K0 ?_|refine oE ?_|apply xX<;>intro hc
 exact KY.1):p:=h ⟨y⟩ a0
theorem oo (x:X) (h:(True->X)->p:=by
 intro KX;repeat' first|simp only[go_sem,seval,KX trivial]|refine oE ?_|apply xX<;>intro hc
 all_goals rfl):p:=h (fun _=>x)
theorem ot (x:X) (a0:A0) (h:(True->X)->A0->p:=by
 intro KX K0;repeat' first|simp only[go_sem,seval,KX trivial]|refine cP K0 ?_|refine oE ?_|apply xX<;>intro hc
 all_goals rfl):p:=h (fun _=>x) a0
theorem wq (x:X) (a0:A0) (a1:A1) (h:(True->X)->A0->A1->p:=by
 intro KX K0 K1;repeat' first|simp only[go_sem,seval,KX trivial]|refine cP K0 ?_|refine cP K1 ?_|refine oE ?_|apply xX<;>intro hc
 all_goals rfl):p:=h (fun _=>x) a0 a1
theorem zW (x:X) (a0:A0) (a1:A1) (a2:A2) (a3:A3) (h:(True->X)->A0->A1->A2->A3->p:=by
 intro KX K0 K1 K2 K3;repeat' first|simp only[go_sem,seval,KX trivial]|refine cP K0 ?_|refine cP K1 ?_|refine cP K2 ?_|refine cP K3 ?_|refine oE ?_|apply xX<;>intro hc
 all_goals rfl):p:=h (fun _=>x) a0 a1 a2 a3
theorem Wy (x:X) (a0:A0) (a1:A1) (a2:A2) (a3:A3) (a4:A4) (a5:A5) (a6:A6) (h:(True->X)->A0->A1->A2->A3->A4->A5->A6->p:=by
 intro KX K0 K1 K2 K3 K4 K5 K6;repeat' first|simp only[go_sem,seval,KX trivial]|refine cP K0 ?_|refine cP K1 ?_|refine cP K2 ?_|refine cP K3 ?_|refine cP K4 ?_|refine cP K5 ?_|refine cP K6 ?_|refine oE ?_|apply xX<;>intro hc
 all_goals rfl):p:=h (fun _=>x) a0 a1 a2 a3 a4 a5 a6
theorem O3 {A8 A9 A10 A11:Prop} (x:X) (a0:A0) (a1:A1) (a2:A2) (a3:A3) (a4:A4) (a5:A5) (a6:A6) (a7:A7) (a8:A8) (a9:A9) (a10:A10) (a11:A11) (h:(True->X)->A0->A1->A2->A3->A4->A5->A6->A7->A8->A9->A10->A11->p:=by
 intro KX K0 K1 K2 K3 K4 K5 K6 K7 K8 K9 K10 K11;repeat' first|simp only[go_sem,seval,KX trivial]|refine cP K0 ?_|refine cP K1 ?_|refine cP K2 ?_|refine cP K3 ?_|refine cP K4 ?_|refine cP K5 ?_|refine cP K6 ?_|refine cP K7 ?_|refine cP K8 ?_|refine cP K9 ?_|refine cP K10 ?_|refine cP K11 ?_|refine oE ?_|apply xX<;>intro hc
 all_goals rfl):p:=h (fun _=>x) a0 a1 a2 a3 a4 a5 a6 a7 a8 a9 a10 a11
theorem aae (x:X) (h:(True->X)->p:=by
 intro KX;repeat' first|simp only[go_sem,seval,KX trivial]|refine aj ?_|refine oE ?_|apply xX<;>intro hc
 all_goals rfl):p:=h (fun _=>x)
theorem YY (x:X) (a0:A0) (a1:A1) (a2:A2) (a3:A3) (h:(True->X)->A0->A1->A2->A3->p:=by
 intro KX K0 K1 K2 K3;repeat' first|simp only[go_sem,seval,KX trivial]|refine cP K0 ?_|refine cP K1 ?_|refine cP K2 ?_|refine cP K3 ?_|refine aj ?_|refine oE ?_|apply xX<;>intro hc
 all_goals rfl):p:=h (fun _=>x) a0 a1 a2 a3
theorem ua (x:X) (y:Y) (h:(True->X)->Y->p:=by
 intro KX KY;repeat' first|simp only[go_sem,seval,KX trivial]|refine oE ?_|exact KY _ lE|apply xX<;>intro hc
 all_goals rfl):p:=h (fun _=>x) y
theorem qe (x:X) (y:Y) (a0:A0) (h:(True->X)->Y->A0->p:=by
 intro KX KY K0;repeat' first|simp only[go_sem,seval,KX trivial]|refine cP K0 ?_|refine oE ?_|exact KY _ lE|apply xX<;>intro hc
 all_goals rfl):p:=h (fun _=>x) y a0
theorem DM (x:X) (y:Y) (a0:A0) (a1:A1) (h:(True->X)->Y->A0->A1->p:=by
 intro KX KY K0 K1;repeat' first|simp only[go_sem,seval,KX trivial]|refine cP K0 ?_|refine cP K1 ?_|refine oE ?_|exact KY _ lE|apply xX<;>intro hc
 all_goals rfl):p:=h (fun _=>x) y a0 a1
theorem Wl (x:X) (a0:A0) (h:(True->X)->A0->p:=by
 intro KX K0;repeat' first|simp only[go_sem,seval,KX trivial]|refine cP K0 ?_|refine oE ?_|apply xX<;>intro hc
 all_goals (clear KX K0;simp_all)):p:=h (fun _=>x) a0
theorem Sn (x:X) (a0:A0) (a1:A1) (h:(True->X)->A0->A1->p:=by
 intro KX K0 K1;repeat' first|simp only[go_sem,seval,KX trivial]|refine cP K0 ?_|refine cP K1 ?_|refine oE ?_|apply xX<;>intro hc
 all_goals (clear KX K0 K1;simp_all)):p:=h (fun _=>x) a0 a1
theorem Wm (x:X) (a0:A0) (a1:A1) (a2:A2) (a3:A3) (h:(True->X)->A0->A1->A2->A3->p:=by
 intro KX K0 K1 K2 K3;repeat' first|simp only[go_sem,seval,KX trivial]|refine cP K0 ?_|refine cP K1 ?_|refine cP K2 ?_|refine cP K3 ?_|refine oE ?_|apply xX<;>intro hc
 all_goals (clear KX K0 K1 K2 K3;simp_all)):p:=h (fun _=>x) a0 a1 a2 a3
theorem O4 (x:X) (a0:A0) (a1:A1) (a2:A2) (a3:A3) (a4:A4) (a5:A5) (a6:A6) (h:(True->X)->A0->A1->A2->A3->A4->A5->A6->p:=by
 intro KX K0 K1 K2 K3 K4 K5 K6;repeat' first|simp only[go_sem,seval,KX trivial]|refine cP K0 ?_|refine cP K1 ?_|refine cP K2 ?_|refine cP K3 ?_|refine cP K4 ?_|refine cP K5 ?_|refine cP K6 ?_|refine oE ?_|apply xX<;>intro hc
 all_goals (clear KX K0 K1 K2 K3 K4 K5 K6;simp_all)):p:=h (fun _=>x) a0 a1 a2 a3 a4 a5 a6
theorem fq (x:X) (y:Y) (h:(True->X)->Wr Y->p:=by
 intro KX KY;repeat' first|simp only[go_sem,seval,KX trivial]|exact lI KY.1|refine oE ?_|apply xX<;>intro hc
 all_goals rfl):p:=h (fun _=>x) ⟨y⟩
theorem Hx (x:X) (a0:A0) (y:Y) (h:(True->X)->Wr Y->A0->p:=by
 intro KX KY K0;repeat' first|simp only[go_sem,seval,KX trivial]|refine cP K0 ?_|exact lI KY.1|refine oE ?_|apply xX<;>intro hc
 all_goals rfl):p:=h (fun _=>x) ⟨y⟩ a0
theorem Sm (x:X) (a0:A0) (a1:A1) (y:Y) (h:(True->X)->Wr Y->A0->A1->p:=by
 intro KX KY K0 K1;repeat' first|simp only[go_sem,seval,KX trivial]|refine cP K0 ?_|refine cP K1 ?_|exact lI KY.1|refine oE ?_|apply xX<;>intro hc
 all_goals rfl):p:=h (fun _=>x) ⟨y⟩ a0 a1
theorem rT (x:X) (a0:A0) (a1:A1) (a2:A2) (a3:A3) (y:Y) (h:(True->X)->Wr Y->A0->A1->A2->A3->p:=by
 intro KX KY K0 K1 K2 K3;repeat' first|simp only[go_sem,seval,KX trivial]|refine cP K0 ?_|refine cP K1 ?_|refine cP K2 ?_|refine cP K3 ?_|exact lI KY.1|refine oE ?_|apply xX<;>intro hc
 all_goals rfl):p:=h (fun _=>x) ⟨y⟩ a0 a1 a2 a3
theorem Lr (x:X) (a0:A0) (a1:A1) (a2:A2) (a3:A3) (a4:A4) (a5:A5) (a6:A6) (y:Y) (h:(True->X)->Wr Y->A0->A1->A2->A3->A4->A5->A6->p:=by
 intro KX KY K0 K1 K2 K3 K4 K5 K6;repeat' first|simp only[go_sem,seval,KX trivial]|refine cP K0 ?_|refine cP K1 ?_|refine cP K2 ?_|refine cP K3 ?_|refine cP K4 ?_|refine cP K5 ?_|refine cP K6 ?_|exact lI KY.1|refine oE ?_|apply xX<;>intro hc
 all_goals rfl):p:=h (fun _=>x) ⟨y⟩ a0 a1 a2 a3 a4 a5 a6
theorem eJ (x:X) (y:Y) (h:(True->X)->Wr Y->p:=by
 intro KX KY;repeat' first|simp only[go_sem,seval,KX trivial]|refine oE ?_|apply xX<;>intro hc
 exact KY.1):p:=h (fun _=>x) ⟨y⟩
theorem qN (x:X) (a0:A0) (y:Y) (h:(True->X)->Wr Y->A0->p:=by
 intro KX KY K0;repeat' first|simp only[go_sem,seval,KX trivial]|refine cP K0 ?_|refine oE ?_|apply xX<;>intro hc
 exact KY.1):p:=h (fun _=>x) ⟨y⟩ a0
theorem zS (x:X) (a0:A0) (a1:A1) (y:Y) (h:(True->X)->Wr Y->A0->A1->p:=by
 intro KX KY K0 K1;repeat' first|simp only[go_sem,seval,KX trivial]|refine cP K0 ?_|refine cP K1 ?_|refine oE ?_|apply xX<;>intro hc
 exact KY.1):p:=h (fun _=>x) ⟨y⟩ a0 a1
theorem zT (x:X) (a0:A0) (a1:A1) (a2:A2) (a3:A3) (y:Y) (h:(True->X)->Wr Y->A0->A1->A2->A3->p:=by
 intro KX KY K0 K1 K2 K3;repeat' first|simp only[go_sem,seval,KX trivial]|refine cP K0 ?_|refine cP K1 ?_|refine cP K2 ?_|refine cP K3 ?_|refine oE ?_|apply xX<;>intro hc
 exact KY.1):p:=h (fun _=>x) ⟨y⟩ a0 a1 a2 a3
theorem aaf (x:X) (a0:A0) (a1:A1) (a2:A2) (a3:A3) (a4:A4) (a5:A5) (a6:A6) (y:Y) (h:(True->X)->Wr Y->A0->A1->A2->A3->A4->A5->A6->p:=by
 intro KX KY K0 K1 K2 K3 K4 K5 K6;repeat' first|simp only[go_sem,seval,KX trivial]|refine cP K0 ?_|refine cP K1 ?_|refine cP K2 ?_|refine cP K3 ?_|refine cP K4 ?_|refine cP K5 ?_|refine cP K6 ?_|refine oE ?_|apply xX<;>intro hc
 exact KY.1):p:=h (fun _=>x) ⟨y⟩ a0 a1 a2 a3 a4 a5 a6
end Go.Dom
namespace Go.Proofs.Tryz
open Go Go.Dom
variable {x:Nat}
theorem mixed:prog.follows .mixedOrders=true:=by kernel_rfl
def nc:List Int:=[0,1,28,2,29,14,24,3,30,22,20,15,25,17,4,8,31,27,13,23,21,19,16,7,26,12,18,6,11,5,10,9]
def nf:List Int:=[0,1,56,2,57,49,28,3,61,58,42,50,38,29,17,4,62,47,59,36,45,43,51,22,53,39,33,30,24,18,12,5,63,55,48,27,60,41,37,16,46,35,44,21,52,32,23,11,54,26,40,15,34,20,31,10,25,14,19,9,13,8,7,6]
def pF:List Int:=[1,10,100,1000,10000,100000,1000000,10000000,100000000,1000000000,10000000000,100000000000,1000000000000,10000000000000,100000000000000,1000000000000000,10000000000000000,100000000000000000,1000000000000000000,10000000000000000000]
instance tabs:ct prog:=⟨[(5,nc.map fun n=>(.u8,n)),(1,nf.map fun n=>(.u8,n)),(4,pF.map fun n=>(.u64,n))],[(94,[0,1]),(71,[1,1,1]),(54,[1,1])],by
 intro q hq;simp only[bV,iu,or_false]at hq;rcases hq with rfl|rfl|rfl<;>kernel_rfl⟩
noncomputable def ty0:{l:List (Option TypeInfo)//(List.range' 0 16).map prog.info?=l}:=⟨_,by conv=>lhs;reduce⟩
noncomputable def ty1:{l:List (Option TypeInfo)//(List.range' 16 16).map prog.info?=l}:=⟨_,by conv=>lhs;reduce⟩
noncomputable def ty2:{l:List (Option TypeInfo)//(List.range' 32 16).map prog.info?=l}:=⟨_,by conv=>lhs;reduce⟩
noncomputable def ty3:{l:List (Option TypeInfo)//(List.range' 48 16).map prog.info?=l}:=⟨_,by conv=>lhs;reduce⟩
noncomputable def ty4:{l:List (Option TypeInfo)//(List.range' 64 16).map prog.info?=l}:=⟨_,by conv=>lhs;reduce⟩
noncomputable def ty5:{l:List (Option TypeInfo)//(List.range' 80 16).map prog.info?=l}:=⟨_,by conv=>lhs;reduce⟩
noncomputable def ty6:{l:List (Option TypeInfo)//(List.range' 96 16).map prog.info?=l}:=⟨_,by conv=>lhs;reduce⟩
noncomputable def ty7:{l:List (Option TypeInfo)//(List.range' 112 16).map prog.info?=l}:=⟨_,by conv=>lhs;reduce⟩
noncomputable def ty8:{l:List (Option TypeInfo)//(List.range' 128 16).map prog.info?=l}:=⟨_,by conv=>lhs;reduce⟩
noncomputable def ty9:{l:List (Option TypeInfo)//(List.range' 144 16).map prog.info?=l}:=⟨_,by conv=>lhs;reduce⟩
noncomputable def Yo:{l:List (Option TypeInfo)//(List.range' 160 16).map prog.info?=l}:=⟨_,by conv=>lhs;reduce⟩
noncomputable def Yp:{l:List (Option TypeInfo)//(List.range' 176 16).map prog.info?=l}:=⟨_,by conv=>lhs;reduce⟩
noncomputable def Yq:{l:List (Option TypeInfo)//(List.range' 192 16).map prog.info?=l}:=⟨_,by conv=>lhs;reduce⟩
noncomputable def Yr:{l:List (Option TypeInfo)//(List.range' 208 16).map prog.info?=l}:=⟨_,by conv=>lhs;reduce⟩
noncomputable def Ys:{l:List (Option TypeInfo)//(List.range' 224 16).map prog.info?=l}:=⟨_,by conv=>lhs;reduce⟩
noncomputable def Yt:{l:List (Option TypeInfo)//(List.range' 240 16).map prog.info?=l}:=⟨_,by conv=>lhs;reduce⟩
noncomputable def Yu:{l:List (Option TypeInfo)//(List.range' 256 16).map prog.info?=l}:=⟨_,by conv=>lhs;reduce⟩
noncomputable def Yv:{l:List (Option TypeInfo)//(List.range' 272 16).map prog.info?=l}:=⟨_,by conv=>lhs;reduce⟩
noncomputable def Yw:{l:List (Option TypeInfo)//(List.range' 288 16).map prog.info?=l}:=⟨_,by conv=>lhs;reduce⟩
noncomputable def Yx:{l:List (Option TypeInfo)//(List.range' 304 16).map prog.info?=l}:=⟨_,by conv=>lhs;reduce⟩
noncomputable def Yy:{l:List (Option TypeInfo)//(List.range' 320 16).map prog.info?=l}:=⟨_,by conv=>lhs;reduce⟩
noncomputable def Yz:{l:List (Option TypeInfo)//(List.range' 336 16).map prog.info?=l}:=⟨_,by conv=>lhs;reduce⟩
noncomputable def YA:{l:List (Option TypeInfo)//(List.range' 352 16).map prog.info?=l}:=⟨_,by conv=>lhs;reduce⟩
noncomputable def YB:{l:List (Option TypeInfo)//(List.range' 368 16).map prog.info?=l}:=⟨_,by conv=>lhs;reduce⟩
noncomputable def YC:{l:List (Option TypeInfo)//(List.range' 384 16).map prog.info?=l}:=⟨_,by conv=>lhs;reduce⟩
noncomputable def YD:{l:List (Option TypeInfo)//(List.range' 400 16).map prog.info?=l}:=⟨_,by conv=>lhs;reduce⟩
noncomputable def YE:{l:List (Option TypeInfo)//(List.range' 416 16).map prog.info?=l}:=⟨_,by conv=>lhs;reduce⟩
noncomputable def YF:{l:List (Option TypeInfo)//(List.range' 432 5).map prog.info?=l}:=⟨_,by conv=>lhs;reduce⟩
noncomputable def Wg (t:Nat):Option TypeInfo:=if t<437 then(if t<224 then if t<112 then if t<48 then if t<16 then ty0.1.getD (t-0) none else if t<32 then ty1.1.getD (t-16) none else ty2.1.getD (t-32) none else if t<80 then if t<64 then ty3.1.getD (t-48) none else ty4.1.getD (t-64) none else if t<96 then ty5.1.getD (t-80) none else ty6.1.getD (t-96) none else if t<160 then if t<128 then ty7.1.getD (t-112) none else if t<144 then ty8.1.getD (t-128) none else ty9.1.getD (t-144) none else if t<192 then if t<176 then Yo.1.getD (t-160) none else Yp.1.getD (t-176) none else if t<208 then Yq.1.getD (t-192) none else Yr.1.getD (t-208) none else if t<336 then if t<272 then if t<240 then Ys.1.getD (t-224) none else if t<256 then Yt.1.getD (t-240) none else Yu.1.getD (t-256) none else if t<304 then if t<288 then Yv.1.getD (t-272) none else Yw.1.getD (t-288) none else if t<320 then Yx.1.getD (t-304) none else Yy.1.getD (t-320) none else if t<384 then if t<352 then Yz.1.getD (t-336) none else if t<368 then YA.1.getD (t-352) none else YB.1.getD (t-368) none else if t<416 then if t<400 then YC.1.getD (t-384) none else YD.1.getD (t-400) none else if t<432 then YE.1.getD (t-416) none else YF.1.getD (t-432) none)else prog.info? t
theorem tyE:Wg=prog.info?:=by
 funext t;unfold Wg
 repeat' split
 ·exact cb ty0.2 (by omega) (by omega)
 ·exact cb ty1.2 (by omega) (by omega)
 ·exact cb ty2.2 (by omega) (by omega)
 ·exact cb ty3.2 (by omega) (by omega)
 ·exact cb ty4.2 (by omega) (by omega)
 ·exact cb ty5.2 (by omega) (by omega)
 ·exact cb ty6.2 (by omega) (by omega)
 ·exact cb ty7.2 (by omega) (by omega)
 ·exact cb ty8.2 (by omega) (by omega)
 ·exact cb ty9.2 (by omega) (by omega)
 ·exact cb Yo.2 (by omega) (by omega)
 ·exact cb Yp.2 (by omega) (by omega)
 ·exact cb Yq.2 (by omega) (by omega)
 ·exact cb Yr.2 (by omega) (by omega)
 ·exact cb Ys.2 (by omega) (by omega)
 ·exact cb Yt.2 (by omega) (by omega)
 ·exact cb Yu.2 (by omega) (by omega)
 ·exact cb Yv.2 (by omega) (by omega)
 ·exact cb Yw.2 (by omega) (by omega)
 ·exact cb Yx.2 (by omega) (by omega)
 ·exact cb Yy.2 (by omega) (by omega)
 ·exact cb Yz.2 (by omega) (by omega)
 ·exact cb YA.2 (by omega) (by omega)
 ·exact cb YB.2 (by omega) (by omega)
 ·exact cb YC.2 (by omega) (by omega)
 ·exact cb YD.2 (by omega) (by omega)
 ·exact cb YE.2 (by omega) (by omega)
 ·exact cb YF.2 (by omega) (by omega)
 ·rfl
theorem j5:(∀nt c sc,j3 prog Wg nt c=some sc->comp prog nt c=some sc)/\ ∀l rs,x8 Wg l=some rs->gT prog l=some rs:=by
 rw[tyE,Mx,Ei];exact⟨fun _ _ _ h=>h,fun _ _ h=>h⟩
abbrev aF (f:FuncId) (a:List PV) (r:PV):Prop:=qO prog f a r
theorem eW {f:FuncId} {fn:Func} {sc:SC} {rs:List pM} (hent:Enters prog f f) (hfn:prog.funcs[f]?=some fn) {args:List PV} {r:PV} (h:CW prog (Jr rs r) sc [] ⟨UA 0 args,[],1000⟩) (hb:fn.body.isSome=true:=by exact rfl) (hc:j3 prog Wg fn.ntmps (fn.body.getD .skip)=some sc:=by cbv) (hr:x8 Wg fn.results.toList=some rs:=by cbv) (hlen:Nat.ble args.length fn.ntmps=true:=by exact rfl):qO prog f args r:=qO.w mixed hent hfn hb (j5.1 _ _ _ hc) (j5.2 _ _ hr) hlen h
theorem u8z {c:UInt8} (h:(c.toNat:Int)=0):c=0:=jN.1 (by simpa using h)
theorem Z9 {c:UInt8} (h:(c.toNat:Int)≠0):c≠0:=fun e=>by subst e;simp at h
abbrev E (n:Int):PV:= .i .i64 n
theorem QI {l:Bytes} (h:x<l.length):(l.map u8).getD x .fn0=u8 (l.getD x 0):=by
 simp[bR,h]
theorem Qd (c:UInt8):(u8 c).byte=c:=by simp[u8,PV.byte]
theorem xS (l:Bytes):(l.map u8).map PV.byte=l:=by induction l<;>simp_all[Qd]
theorem uE {l:Bytes} {y:PV} (h:y∈l.map u8):y.isByte:=by
 obtain⟨c,_,rfl⟩:=cG.1 h;trivial
theorem xV {l:Bytes} {y:PV} (h:y∈l.map u8):y.cells.length=1:=by
 obtain⟨c,_,rfl⟩:=cG.1 h;rfl
theorem uY (a:Bytes):aa a=(decide ((a.length:Int)<=128)&&(((a.length:Int)==0)||(((a.getD 0 0).toNat:Int) !=0))):=by
 unfold aa;have h1:decide ((a.length:Int)<=128)=decide (a.length<=128):=by simp;omega
 have h2:((a.length:Int)==0)=(a.length==0):=by rw[cI];simp only[dZ];omega
 have h3:(((a.getD 0 0).toNat:Int) !=0)=(a.headD 0 !=0):=by
  cases a with
  |nil=>rfl
  |cons x r=>
   have:x.toNat=0↔x=0:=by
    constructor
    ·intro h;exact jN.1 h
    ·intro h;subst h;rfl
   rw[cI];simp[this]
 rw[h1,h2,h3]
theorem aD (a:Bytes):aF 35 [.s a] (.b (aa a)):=by
 rw[uY];refine eW call35 func35 ?_;repeat' first|simp only[go_sem,seval]|refine oE ?_|apply xX<;>intro hc
 all_goals simp_all
 all_goals omega
theorem kq (l:Bytes):aF 140 [.sl (l.map u8)] (.s (iJ l)):=by
 refine eW call140 func140 ?_;simp only[go_sem,seval];refine aq (α:=Bytes) List.length (fun x=>⟨[(0, .v (.sl (x.map u8)))],[],_⟩) (fun x=>iJ x=iJ l) l (fun _=>aB _) rfl ?_ ?_
 ·refine AS.Le.of (aB _) ⟨rfl,rfl,trivial⟩ trivial
 ·intro x hx R hR
  cases x with
  |nil=>
   refine xy ?_;rw[<-hx];rfl
  |cons c r=>
   repeat' first|simp only[go_sem,seval]|refine oE ?_|apply xX<;>intro hc
   ·refine⟨⟨oO,fun x hx=>xV hx⟩,hR r ?_ (xp _) _ (AS.Le.of oC ⟨rfl,rfl,trivial⟩ trivial)⟩
    rw[<-hx,iJ,ah (u8z hc)]
   ·refine⟨fun y hy=>uE hy,?_⟩
    rw[<-hx,iJ,af (Z9 hc)];rw[xS]
theorem ru (a:Bytes):aF 139 [.s a] (.tup [.s (if a.length<=128 then a else[]),E (if a.length<=128 then 0 else 5)]):=by
 refine eW call139 func139 ?_;repeat' first|simp only[go_sem,seval]|refine oE ?_|apply xX<;>intro hc
 ·have h: ¬a.length<=128:=oO;simp[h]
 ·have h:a.length<=128:=oO;simp[h]
theorem kW (a:Bytes) (i:Nat) (ha:a.length<4611686018427387904):aF 138 [.s a,E i] (E ((num a/256^i%256:Nat):Int)):=by
 refine eW call138 func138 ?_;repeat' first|simp only[go_sem,seval]|refine oE ?_|apply xX<;>intro hc
 ·rw[rD a oO];rfl
 ·have h:=uJ a (i:=i) oO;rw[<-h,show((a.length:Int)-1-(i:Int)).toNat=a.length-1-i by omega]
  have:=(a.getD (a.length-1-i) 0).toNat_lt;rw[IntWalk.i64_in _ oO]
theorem Nr (x:Int):aF 235 [E x] (.b false):=by
 refine eW call235 func235 ?_;simp only[go_sem,seval];simp
theorem JO (x y:Int):aF 157 [E x,E y] (E (if x<y then-1 else if y<x then 1 else 0)):=by
 refine eW call157 func157 ?_;repeat' first|simp only[go_sem,seval]|refine cP (Nr _) ?_|refine oE ?_|apply xX<;>intro hc
 all_goals (simp_all<;>omega)
theorem JP (a b:Bytes):Zg prog 310 [.s a, .s b] (E (Lib.compareBytes a b)):=by
 intro rd vs w hv;obtain⟨x,us,rfl,hx,hv⟩:=hv.fO;obtain⟨y,us,rfl,hy,hv⟩:=hv.fO;obtain rfl:=hv.dx
 cases hx;cases hy
 have h1:(Tryz.f310.name== "runtime.NumGoroutine")=false:=by kernel_rfl
 have h2:Tryz.f310.body.isNone=true:=by kernel_rfl
 have h3:(Extern.findNext Tryz.f310).isNone=true:=by kernel_rfl
 have h4:Extern.find Tryz.f310=some Extern.BytealgCompare.compare:=by kernel_rfl
 have h3':Extern.findNext Tryz.f310=none:=by simpa using h3
 refine⟨.int .i64 (Lib.compareBytes a b),?_, .i _ _⟩;simp only[callFunc,bT,run_program,Result.andThen,func310,h1,h2,h3',h4,aA,bQ,ak];have:=Lib.run_compareString (P:=prog) ⟨a.toArray⟩ ⟨b.toArray⟩ w;simp only[List.toList_toArray]at this;simp[this]
theorem Ae (a b:Bytes):aF 236 [.s a, .s b] (E (Lib.compareBytes a b)):=by
 refine eW call236 func236 ?_;repeat' first|simp only[go_sem,seval]|(refine Tj (JP _ _) rfl ?_)|refine oE ?_|apply xX<;>intro hc
theorem Ak (a b:Bytes):aF 158 [.s a, .s b] (E (Lib.compareBytes a b)):=by
 refine eW call158 func158 ?_;repeat' first|simp only[go_sem,seval]|refine cP (Ae _ _) ?_|refine oE ?_|apply xX<;>intro hc
def bK (a b:Nat):Int:=if a<b then-1 else if b<a then 1 else 0
theorem j7: ∀{a b:Bytes},a.length=b.length->Lib.compareBytes a b=bK (num a) (num b)
 |[],[],_=>rfl
 |x::r,y::s,h=>by
  have hl:r.length=s.length:=by simpa using h
  have ih:=j7 hl;have h1:=vG x y hl;have h2:=vG y x hl.symm;have e1:x<y↔x.toNat<y.toNat:=xc;have e2:y<x↔y.toNat<x.toNat:=xc;simp only[Lib.compareBytes,bK,h1,h2,e1,e2,ih];rcases DH x.toNat y.toNat with h|h|h
  ·simp[h]
  ·have:x=y:=jN.1 h;subst this;simp
  ·have hne: ¬x=y:=fun e=>by subst e;omega
   simp[h,Nat.lt_asymm h,hne]
theorem oB {a b:Bytes} (ha:Canon a) (hb:Canon b):aF 88 [.s a, .s b] (E (bK (num a) (num b))):=by
 refine eW call88 func88 ?_;repeat' first|simp only[go_sem,seval]|refine cP (JO _ _) ?_|refine cP (Ak _ _) ?_|refine oE ?_|apply xX<;>intro hc
 ·congr 1;refine j7 ?_
  split at hc
  ·simp at hc
  ·split at hc
   ·simp at hc
   ·omega
 ·congr 1;unfold bK
  split at hc
  ·have:=iP (a:=a) hb oO;simp_all
  ·split at hc
   ·have:=iP (a:=b) ha oO;rename_i g1 g2;rw[af g1,ah g2,af oO,ah oO]
   ·simp at hc
theorem lY (a b:Bytes):aF 39 [.s a, .s b] (E (if aa a&&aa b then bK (num a) (num b)else 0)):=by
 refine eW call39 func39 ?_;repeat' first|simp only[go_sem,seval]|refine cP (aD _) ?_|(refine iw (oB (bY (by assumption)) (bY (by assumption))) rfl ?_)|refine oE ?_|apply xX<;>intro hc
 all_goals simp_all
theorem kH {a:Bytes} {i:Nat} (h:i<a.length):num (a.take (i+1))=num (a.take i)*256+(a.getD i 0).toNat:=by
 rw[Jc h,yT];simp[bR,h]
theorem nL (a:Bytes):aF 232 [.s a] (.tup [.i .u64 (if aa a&&decide (a.length<=8)then num a else 0), .b (aa a&&decide (a.length<=8))]):=by
 refine eW call232 func232 ?_;repeat' first|simp only[go_sem,seval]|refine cP (aD _) ?_|refine oE ?_|apply xX<;>intro hc
 rotate_right
 ·simp_all
 ·have: ¬a.length<=8:=oO;simp[this]
 ·have h8:a.length<=8:=oO;refine aq (α:=Nat) (fun i=>a.length-i) (fun i=>⟨[(0, .v (.s a)),(4, .v (.i .u64 (num (a.take i)))),(15, .v (.i .i64 a.length)),(16, .v (.i .i64 i))],[],1014⟩) (fun i=>i<=a.length) 0 (fun _=>aB _) (aT _) ?_ ?_
  ·(refine AS.Le.of (by first|decide|omega) ?_ ?_<;>simp[dG,dF,aO,hget,AV.bd,AV.bd.bdL,u8,ar,au,az]);rfl
  ·intro i hi R hR
   by_cases hlt:i<a.length
   ·refine xy ?_;refine hR (i+1) oO oO _ ?_;have h1:=kH hlt;have h2:num (a.take i)<72057594037927936:=by
     refine ba (cu _) (fV (cW oC (?_: _<=7)) oC);simp;omega
    have h3:=(a.getD i 0).toNat_lt;rw[show((num (a.take i):Int)*256)=((num (a.take i)*256:Nat):Int) by simp]
    rw[IntWalk.u64_in _ oO,IntWalk.u64_in _ oO,UI .u64 rfl (by show _<18446744073709551616;omega) (by show _<18446744073709551616;omega),EV (k:=8) oO]
    (refine AS.Le.of (by first|decide|omega) ?_ ?_<;>simp[dG,dF,aO,hget,AV.bd,AV.bd.bdL,u8,ar,au,az])
    rw[h1];simp
   ·refine xy ?_;rw[dc oO];simp[*]
theorem jG (h:x<256):([0,1,2,2,3,3,3,3,4,4,4,4,4,4,4,4,5,5,5,5,5,5,5,5,5,5,5,5,5,5,5,5,6,6,6,6,6,6,6,6,6,6,6,6,6,6,6,6,6,6,6,6,6,6,6,6,6,6,6,6,6,6,6,6,7,7,7,7,7,7,7,7,7,7,7,7,7,7,7,7,7,7,7,7,7,7,7,7,7,7,7,7,7,7,7,7,7,7,7,7,7,7,7,7,7,7,7,7,7,7,7,7,7,7,7,7,7,7,7,7,7,7,7,7,7,7,7,7,8,8,8,8,8,8,8,8,8,8,8,8,8,8,8,8,8,8,8,8,8,8,8,8,8,8,8,8,8,8,8,8,8,8,8,8,8,8,8,8,8,8,8,8,8,8,8,8,8,8,8,8,8,8,8,8,8,8,8,8,8,8,8,8,8,8,8,8,8,8,8,8,8,8,8,8,8,8,8,8,8,8,8,8,8,8,8,8,8,8,8,8,8,8,8,8,8,8,8,8,8,8,8,8,8,8,8,8,8,8,8,8,8,8,8,8,8,8,8,8,8,8,8,8,8,8,8,8]:Bytes).getD x 0=UInt8.ofNat (Lib.bitLen x):=by
 revert x;decide+kernel
theorem jE (h:x<256):Lib.bitLen x<=8:=Lib.bitLen_le x 8 oC oO
theorem len8_int (h:x<256):(((UInt8.ofNat (Lib.bitLen x)).toNat:Nat):Int)=(Lib.bitLen x:Int):=by
 have:=jE h;rw[iK];omega
theorem HF (x:Nat) (h:x<256):aF 164 [.i .u8 x] (E (Lib.bitLen x)):=by
 refine eW call164 func164 ?_;refine xy ?_;rw[jG h,len8_int h];have:=jE h;rw[IntWalk.i64_in _ oO]
theorem mW {y k:Nat} (hy:y<256) (hk:k<=56) (h:Lib.bitLen x=k+Lib.bitLen y) {T:Bytes} (hT: ∀x,x<256->T.getD x 0=UInt8.ofNat (Lib.bitLen x)):
  (0<=IntKind.u8.wrap (y:Int)/\IntKind.u8.wrap (y:Int)<256)/\PV.i IntKind.i64 (IntKind.i64.wrap ((k:Int)+IntKind.i64.wrap ((T.getD (IntKind.u8.wrap (y:Int)).toNat 0).toNat:Int)))=E (Lib.bitLen x):=by
 have h8:=jE hy;rw[aaa hy,Int.toNat_natCast,hT y hy,len8_int hy,IntWalk.i64_in (Lib.bitLen y:Int) oO,IntWalk.i64_in _ oO,h];refine⟨oO,?_⟩;simp
theorem DX (x:Nat) (h:x<(2^64)):aF 380 [.i .u64 x] (E (Lib.bitLen x)):=by
 have g8:=Lib.bitLen_shift8;have g16:=Lib.bitLen_shift16;have g32:=Lib.bitLen_shift32;refine eW call380 func380 ?_;repeat' first|simp only[go_sem,seval]|refine oE ?_|apply xX<;>intro hc
 ·refine mW (k:=56) oO oC ?_ fun _=>jG
  rw[g32 x oO oO,g16 _ oO oO,g8 _ oO oO];omega
 ·refine mW (k:=48) oO oC ?_ fun _=>jG
  rw[g32 x oO oO,g16 _ oO oO];omega
 ·refine mW (k:=40) oO oC ?_ fun _=>jG
  rw[g32 x oO oO,g8 _ oO oO];omega
 ·refine mW (k:=32) oO oC ?_ fun _=>jG
  rw[g32 x oO oO]
 ·refine mW (k:=24) oO oC ?_ fun _=>jG
  rw[g16 x oO oO,g8 _ oO oO];omega
 ·refine mW (k:=16) oO oC ?_ fun _=>jG
  rw[g16 x oO oO]
 ·refine mW (k:=8) oO oC ?_ fun _=>jG
  rw[g8 x oO oO]
 ·refine mW (k:=0) oO oC ?_ fun _=>jG
  omega
theorem rY (x:Nat) (h:x<(2^64)):aF 355 [.i .u64 x] (E ((64-Lib.bitLen x:Nat):Int)):=by
 have h1:=Lib.bitLen_le x 64 oC h;refine eW call355 func355 ?_;repeat' first|simp only[go_sem,seval]|refine cP (DX x h) ?_|refine oE ?_|apply xX<;>intro hc
 congr 1;omega
theorem r8 (x y:Nat) (hx:x<(2^64)) (hy:y<(2^64)):aF 233 [.i .u64 x, .i .u64 y] (.tup [.i .u64 (x*y/(2^64):Nat), .i .u64 (x*y%(2^64):Nat)]):=by
 obtain⟨h1,h2,h3,h4⟩:=Lib.mul64_hi x y hx hy;refine eW call233 func233 ?_;simp only[go_sem,seval,uw,yN,qW,vE,Fx,BL,u6,Am,vO,vM,pN];have hb:=Lib.half_mul_le (a:=x/4294967296) (b:=y%4294967296) oO oO;have ha:=Lib.half_mul_le (a:=x/4294967296) (b:=y/4294967296) oO oO;have hc:=Lib.half_mul_le (a:=x%4294967296) (b:=y/4294967296) oO oO;rw[<-h4];generalize x/4294967296*(y%4294967296)=b at*;generalize x/4294967296*(y/4294967296)=a at*;generalize x%4294967296*(y/4294967296)=c at*;generalize x%4294967296*(y%4294967296)=d at*;congr 4;omega
