/- Part of the proof. -/
import Derived.Test.YthlapgdhjcddkaaGreatDoorUF16
import Derived.Test.YthlapgdhjcddkaaGreatDoorChecked
import Derived.KernelRfl
set_option linter.all false
set_option maxRecDepth 100000
namespace Go.Dom
open Go.RowKit
section
variable (P:Program) [cW P] (I:TypeId->Option TypeInfo)
def ly (t:TypeId):Option TypeDesc:=
 match I t with
 |some {desc:= .named _ u, .. }=>(I u).map (·.desc)
 |some i=>some i.desc
 |none=>none
def C6 (t:TypeId):Option (List AV):=do
 let i<-I t
 let z<-i.zero
 if z.cells.size=i.size then bA Sh z.cells.toList else none
def YG (t:TypeId):Option PV:=do
 let i<-I t
 let v<-i.zero
 match Sh v with
 |some (.v z)=>some z
 | _=>none
def DD (t:TypeId):Option Bool:=
 match ly I t with
 |some (.struct _)=>some true
 |some (.array _ _)=>some true
 |some _=>some false
 |none=>none
def kx (t:TypeId):Option Nat:=(I t).map (·.size)
def Tm (fs:Array Field) (ps:Array (Nat×Operand)):Option (List (Nat×Nat×SX)):=
 bA (fun p=>do
  let f<-fs[p.1]?
  let z<-kx I f.type
  let x<-sx P p.2
  some (f.offset,z,x)) ps.toList
def Kx (o:Oper) (c:Call):Option SO:=
 match c.callee with
 | .value f=>do
  let f<-sx P f
  let args<-bA (sx P) c.args.toList
  some (.call f args)
 | .builtin b=>
  match b,c.args.toList,c.argTypes.toList with
  | .len,[x],[t]=>match ly I t with
   |some .string=>do some (.lenS (<-sx P x))
   |some (.slice _)=>do some (.len (<-sx P x))
   |some (.array n _)=>some (.lenA n)
   | _=>none
  | .append,[x,y],[t,u]=>match ly I t,ly I u with
   |some (.slice e),some (.slice e')=>do
    let i<-I e
    let z<-i.zero
    if z.cells.size=i.size/\0<i.size/\e=e'/\t=u then some (.app e i.size i.bytes (<-sx P x) (<-sx P y))else none
   |some (.slice e),some .string=>do
    let i<-I e
    let z<-i.zero
    if z.cells.size=i.size/\i.size=1 then some (.app e i.size i.bytes (<-sx P x) (<-sx P y))else none
   | _,_=>none
  | .copy,[x,y],[t,u]=>match ly I t,ly I u with
   |some (.slice e),some (.slice _)=>do some (.cpy (<-kx I e) (<-sx P x) (<-sx P y))
   |some (.slice e),some .string=>do
    if(<-kx I e)=1 then some (.cpy 1 (<-sx P x) (<-sx P y))else none
   | _,_=>none
  | .clear,[x],[t]=>match ly I t with
   |some (.slice e)=>do some (.clr (<-C6 I e) (<-sx P x))
   | _=>none
  | .max,[x,y],_=>do some (.mm true (<-sx P x) (<-sx P y))
  | .min,[x,y],_=>do some (.mm false (<-sx P x) (<-sx P y))
  | .unsafeSliceData,[x],_=>do some (.sld (<-sx P x))
  | .unsafeString,[x,y],[pt,_]=>match ly I pt with
   |some (.pointer e)=>do if(kx I e).getD 0=1 then some (.ust e (<-sx P x) (<-sx P y))else none
   | _=>none
  | _,_,_=>none
 | .invoke _ _=>none
def Sg (o:Oper):Option SO:=
 match o.op with
 | .move x=>do some (.mov (<-sx P x))
 | .assign x=>do some (.mov (<-sx P x))
 | .pick c a b=>do some (.pick (<-sx P c) (<-sx P a) (<-sx P b))
 | .alloc t=>do some (.alloc t (<-C6 I t))
 | .box _ x=>do some (.box (<-sx P x))
 | .build t ps=>match ly I t with
  |some (.struct fs)=>do
   if fs.toList.all (fun f=>(kx I f.type).isSome)then some (.build (<-C6 I t) (<-Tm P I fs ps))else none
  |some (.array _ e)=>do
   let z<-kx I e
   some (.build (<-C6 I t) (<-H4 P z ps))
  | _=>none
 | .buildSlice t n ps=>match ly I t with
  |some (.slice e)=>do
   let z<-kx I e
   let ze<-C6 I e
   let xs<-bA (sx P) (ps.toList.map (·.2))
   if ps.toList.map (·.1)=List.range n/\n*z<=16777216/\0<z then some (.bsl (isW ze) z xs)else none
  | _=>none
 | .load t x=>do
  let ag<-DD I t
  let z<-kx I t
  if ag||z==1 then some (.ld ag z (<-sx P x))else none
 | .store t a x=>do
  let z<-kx I t
  some (.st z (<-sx P a) (<-sx P x))
 | .binOp op t x y _=>match ly I t with
  |some (.int _)=>do some (.bin op (<-sx P x) (<-sx P y))
  |some .string=>do some (.bin op (<-sx P x) (<-sx P y))
  |some .bool=>match op with
   | .eql=>do some (.beq false (<-sx P x) (<-sx P y))
   | .neq=>do some (.beq true (<-sx P x) (<-sx P y))
   | _=>none
  |some (.pointer te)=>if(I te).isSome then(match op with
   | .eql=>do some (.peq false (<-sx P x) (<-sx P y))
   | .neq=>do some (.peq true (<-sx P x) (<-sx P y))
   | _=>none)else none
  |some (.struct _)=>match op,(cW.pl P).find? (·.1==t)with
   | .eql,some q=>do some (.ceq false q.2 (<-sx P x) (<-sx P y))
   | .neq,some q=>do some (.ceq true q.2 (<-sx P x) (<-sx P y))
   | _,_=>none
  |some (.slice _)=>match op,y with
   | .eql, .const (.slice none 0 0)=>do some (.snl false (<-sx P x))
   | .neq, .const (.slice none 0 0)=>do some (.snl true (<-sx P x))
   | _,_=>none
  | _=>none
 | .unOp op _ x=>do some (.un op (<-sx P x))
 | .convert s d x=>match ly I s,ly I d with
  |some (.int _),some (.int k)=>do some (.cvi k (<-sx P x))
  |some .string,some .string=>do some (.cvs (<-sx P x))
  |some (.slice e),some .string=>match ly I e with
   |some (.int .u8)=>do
    if(<-kx I e)=1 then some (.b2s (<-sx P x))else none
   | _=>none
  |some .string,some (.slice e)=>match ly I e with
   |some (.int .u8)=>do some (.s2b (<-sx P x))
   | _=>none
  |some (.pointer t),some .unsafePointer=>do
   if(<-kx I t)=0 then none else some (.cvp (fun _ _ _=>true) (<-sx P x))
  |some .unsafePointer,some (.pointer u)=>do
   if(<-kx I u)=0 then none else some (.cvp (fun e n o=>liesAt P P.depth e (n/P.cellsOf e) o u 1) (<-sx P x))
  | _,_=>none
 | .makeSlice t l c=>match ly I t with
  |some (.slice e)=>do
   let i<-I e
   let z<-C6 I e
   if 0<i.size/\0<i.bytes then some (.mks z i.bytes (<-sx P l) (<-sx P c))else none
  | _=>none
 | .slice t x lo hi mx=>match ly I t with
  |some .string=>match mx with
   |none=>do some (.slS (<-sx P x) (<-Bn P lo) (<-Bn P hi))
   |some _=>none
  |some (.slice e)=>do some (.slL (<-kx I e) (<-sx P x) (<-Bn P lo) (<-Bn P hi) (<-Bn P mx))
  |some (.array n e)=>do some (.slA n (<-kx I e) (<-sx P x) (<-Bn P lo) (<-Bn P hi) (<-Bn P mx))
  | _=>none
 | .fieldAddr s x f=>match ly I s with
  |some (.struct fs)=>do
   let fl<-fs[f]?
   let z<-kx I fl.type
   if z=0 then none else some (.fad fl.offset (<-sx P x))
  | _=>none
 | .field s x f=>match ly I s with
  |some (.struct fs)=>do
   let fl<-fs[f]?
   let z<-kx I fl.type
   let ag<-DD I fl.type
   if ag||z==1 then some (.fld ag fl.offset z (<-sx P x))else none
  | _=>none
 | .indexAddr t x i=>match ly I t with
  |some (.slice e)=>do some (.ixs (<-kx I e) (<-sx P x) (<-sx P i))
  |some (.array n e)=>do some (.ixa n (<-kx I e) (<-sx P x) (<-sx P i))
  | _=>none
 | .index t x i=>match ly I t with
  |some .string=>do some (.ixS (<-sx P x) (<-sx P i))
  |some (.array n e)=>do
   let z<-kx I e
   let ag<-DD I e
   if ag||z==1 then some (.ixV ag n z (<-sx P x) (<-sx P i))else none
  | _=>none
 | .extract x k=>do some (.ext (<-sx P x) k)
 | .call c=>Kx P I o c
 | .makeFunc f a c=>do some (.mkf f (<-bA (sx P) a.toList) (<-bA (sx P) c.toList))
 | .nilCheck x=>do some (.nck (<-sx P x))
 | .makeInterface t x=>match ly I t with
  |some (.int _)=>do some (.mki t (<-sx P x))
  |some .string=>do some (.mki t (<-sx P x))
  | _=>none
 | .makeMap t r=>match r,ly I t with
  |none,some (.map _ _)=>some .mkm
  |some (.const (.int _ _)),some (.map _ _)=>some .mkm
  | _,_=>none
 | .lookup t x k c=>match ly I t with
  |some (.map kt et)=>do
   let z<-YG I et
   let x<-sx P x
   let k<-sx P k
   match ly I kt with
   |some (.int _)=>some (.mget c false z x k)
   |some .string=>some (.mget c true z x k)
   | _=>none
  | _=>none
 | .mapUpdate t m k v=>match ly I t with
  |some (.map kt _)=>do
   let m<-sx P m
   let k<-sx P k
   let v<-sx P v
   match ly I kt with
   |some (.int _)=>some (.mset false m k v)
   |some .string=>some (.mset true m k v)
   | _=>none
  | _=>none
 | .panic _=>some .stop
 | _=>none
def Wx (nt:Nat) (ops:Array Oper) (o:Oper):Option j9:=
 match Sg P I o,I2 ops nt o.guard with
 |some so,some g=>if dOk nt o.dst then some ⟨o.dst,so,g⟩else none
 | _,_=>none
def No (nt:Nat) (ops:Array Oper) (draw:Bool):Option SC:=
 match bA (Wx P I nt ops) ops.toList with
 |some sops=>if draw then(if HY ops (Region.before ops).toList&&stat (Region.before ops).toList sops then some (.reg (some (Region.before ops).toList) sops)else none)else some (.reg none sops)
 |none=>none
def zW:List ResultVar->Option (List qK):=
 bA fun
  | .tmp t=>some (.t t)
  | .cell a ty=>match DD I ty,kx I ty with
   |some ag,some z=>if ag||z==1 then some (.c a ag z)else none
   | _,_=>none
end
def oh (P:Program) [cW P] (I:TypeId->Option TypeInfo) (nt:Nat):Code->Option SC
 | .skip=>some .skip
 | .region _ ops draw=>No P I nt ops draw
 | .seq a b=>match oh P I nt a,oh P I nt b with
  |some a,some b=>some (.seq a b)
  | _,_=>none
 | .cond c a b=>match sx P c,oh P I nt a,oh P I nt b with
  |some c,some a,some b=>some (.cond c a b)
  | _,_,_=>none
 | .block id a=>match oh P I nt a with
  |some a=>some (.blk id a)
  |none=>none
 | .loop a=>match oh P I nt a with
  |some a=>some (.loop a)
  |none=>none
 | .rangeFunc g ps a b=>match sx P g,oh P I nt a,oh P I nt b with
  |some g,some a,some b=>if a.eZ&&b.eZ&&ps.toList.all (fun p=>Nat.blt p nt)then some (.rng g ps.toList a b)else none
  | _,_,_=>none
 | .exit id=>some (.exit id)
 | .ret=>some .ret
 | .refuse _=>some .stop
 | .scope a=>oh P I nt a
 | .label _=>some .skip
 | _=>none
section
variable {P:Program} [cW P]
theorem Nl:oh P P.info?=comp P:=by
 funext nt c
 have h:No P P.info?=I4 P:=rfl
 induction c<;>simp_all[oh,comp]<;>rfl
theorem Ft:zW P.info?=iu P:=rfl
end
theorem cR {β:Type} {f:Nat->Option β} {a n:Nat} {l:List (Option β)} (h:(List.range' a n).map f=l) {t:Nat} (h1:a<=t) (h2:t<a+n):l.getD (t-a) none=f t:=by
 subst h;have:t-a<n:=by omega
 simp[bu,this,show a+(t-a)=t by omega]
end Go.Dom
namespace Go.Dom
open Go.RowKit
class Br (g:Prop) (c d t f:outParam Prop):Prop where
 go:(c->t)->(d->f)->g
section
variable {P:Program} [cW P] {Q:AX->AS->Prop}
instance brP {p:Prop} {κ:BK}:Br (PX P Q p κ) p (¬p) (BX P Q true κ) (BX P Q false κ):=⟨pX⟩
instance brB {c:Bool} {κ:BK}:Br (BX P Q c κ) (c=true) (c=false) (BX P Q true κ) (BX P Q false κ):=⟨bX⟩
end
variable {A0 A1 A2 A3 A4 A5 A6 X Y p:Prop}
theorem xX {g c d t f:Prop} [b:Br g c d t f] (h1:c->t) (h2:d->f):g:=b.go h1 h2
theorem oO (h:p:=by omega):p:=h
theorem oC (h:p:=by decide):p:=h
theorem oE {p q:Prop} (h:q) (e:p=q:=by first|(simp(disch:=first|assumption|omega) only[bP,bW]<;>rfl)|exact propext ⟨And.right,fun x=>And.intro oD x⟩|((fail_if_success apply xX);exact propext ⟨fun _=>trivial,fun _=>oD⟩)):p:=e▸h
theorem oT:True:=trivial
theorem lG {t t':List (Nat×AV)} {h h':List (Nat×aI)} {n n':Nat} {q:Prop} (a:q) (hn:n<=n':=by first|decide|omega) (e:(cU t' n t/\cT h' n h)=q:=by simp[cU,cT,aO,az,AV.bd,AV.bd.bdL,u8,aj,ak,an]<;>rfl):(AS.mk t h n).Le ⟨t',h',n'⟩:=AS.Le.of hn (e▸a:cU t' n t/\cT h' n h).1 (e▸a:cU t' n t/\cT h' n h).2
structure Wr (Y:Prop):Prop where
 go:Y
theorem lI {P:Program} [cW P] {Q:AX->AS->Prop} {a:SC} {K:List Fr} {N:Nat} {s:AS} (h:zA P Q a K N s):zA P Q a K N s:=h
theorem aN {A B:Prop} (a:A) (b:B):A/\B:=⟨a,b⟩
theorem z0 {p:Prop} (h:p:=by
 repeat' first|simp only[go_sem,seval]|refine oE ?_|apply xX<;>intro hc
 all_goals rfl):p:=h
theorem z1 {A0 p:Prop} (a0:A0) (h:A0->p:=by
 intro K0;repeat' first|simp only[go_sem,seval]|refine cP K0 ?_|refine oE ?_|apply xX<;>intro hc
 all_goals rfl):p:=h a0
theorem z2 {A0 A1 p:Prop} (a0:A0) (a1:A1) (h:A0->A1->p:=by
 intro K0 K1;repeat' first|simp only[go_sem,seval]|refine cP K0 ?_|refine cP K1 ?_|refine oE ?_|apply xX<;>intro hc
 all_goals rfl):p:=h a0 a1
theorem z3 (a0:A0) (a1:A1) (a2:A2) (h:A0->A1->A2->p:=by
 intro K0 K1 K2;repeat' first|simp only[go_sem,seval]|refine cP K0 ?_|refine cP K1 ?_|refine cP K2 ?_|refine oE ?_|apply xX<;>intro hc
 all_goals rfl):p:=h a0 a1 a2
theorem z4 (a0:A0) (a1:A1) (a2:A2) (a3:A3) (h:A0->A1->A2->A3->p:=by
 intro K0 K1 K2 K3;repeat' first|simp only[go_sem,seval]|refine cP K0 ?_|refine cP K1 ?_|refine cP K2 ?_|refine cP K3 ?_|refine oE ?_|apply xX<;>intro hc
 all_goals rfl):p:=h a0 a1 a2 a3
theorem z7 (a0:A0) (a1:A1) (a2:A2) (a3:A3) (a4:A4) (a5:A5) (a6:A6) (h:A0->A1->A2->A3->A4->A5->A6->p:=by
 intro K0 K1 K2 K3 K4 K5 K6;repeat' first|simp only[go_sem,seval]|refine cP K0 ?_|refine cP K1 ?_|refine cP K2 ?_|refine cP K3 ?_|refine cP K4 ?_|refine cP K5 ?_|refine cP K6 ?_|refine oE ?_|apply xX<;>intro hc
 all_goals rfl):p:=h a0 a1 a2 a3 a4 a5 a6
theorem Uu (h:p:=by
 repeat' first|simp only[go_sem,seval]|refine aq ?_|refine oE ?_|apply xX<;>intro hc
 all_goals rfl):p:=h
theorem YY (a0:A0) (h:A0->p:=by
 intro K0;repeat' first|simp only[go_sem,seval]|refine cP K0 ?_|refine aq ?_|refine oE ?_|apply xX<;>intro hc
 all_goals rfl):p:=h a0
theorem YK (a0:A0) (a1:A1) (h:A0->A1->p:=by
 intro K0 K1;repeat' first|simp only[go_sem,seval]|refine cP K0 ?_|refine cP K1 ?_|refine aq ?_|refine oE ?_|apply xX<;>intro hc
 all_goals rfl):p:=h a0 a1
theorem zu3 (a0:A0) (a1:A1) (a2:A2) (h:A0->A1->A2->p:=by
 intro K0 K1 K2;repeat' first|simp only[go_sem,seval]|refine cP K0 ?_|refine cP K1 ?_|refine cP K2 ?_|refine aq ?_|refine oE ?_|apply xX<;>intro hc
 all_goals rfl):p:=h a0 a1 a2
theorem zu4 (a0:A0) (a1:A1) (a2:A2) (a3:A3) (h:A0->A1->A2->A3->p:=by
 intro K0 K1 K2 K3;repeat' first|simp only[go_sem,seval]|refine cP K0 ?_|refine cP K1 ?_|refine cP K2 ?_|refine cP K3 ?_|refine aq ?_|refine oE ?_|apply xX<;>intro hc
 all_goals rfl):p:=h a0 a1 a2 a3
theorem zu5 (a0:A0) (a1:A1) (a2:A2) (a3:A3) (a4:A4) (h:A0->A1->A2->A3->A4->p:=by
 intro K0 K1 K2 K3 K4;repeat' first|simp only[go_sem,seval]|refine cP K0 ?_|refine cP K1 ?_|refine cP K2 ?_|refine cP K3 ?_|refine cP K4 ?_|refine aq ?_|refine oE ?_|apply xX<;>intro hc
 all_goals rfl):p:=h a0 a1 a2 a3 a4
theorem zg4 (y:Y) (a0:A0) (a1:A1) (a2:A2) (a3:A3) (h:Y->A0->A1->A2->A3->p:=by
 intro KY K0 K1 K2 K3;repeat' first|simp only[go_sem,seval]|refine cP K0 ?_|refine cP K1 ?_|refine cP K2 ?_|refine cP K3 ?_|refine oE ?_|exact KY _ lE|apply xX<;>intro hc
 all_goals rfl):p:=h y a0 a1 a2 a3
theorem zs0 (h:p:=by
 repeat' first|simp only[go_sem,seval]|refine oE ?_|apply xX<;>intro hc
 all_goals simp_all):p:=h
theorem zs1 (a0:A0) (h:A0->p:=by
 intro K0;repeat' first|simp only[go_sem,seval]|refine cP K0 ?_|refine oE ?_|apply xX<;>intro hc
 all_goals (clear K0;simp_all)):p:=h a0
theorem Ut (a0:A0) (a1:A1) (h:A0->A1->p:=by
 intro K0 K1;repeat' first|simp only[go_sem,seval]|refine cP K0 ?_|refine cP K1 ?_|refine oE ?_|apply xX<;>intro hc
 all_goals (clear K0 K1;simp_all)):p:=h a0 a1
theorem zs4 (a0:A0) (a1:A1) (a2:A2) (a3:A3) (h:A0->A1->A2->A3->p:=by
 intro K0 K1 K2 K3;repeat' first|simp only[go_sem,seval]|refine cP K0 ?_|refine cP K1 ?_|refine cP K2 ?_|refine cP K3 ?_|refine oE ?_|apply xX<;>intro hc
 all_goals (clear K0 K1 K2 K3;simp_all)):p:=h a0 a1 a2 a3
theorem pO (y:Y) (h:Wr Y->p:=by
 intro KY;repeat' first|simp only[go_sem,seval]|exact lI KY.1|refine oE ?_|apply xX<;>intro hc
 all_goals rfl):p:=h ⟨y⟩
theorem zl1 (a0:A0) (y:Y) (h:Wr Y->A0->p:=by
 intro KY K0;repeat' first|simp only[go_sem,seval]|refine cP K0 ?_|exact lI KY.1|refine oE ?_|apply xX<;>intro hc
 all_goals rfl):p:=h ⟨y⟩ a0
theorem zl2 (a0:A0) (a1:A1) (y:Y) (h:Wr Y->A0->A1->p:=by
 intro KY K0 K1;repeat' first|simp only[go_sem,seval]|refine cP K0 ?_|refine cP K1 ?_|exact lI KY.1|refine oE ?_|apply xX<;>intro hc
 all_goals rfl):p:=h ⟨y⟩ a0 a1
theorem YH (a0:A0) (a1:A1) (a2:A2) (a3:A3) (y:Y) (h:Wr Y->A0->A1->A2->A3->p:=by
 intro KY K0 K1 K2 K3;repeat' first|simp only[go_sem,seval]|refine cP K0 ?_|refine cP K1 ?_|refine cP K2 ?_|refine cP K3 ?_|exact lI KY.1|refine oE ?_|apply xX<;>intro hc
 all_goals rfl):p:=h ⟨y⟩ a0 a1 a2 a3
theorem ye (y:Y) (h:Wr Y->p:=by
 intro KY;repeat' first|simp only[go_sem,seval]|refine oE ?_|apply xX<;>intro hc
 exact KY.1):p:=h ⟨y⟩
theorem zx1 (a0:A0) (y:Y) (h:Wr Y->A0->p:=by
 intro KY K0;repeat' first|simp only[go_sem,seval]|refine cP K0 ?_|refine oE ?_|apply xX<;>intro hc
 exact KY.1):p:=h ⟨y⟩ a0
theorem fz (x:X) (h:(True->X)->p:=by
 intro KX;repeat' first|simp only[go_sem,seval,KX trivial]|refine oE ?_|apply xX<;>intro hc
 all_goals rfl):p:=h (fun _=>x)
theorem iE (x:X) (a0:A0) (h:(True->X)->A0->p:=by
 intro KX K0;repeat' first|simp only[go_sem,seval,KX trivial]|refine cP K0 ?_|refine oE ?_|apply xX<;>intro hc
 all_goals rfl):p:=h (fun _=>x) a0
theorem vV (x:X) (a0:A0) (a1:A1) (h:(True->X)->A0->A1->p:=by
 intro KX K0 K1;repeat' first|simp only[go_sem,seval,KX trivial]|refine cP K0 ?_|refine cP K1 ?_|refine oE ?_|apply xX<;>intro hc
 all_goals rfl):p:=h (fun _=>x) a0 a1
theorem ry (x:X) (a0:A0) (a1:A1) (a2:A2) (a3:A3) (h:(True->X)->A0->A1->A2->A3->p:=by
 intro KX K0 K1 K2 K3;repeat' first|simp only[go_sem,seval,KX trivial]|refine cP K0 ?_|refine cP K1 ?_|refine cP K2 ?_|refine cP K3 ?_|refine oE ?_|apply xX<;>intro hc
 all_goals rfl):p:=h (fun _=>x) a0 a1 a2 a3
theorem Uq (x:X) (a0:A0) (a1:A1) (a2:A2) (a3:A3) (a4:A4) (a5:A5) (a6:A6) (h:(True->X)->A0->A1->A2->A3->A4->A5->A6->p:=by
 intro KX K0 K1 K2 K3 K4 K5 K6;repeat' first|simp only[go_sem,seval,KX trivial]|refine cP K0 ?_|refine cP K1 ?_|refine cP K2 ?_|refine cP K3 ?_|refine cP K4 ?_|refine cP K5 ?_|refine cP K6 ?_|refine oE ?_|apply xX<;>intro hc
 all_goals rfl):p:=h (fun _=>x) a0 a1 a2 a3 a4 a5 a6
theorem QS (x:X) (h:(True->X)->p:=by
 intro KX;repeat' first|simp only[go_sem,seval,KX trivial]|refine aq ?_|refine oE ?_|apply xX<;>intro hc
 all_goals rfl):p:=h (fun _=>x)
theorem abu (x:X) (a0:A0) (a1:A1) (a2:A2) (h:(True->X)->A0->A1->A2->p:=by
 intro KX K0 K1 K2;repeat' first|simp only[go_sem,seval,KX trivial]|refine cP K0 ?_|refine cP K1 ?_|refine cP K2 ?_|refine aq ?_|refine oE ?_|apply xX<;>intro hc
 all_goals rfl):p:=h (fun _=>x) a0 a1 a2
theorem Us (x:X) (a0:A0) (a1:A1) (a2:A2) (a3:A3) (h:(True->X)->A0->A1->A2->A3->p:=by
 intro KX K0 K1 K2 K3;repeat' first|simp only[go_sem,seval,KX trivial]|refine cP K0 ?_|refine cP K1 ?_|refine cP K2 ?_|refine cP K3 ?_|refine aq ?_|refine oE ?_|apply xX<;>intro hc
 all_goals rfl):p:=h (fun _=>x) a0 a1 a2 a3
theorem gH (x:X) (y:Y) (h:(True->X)->Y->p:=by
 intro KX KY;repeat' first|simp only[go_sem,seval,KX trivial]|refine oE ?_|exact KY _ lE|apply xX<;>intro hc
 all_goals rfl):p:=h (fun _=>x) y
theorem gi (x:X) (y:Y) (a0:A0) (h:(True->X)->Y->A0->p:=by
 intro KX KY K0;repeat' first|simp only[go_sem,seval,KX trivial]|refine cP K0 ?_|refine oE ?_|exact KY _ lE|apply xX<;>intro hc
 all_goals rfl):p:=h (fun _=>x) y a0
theorem yd (x:X) (y:Y) (a0:A0) (a1:A1) (h:(True->X)->Y->A0->A1->p:=by
 intro KX KY K0 K1;repeat' first|simp only[go_sem,seval,KX trivial]|refine cP K0 ?_|refine cP K1 ?_|refine oE ?_|exact KY _ lE|apply xX<;>intro hc
 all_goals rfl):p:=h (fun _=>x) y a0 a1
theorem YI (x:X) (y:Y) (a0:A0) (a1:A1) (a2:A2) (a3:A3) (h:(True->X)->Y->A0->A1->A2->A3->p:=by
 intro KX KY K0 K1 K2 K3;repeat' first|simp only[go_sem,seval,KX trivial]|refine cP K0 ?_|refine cP K1 ?_|refine cP K2 ?_|refine cP K3 ?_|refine oE ?_|exact KY _ lE|apply xX<;>intro hc
 all_goals rfl):p:=h (fun _=>x) y a0 a1 a2 a3
theorem Ur (x:X) (a0:A0) (a1:A1) (h:(True->X)->A0->A1->p:=by
 intro KX K0 K1;repeat' first|simp only[go_sem,seval,KX trivial]|refine cP K0 ?_|refine cP K1 ?_|refine oE ?_|apply xX<;>intro hc
 all_goals (clear KX K0 K1;simp_all)):p:=h (fun _=>x) a0 a1
theorem YJ (x:X) (a0:A0) (a1:A1) (a2:A2) (a3:A3) (h:(True->X)->A0->A1->A2->A3->p:=by
 intro KX K0 K1 K2 K3;repeat' first|simp only[go_sem,seval,KX trivial]|refine cP K0 ?_|refine cP K1 ?_|refine cP K2 ?_|refine cP K3 ?_|refine oE ?_|apply xX<;>intro hc
 all_goals (clear KX K0 K1 K2 K3;simp_all)):p:=h (fun _=>x) a0 a1 a2 a3
theorem QR (x:X) (a0:A0) (a1:A1) (a2:A2) (a3:A3) (a4:A4) (a5:A5) (a6:A6) (h:(True->X)->A0->A1->A2->A3->A4->A5->A6->p:=by
 intro KX K0 K1 K2 K3 K4 K5 K6;repeat' first|simp only[go_sem,seval,KX trivial]|refine cP K0 ?_|refine cP K1 ?_|refine cP K2 ?_|refine cP K3 ?_|refine cP K4 ?_|refine cP K5 ?_|refine cP K6 ?_|refine oE ?_|apply xX<;>intro hc
 all_goals (clear KX K0 K1 K2 K3 K4 K5 K6;simp_all)):p:=h (fun _=>x) a0 a1 a2 a3 a4 a5 a6
theorem dh (x:X) (y:Y) (h:(True->X)->Wr Y->p:=by
 intro KX KY;repeat' first|simp only[go_sem,seval,KX trivial]|exact lI KY.1|refine oE ?_|apply xX<;>intro hc
 all_goals rfl):p:=h (fun _=>x) ⟨y⟩
theorem jA (x:X) (a0:A0) (y:Y) (h:(True->X)->Wr Y->A0->p:=by
 intro KX KY K0;repeat' first|simp only[go_sem,seval,KX trivial]|refine cP K0 ?_|exact lI KY.1|refine oE ?_|apply xX<;>intro hc
 all_goals rfl):p:=h (fun _=>x) ⟨y⟩ a0
theorem Bw (x:X) (a0:A0) (a1:A1) (y:Y) (h:(True->X)->Wr Y->A0->A1->p:=by
 intro KX KY K0 K1;repeat' first|simp only[go_sem,seval,KX trivial]|refine cP K0 ?_|refine cP K1 ?_|exact lI KY.1|refine oE ?_|apply xX<;>intro hc
 all_goals rfl):p:=h (fun _=>x) ⟨y⟩ a0 a1
theorem mK (x:X) (a0:A0) (a1:A1) (a2:A2) (a3:A3) (y:Y) (h:(True->X)->Wr Y->A0->A1->A2->A3->p:=by
 intro KX KY K0 K1 K2 K3;repeat' first|simp only[go_sem,seval,KX trivial]|refine cP K0 ?_|refine cP K1 ?_|refine cP K2 ?_|refine cP K3 ?_|exact lI KY.1|refine oE ?_|apply xX<;>intro hc
 all_goals rfl):p:=h (fun _=>x) ⟨y⟩ a0 a1 a2 a3
theorem Hb (x:X) (a0:A0) (a1:A1) (a2:A2) (a3:A3) (a4:A4) (a5:A5) (a6:A6) (y:Y) (h:(True->X)->Wr Y->A0->A1->A2->A3->A4->A5->A6->p:=by
 intro KX KY K0 K1 K2 K3 K4 K5 K6;repeat' first|simp only[go_sem,seval,KX trivial]|refine cP K0 ?_|refine cP K1 ?_|refine cP K2 ?_|refine cP K3 ?_|refine cP K4 ?_|refine cP K5 ?_|refine cP K6 ?_|exact lI KY.1|refine oE ?_|apply xX<;>intro hc
 all_goals rfl):p:=h (fun _=>x) ⟨y⟩ a0 a1 a2 a3 a4 a5 a6
theorem dw (x:X) (y:Y) (h:(True->X)->Wr Y->p:=by
 intro KX KY;repeat' first|simp only[go_sem,seval,KX trivial]|refine oE ?_|apply xX<;>intro hc
 exact KY.1):p:=h (fun _=>x) ⟨y⟩
theorem gR (x:X) (a0:A0) (y:Y) (h:(True->X)->Wr Y->A0->p:=by
 intro KX KY K0;repeat' first|simp only[go_sem,seval,KX trivial]|refine cP K0 ?_|refine oE ?_|apply xX<;>intro hc
 exact KY.1):p:=h (fun _=>x) ⟨y⟩ a0
theorem rz (x:X) (a0:A0) (a1:A1) (y:Y) (h:(True->X)->Wr Y->A0->A1->p:=by
 intro KX KY K0 K1;repeat' first|simp only[go_sem,seval,KX trivial]|refine cP K0 ?_|refine cP K1 ?_|refine oE ?_|apply xX<;>intro hc
 exact KY.1):p:=h (fun _=>x) ⟨y⟩ a0 a1
theorem nX (x:X) (a0:A0) (a1:A1) (a2:A2) (a3:A3) (y:Y) (h:(True->X)->Wr Y->A0->A1->A2->A3->p:=by
 intro KX KY K0 K1 K2 K3;repeat' first|simp only[go_sem,seval,KX trivial]|refine cP K0 ?_|refine cP K1 ?_|refine cP K2 ?_|refine cP K3 ?_|refine oE ?_|apply xX<;>intro hc
 exact KY.1):p:=h (fun _=>x) ⟨y⟩ a0 a1 a2 a3
theorem abv (x:X) (a0:A0) (a1:A1) (a2:A2) (a3:A3) (a4:A4) (a5:A5) (a6:A6) (y:Y) (h:(True->X)->Wr Y->A0->A1->A2->A3->A4->A5->A6->p:=by
 intro KX KY K0 K1 K2 K3 K4 K5 K6;repeat' first|simp only[go_sem,seval,KX trivial]|refine cP K0 ?_|refine cP K1 ?_|refine cP K2 ?_|refine cP K3 ?_|refine cP K4 ?_|refine cP K5 ?_|refine cP K6 ?_|refine oE ?_|apply xX<;>intro hc
 exact KY.1):p:=h (fun _=>x) ⟨y⟩ a0 a1 a2 a3 a4 a5 a6
theorem Vq (x:X) (y:Y) (h:(True->X)->Wr Y->p:=by
 intro KX KY;repeat' first|simp only[go_sem,seval,KX trivial]|refine aq ?_|refine oE ?_|apply xX<;>intro hc
 exact KY.1):p:=h (fun _=>x) ⟨y⟩
end Go.Dom
namespace Go.Proofs.Tryz
open Go Go.Dom
theorem mixed:prog.follows .mixedOrders=true:=by kernel_rfl
def oL:List Int:=[0,1,28,2,29,14,24,3,30,22,20,15,25,17,4,8,31,27,13,23,21,19,16,7,26,12,18,6,11,5,10,9]
def oM:List Int:=[0,1,56,2,57,49,28,3,61,58,42,50,38,29,17,4,62,47,59,36,45,43,51,22,53,39,33,30,24,18,12,5,63,55,48,27,60,41,37,16,46,35,44,21,52,32,23,11,54,26,40,15,34,20,31,10,25,14,19,9,13,8,7,6]
def qC:List Int:=[1,10,100,1000,10000,100000,1000000,10000000,100000000,1000000000,10000000000,100000000000,1000000000000,10000000000000,100000000000000,1000000000000000,10000000000000000,100000000000000000,1000000000000000000,10000000000000000000]
instance ad6:cW prog:=⟨[(5,oL.map fun n=>(.u8,n)),(0,oM.map fun n=>(.u8,n)),(4,qC.map fun n=>(.u64,n))],[(77,[0,1])],by
 intro q hq;simp only[cM,jN,or_false]at hq;rcases hq with rfl<;>kernel_rfl⟩
noncomputable def ty0:{l:List (Option TypeInfo)//(List.range' 0 16).map prog.info?=l}:=⟨_,by conv=>lhs;reduce⟩
noncomputable def ty1:{l:List (Option TypeInfo)//(List.range' 16 16).map prog.info?=l}:=⟨_,by conv=>lhs;reduce⟩
noncomputable def ty2:{l:List (Option TypeInfo)//(List.range' 32 16).map prog.info?=l}:=⟨_,by conv=>lhs;reduce⟩
noncomputable def ty3:{l:List (Option TypeInfo)//(List.range' 48 16).map prog.info?=l}:=⟨_,by conv=>lhs;reduce⟩
noncomputable def ty4:{l:List (Option TypeInfo)//(List.range' 64 16).map prog.info?=l}:=⟨_,by conv=>lhs;reduce⟩
noncomputable def ty5:{l:List (Option TypeInfo)//(List.range' 80 16).map prog.info?=l}:=⟨_,by conv=>lhs;reduce⟩
noncomputable def ty6:{l:List (Option TypeInfo)//(List.range' 96 16).map prog.info?=l}:=⟨_,by conv=>lhs;reduce⟩
noncomputable def ty7:{l:List (Option TypeInfo)//(List.range' 112 16).map prog.info?=l}:=⟨_,by conv=>lhs;reduce⟩
noncomputable def ty8:{l:List (Option TypeInfo)//(List.range' 128 16).map prog.info?=l}:=⟨_,by conv=>lhs;reduce⟩
noncomputable def ty9:{l:List (Option TypeInfo)//(List.range' 144 16).map prog.info?=l}:=⟨_,by conv=>lhs;reduce⟩
noncomputable def aaS:{l:List (Option TypeInfo)//(List.range' 160 16).map prog.info?=l}:=⟨_,by conv=>lhs;reduce⟩
noncomputable def aaT:{l:List (Option TypeInfo)//(List.range' 176 16).map prog.info?=l}:=⟨_,by conv=>lhs;reduce⟩
noncomputable def aaU:{l:List (Option TypeInfo)//(List.range' 192 16).map prog.info?=l}:=⟨_,by conv=>lhs;reduce⟩
noncomputable def aaV:{l:List (Option TypeInfo)//(List.range' 208 16).map prog.info?=l}:=⟨_,by conv=>lhs;reduce⟩
noncomputable def aaW:{l:List (Option TypeInfo)//(List.range' 224 16).map prog.info?=l}:=⟨_,by conv=>lhs;reduce⟩
noncomputable def aaX:{l:List (Option TypeInfo)//(List.range' 240 16).map prog.info?=l}:=⟨_,by conv=>lhs;reduce⟩
noncomputable def aaY:{l:List (Option TypeInfo)//(List.range' 256 16).map prog.info?=l}:=⟨_,by conv=>lhs;reduce⟩
noncomputable def aaZ:{l:List (Option TypeInfo)//(List.range' 272 16).map prog.info?=l}:=⟨_,by conv=>lhs;reduce⟩
noncomputable def aa0:{l:List (Option TypeInfo)//(List.range' 288 16).map prog.info?=l}:=⟨_,by conv=>lhs;reduce⟩
noncomputable def aa1:{l:List (Option TypeInfo)//(List.range' 304 16).map prog.info?=l}:=⟨_,by conv=>lhs;reduce⟩
noncomputable def aa2:{l:List (Option TypeInfo)//(List.range' 320 16).map prog.info?=l}:=⟨_,by conv=>lhs;reduce⟩
noncomputable def aa3:{l:List (Option TypeInfo)//(List.range' 336 16).map prog.info?=l}:=⟨_,by conv=>lhs;reduce⟩
noncomputable def aa4:{l:List (Option TypeInfo)//(List.range' 352 16).map prog.info?=l}:=⟨_,by conv=>lhs;reduce⟩
noncomputable def aa5:{l:List (Option TypeInfo)//(List.range' 368 16).map prog.info?=l}:=⟨_,by conv=>lhs;reduce⟩
noncomputable def aa6:{l:List (Option TypeInfo)//(List.range' 384 16).map prog.info?=l}:=⟨_,by conv=>lhs;reduce⟩
noncomputable def aa7:{l:List (Option TypeInfo)//(List.range' 400 16).map prog.info?=l}:=⟨_,by conv=>lhs;reduce⟩
noncomputable def aa8:{l:List (Option TypeInfo)//(List.range' 416 13).map prog.info?=l}:=⟨_,by conv=>lhs;reduce⟩
noncomputable def Yw (t:Nat):Option TypeInfo:=if t<429 then(if t<208 then if t<96 then if t<48 then if t<16 then ty0.1.getD (t-0) none else if t<32 then ty1.1.getD (t-16) none else ty2.1.getD (t-32) none else if t<64 then ty3.1.getD (t-48) none else if t<80 then ty4.1.getD (t-64) none else ty5.1.getD (t-80) none else if t<144 then if t<112 then ty6.1.getD (t-96) none else if t<128 then ty7.1.getD (t-112) none else ty8.1.getD (t-128) none else if t<176 then if t<160 then ty9.1.getD (t-144) none else aaS.1.getD (t-160) none else if t<192 then aaT.1.getD (t-176) none else aaU.1.getD (t-192) none else if t<320 then if t<256 then if t<224 then aaV.1.getD (t-208) none else if t<240 then aaW.1.getD (t-224) none else aaX.1.getD (t-240) none else if t<288 then if t<272 then aaY.1.getD (t-256) none else aaZ.1.getD (t-272) none else if t<304 then aa0.1.getD (t-288) none else aa1.1.getD (t-304) none else if t<368 then if t<336 then aa2.1.getD (t-320) none else if t<352 then aa3.1.getD (t-336) none else aa4.1.getD (t-352) none else if t<400 then if t<384 then aa5.1.getD (t-368) none else aa6.1.getD (t-384) none else if t<416 then aa7.1.getD (t-400) none else aa8.1.getD (t-416) none)else prog.info? t
theorem tyE:Yw=prog.info?:=by
 funext t;unfold Yw
 repeat' split
 ·exact cR ty0.2 (by omega) (by omega)
 ·exact cR ty1.2 (by omega) (by omega)
 ·exact cR ty2.2 (by omega) (by omega)
 ·exact cR ty3.2 (by omega) (by omega)
 ·exact cR ty4.2 (by omega) (by omega)
 ·exact cR ty5.2 (by omega) (by omega)
 ·exact cR ty6.2 (by omega) (by omega)
 ·exact cR ty7.2 (by omega) (by omega)
 ·exact cR ty8.2 (by omega) (by omega)
 ·exact cR ty9.2 (by omega) (by omega)
 ·exact cR aaS.2 (by omega) (by omega)
 ·exact cR aaT.2 (by omega) (by omega)
 ·exact cR aaU.2 (by omega) (by omega)
 ·exact cR aaV.2 (by omega) (by omega)
 ·exact cR aaW.2 (by omega) (by omega)
 ·exact cR aaX.2 (by omega) (by omega)
 ·exact cR aaY.2 (by omega) (by omega)
 ·exact cR aaZ.2 (by omega) (by omega)
 ·exact cR aa0.2 (by omega) (by omega)
 ·exact cR aa1.2 (by omega) (by omega)
 ·exact cR aa2.2 (by omega) (by omega)
 ·exact cR aa3.2 (by omega) (by omega)
 ·exact cR aa4.2 (by omega) (by omega)
 ·exact cR aa5.2 (by omega) (by omega)
 ·exact cR aa6.2 (by omega) (by omega)
 ·exact cR aa7.2 (by omega) (by omega)
 ·exact cR aa8.2 (by omega) (by omega)
 ·rfl
theorem jq:(∀nt c sc,oh prog Yw nt c=some sc->comp prog nt c=some sc)/\ ∀l rs,zW Yw l=some rs->iu prog l=some rs:=by
 rw[tyE,Nl,Ft];exact⟨fun _ _ _ h=>h,fun _ _ h=>h⟩
abbrev aH (f:FuncId) (a:List PV) (r:PV):Prop:=qG prog f a r
theorem eW {f:FuncId} {fn:Func} {sc:SC} {rs:List qK} (hent:Enters prog f f) (hfn:prog.funcs[f]?=some fn) {args:List PV} {r:PV} (h:CW prog (Kf rs r) sc [] ⟨WG 0 args,[],1000⟩) (hb:fn.body.isSome=true:=by exact rfl) (hc:oh prog Yw fn.ntmps (fn.body.getD .skip)=some sc:=by cbv) (hr:zW Yw fn.results.toList=some rs:=by cbv) (hlen:Nat.ble args.length fn.ntmps=true:=by exact rfl):qG prog f args r:=qG.w mixed hent hfn hb (jq.1 _ _ _ hc) (jq.2 _ _ hr) hlen h
end Go.Proofs.Tryz
namespace Go.Dom
open Go.RowKit
variable {K R:Act->World->Prop} {P:Program} {a a' a0:Act} {ops:Array Oper}

def nr (ops:Array Oper) (a a':Act):Prop:= ∀k,(∀(j:Nat) (o:Oper),ops[j]?=some o->o.dst≠some k)->a'.tmps.getD k undef=a.tmps.getD k undef
theorem nr.put (h:nr ops a a') {j:Nat} {o:Oper} (ho:ops[j]?=some o) (v:Value) (ds:List Deferred):nr ops a (({a' with defers:=ds}:Act).put o.dst v):=by
 intro k hk;have hd:=hk j o ho;unfold Act.put
 cases hdst:o.dst with
 |none=>exact h k hk
 |some d=>
  have hne:d≠k:=fun e=>hd (by rw[hdst,e])
  show(a'.tmps.setIfInBounds d v).getD k undef= _;rw[<-h k hk];simp[jw,Array.getElem?_setIfInBounds,hne]
theorem nr.at (h:nr ops a a') (k:Nat) (hk:(ops.toList.all fun o=> !(o.dst==some k))=true):a'.tmps.getD k undef=a.tmps.getD k undef:=by
 refine h k fun j o ho he=> ?_
 have hm:o∈ops.toList:=Array.mem_toList_iff.2 (qm ho);have:=bz.1 hk o hm;rw[he]at this;simp at this
theorem RI {t:Array Value} {n:Nat} (h:t.size=n):t=((List.range n).map fun k=>t.getD k undef).toArray:=by
 subst h;apply Array.ext
 ·simp
 ·intro i h1 h2;simp[jw,yQ h1]
def QN (R:Act->World->Prop):Exit->Act->World->Prop:=fun e a w=>e= .normal/\R a w
theorem LS {F:Fence} {n:Nat} {j:Nat} {o:Oper} (ho:ops[j]?=some o) (hk:nr ops a0 a) {r:Result Next} (h:o.uponIn F n P a K (QN R) r):o.uponIn F n P a (fun a' w'=>K a' w'/\nr ops a0 a') (QN fun a w=>R a w/\nr ops a0 a) r:=by
 have hl: ∀(R:Act->World->Prop),¬LetsOut (QN R):=by rintro R ⟨a,w,h,-⟩;cases h
 have hp: ∀(v:Value),nr ops a0 (a.put o.dst v):=fun v=>hk.put ho v a.defers
 cases r with
 |ok x w'=>
  cases x with
  |value v=>exact⟨h,hp v⟩
  |skip=>exact⟨h,hp _⟩
  |defer d=>exact⟨h,hk.put ho _ _⟩
  |enter f args=>
   simp only[Oper.uponIn]at h⊢;refine⟨h.1,CallsIn.mono h.2 fun e w'' he=> ?_⟩
   cases e with
   |returned v=>exact⟨he,hp v⟩
   |panicked c=>obtain⟨h,-⟩:=he;cases h
   |outgrown=>exact(hl _ he).elim
  |row row args=>
   simp only[Oper.uponIn]at h⊢;exact⟨h.1,RowsIn.mono h.2 fun v w'' he=>⟨he,hp v⟩⟩
  |round l f tmps assign body=>
   simp only[Oper.uponIn]at h⊢;refine⟨h.1,RoundIn.mono h.2 fun e w'' he=> ?_⟩
   cases e with
   |returned v=>exact⟨he,hp v⟩
   |panicked c=>obtain⟨h,-⟩:=he;cases h
   |outgrown=>exact(hl _ he).elim
  | _=>exact h
 |halt e w'=>
  cases e with
  |panic v=>obtain⟨h,-⟩:=h;cases h
  | _=>exact h
theorem Tl {F:Fence} {n:Nat} {w:World} {i:Nat} (hk:nr ops a0 a) (h:wpOpIn F n P ops (QN R) i K a w):wpOpIn F n P ops (QN fun a w=>R a w/\nr ops a0 a) i (fun a' w'=>K a' w'/\nr ops a0 a') a w:=by
 unfold wpOpIn at*
 cases ho:ops[i]? with
 |none=>simp only[ho]at h⊢;exact⟨h,hk⟩
 |some o=>
  simp only[ho]at h⊢;split
  ·rename_i hw;rw[af hw]at h;exact⟨h.1,LS ho hk h.2⟩
  ·rename_i hw;rw[aa hw]at h;exact⟨h.1,h.2,hk.put ho _ a.defers⟩
theorem Mw {F:Fence} {n:Nat} {md:Region.Mode}: ∀(fuel:Nat) (listed:Array Bool) (a:Act) (w:World),nr ops a0 a->wpAnyIn F n P md ops (QN R) fuel listed a w->wpAnyIn F n P md ops (QN fun a w=>R a w/\nr ops a0 a) fuel listed a w:=by
 intro fuel
 induction fuel with
 |zero=>intro listed a w hk h;exact⟨h.1,h.2.1,h.2.2,hk⟩
 |succ fuel ih=>
  intro listed a w hk h;refine⟨fun hr=>⟨(h.1 hr).1,(h.1 hr).2,hk⟩,fun i hi=> ?_⟩
  exact wpOpIn_mono (fun a' w' h'=>ih _ _ _ h'.2 h'.1) (Tl hk (h.2 i hi))
theorem Lm [cW P] (hm:P.follows .mixedOrders=true) {id:Nat} {sc:SC} {W:World} {rd:Rd} {pvs out:List (Nat×PV)} (hc:comp P a.tmps.size (.region id ops true)=some sc) (hd:a.defers=[]) (htr: ∀b o v,TR P b o=some v->rd b o=some v) (hrd: ∀b o v,rd b o=some v->W.cell? ⟨b,o,none⟩=some v)
  (hp: ∀p∈pvs,PR rd p.2 (a.tmps.getD p.1 undef)) (h:aw P sc (fun x s=>x= .normal/\ ∀p∈out,aO s.t p.1= .v p.2) ⟨pvs.map fun p=>(p.1, .v p.2),[],1000⟩):
  (Code.region id ops true).wpIn Fence.wide 0 P (fun e a' W'=>e= .normal/\((a'.defers=[]/\a'.tmps.size=a.tmps.size/\Below W.heap.size W W'/\ ∀p∈out,PR (gK rd W W') p.2 (a'.tmps.getD p.1 undef))/\nr ops a a')) a W:=by
 let E:Env P:=⟨W,rd,fun b=>W.heap.size<=b,a.tmps.size,⟨rd,fun _=>False,fun _=>none,fun _=>0,fun _=>0,fun _=>false⟩,[],fun _ h=>h.elim,htr,W.heap.size,[],none,⟨rd,fun _=>False,fun _=>none,fun _=>0,fun _=>0,fun _=>false⟩,aA _,by simp,[],by simp⟩
 have hs0:nZ E ⟨pvs.map fun p=>(p.1, .v p.2),[],1000⟩ a W:=by
  refine⟨⟨⟨rd,fun n=>n<1000,fun _=>none,fun _=>0,fun _=>0,fun _=>false⟩,?_,⟨hrd,?_,fun _ _=>rfl,?_,?_,?_,?_,?_,fun n ob hn=>by simp[Dom.az]at hn⟩,fun _ _=>rfl,⟨⟨Wf.refl _ _,aA _,by simp[E]⟩,⟨⟨fun _ _ _ h=>h,fun _ h=>h.elim,fun _ h=>h.elim,fun _ h=>h.elim⟩,⟨fun _ _ _ h=>h,fun _ h=>h.elim,fun _ h=>h.elim,fun _ h=>h.elim⟩⟩,fun n ob hn=>by simp[Dom.az]at hn⟩,hd,rfl,?_⟩,fun n hn=>hn.elim False.elim False.elim⟩
  ·intro n;simp
  ·intro n ob hn;simp[Dom.az]at hn
  ·intro n ob hn;simp[Dom.az]at hn
  ·intro n m ob oc hn;simp[Dom.az]at hn
  ·intro n ob hn;simp[Dom.az]at hn
  ·intro n ob hn;simp[Dom.az]at hn
  ·intro n ob hn;simp[Dom.az]at hn
  ·intro k;rcases GX (t:=pvs.map fun p=>(p.1,AV.v p.2)) (k:=k)with e|e
   ·rw[e];exact .u _
   ·obtain⟨p,hpm,he⟩:=cx.1 e;injection he with e1 e2
    rw[<-e2,<-e1];exact .v (hp p hpm)
 have hend: ∀(s:AS) (a':Act) (W':World),(∀p∈out,aO s.t p.1= .v p.2)->nZ E s a' W'->a'.defers=[]/\a'.tmps.size=a.tmps.size/\Below W.heap.size W W'/\ ∀p∈out,PR (gK rd W W') p.2 (a'.tmps.getD p.1 undef):=by
  intro s a' W' hq hsr;obtain⟨⟨C,hal,hh,hrd',⟨hwf,-,-⟩,hdf,hsz,htm⟩,-⟩:=hsr;refine⟨hdf,hsz,⟨hwf.wf.os,hwf.wf.tape,hwf.wf.output,hwf.wf.size,fun k hk=>hwf.wf.blk k hk (fun hw=>by have:W.heap.size<=k:=hw;omega)⟩,fun p hp=> ?_⟩
  have h1:=htm p.1;rw[hq p hp]at h1
  cases h1 with
  |v h2=>
   refine h2.mono fun b o v hv=> ?_
   unfold gK
   by_cases hb:b<W.heap.size
   ·rw[af hb];have e:C.rd b=rd b:=hrd' b (.inl hb);rw[e]at hv;exact hv
   ·rw[aa hb];exact hh.rdw _ _ _ hv
 simp only[comp,I4]at hc
 split at hc
 ·rename_i sops hsops;obtain⟨hlen,hok⟩:=zV hsops;simp only[aC]at hc
  split at hc
  ·rename_i hcond;simp only[bc]at hcond;simp only[ar]at hc;subst hc;simp only[aw]at h;obtain⟨s2,tr,h1,h2,h3,h4⟩:=Fg (sops:=sops) sops 0 _ [] _ (fun j=>by simp) h
   rw[<-EA]at h1;have hl:=FH h1;rw[qk]at hl;have hind:=Ai hl hcond.2 h3;rw[hlen]at h1 hind;refine wpIn_region_any hm ?_;refine Mw (R:=fun a' W'=>a'.defers=[]/\a'.tmps.size=a.tmps.size/\Below W.heap.size W W'/\ ∀p∈out,PR (gK rd W W') p.2 (a'.tmps.getD p.1 undef)) _ _ _ _ (fun _ _=>rfl) ?_
   have hrep: ∀k,k<ops.size->(Array.replicate ops.size false).getD k true=false:=by
    intro k hk;simp[jw,hk]
   refine C5 (E:=E) (fun b hb=>hb) hlen hok hcond.1 (nx:=1000) (al:=fun n=>n<1000) (fun k _ h=>by omega) ?_ ops.size _ (List.range ops.size) _ _ tr a _ (by simp) List.pairwise_lt_range ?_ (by simp) ?_ h1 hind ?_
   ·intro a' w' hsr;refine⟨rfl,hend {s2 with nx:=1000+sops.length} a' w' h4.2 ?_⟩
    rw[hlen];exact nZ.region hs0.2 hsr
   ·intro k;rw[fV];exact⟨fun h=>⟨h,hrep k h⟩,fun h=>h.1⟩
   ·intro j o ho hl;have hj:j<ops.size:=(kL.1 ho).1;rw[hrep j hj]at hl;cases hl
   ·refine hs0.1.drew.ml fun n=>⟨.inl,?_⟩
    rintro(h|⟨k,h1,h2,-⟩)
    ·exact h
    ·rw[hrep k h1]at h2;cases h2
  ·cases hc
 ·cases hc
