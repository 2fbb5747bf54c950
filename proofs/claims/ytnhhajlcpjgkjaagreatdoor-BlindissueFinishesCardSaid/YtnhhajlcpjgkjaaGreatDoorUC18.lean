/- Part of the proof. -/
import Derived.Test.YtnhhajlcpjgkjaaGreatDoorUC17
set_option linter.all false
namespace Go.Dom
open Go.RowKit
section
variable (P:Program) [cE P] (I:TypeId->Option TypeInfo)
def jX (t:TypeId):Option TypeDesc:=
 match I t with
 |some {desc:= .named _ u, .. }=>(I u).map (·.desc)
 |some i=>some i.desc
 |none=>none
def Bk (t:TypeId):Option (List AV):=do
 let i<-I t
 let z<-i.zero
 if z.cells.size=i.size then aW Pu z.cells.toList else none
def VW (t:TypeId):Option PV:=do
 let i<-I t
 let v<-i.zero
 match Pu v with
 |some (.v z)=>some z
 | _=>none
def BS (t:TypeId):Option Bool:=
 match jX I t with
 |some (.struct _)=>some true
 |some (.array _ _)=>some true
 |some _=>some false
 |none=>none
def iZ (t:TypeId):Option Nat:=(I t).map (·.size)
def Qp (fs:Array Field) (ps:Array (Nat×Operand)):Option (List (Nat×Nat×SX)):=
 aW (fun p=>do
  let f<-fs[p.1]?
  let z<-iZ I f.type
  let x<-sx P p.2
  some (f.offset,z,x)) ps.toList
def Jg (o:Oper) (c:Call):Option SO:=
 match c.callee with
 | .value f=>do
  let f<-sx P f
  let args<-aW (sx P) c.args.toList
  some (.call f args)
 | .builtin b=>
  match b,c.args.toList,c.argTypes.toList with
  | .len,[x],[t]=>match jX I t with
   |some .string=>do some (.lenS (<-sx P x))
   |some (.slice _)=>do some (.len (<-sx P x))
   |some (.array n _)=>some (.lenA n)
   | _=>none
  | .append,[x,y],[t,u]=>match jX I t,jX I u with
   |some (.slice e),some (.slice e')=>do
    let i<-I e
    let z<-i.zero
    if z.cells.size=i.size/\0<i.size/\e=e'/\t=u then some (.app e i.size i.bytes (<-sx P x) (<-sx P y))else none
   |some (.slice e),some .string=>do
    let i<-I e
    let z<-i.zero
    if z.cells.size=i.size/\i.size=1 then some (.app e i.size i.bytes (<-sx P x) (<-sx P y))else none
   | _,_=>none
  | .copy,[x,y],[t,u]=>match jX I t,jX I u with
   |some (.slice e),some (.slice _)=>do some (.cpy (<-iZ I e) (<-sx P x) (<-sx P y))
   |some (.slice e),some .string=>do
    if(<-iZ I e)=1 then some (.cpy 1 (<-sx P x) (<-sx P y))else none
   | _,_=>none
  | .clear,[x],[t]=>match jX I t with
   |some (.slice e)=>do some (.clr (<-Bk I e) (<-sx P x))
   | _=>none
  | .max,[x,y],_=>do some (.mm true (<-sx P x) (<-sx P y))
  | .min,[x,y],_=>do some (.mm false (<-sx P x) (<-sx P y))
  | .unsafeSliceData,[x],_=>do some (.sld (<-sx P x))
  | .unsafeString,[x,y],[pt,_]=>match jX I pt with
   |some (.pointer e)=>do if(iZ I e).getD 0=1 then some (.ust e (<-sx P x) (<-sx P y))else none
   | _=>none
  | _,_,_=>none
 | .invoke _ _=>none
def Pt (o:Oper):Option SO:=
 match o.op with
 | .move x=>do some (.mov (<-sx P x))
 | .assign x=>do some (.mov (<-sx P x))
 | .pick c a b=>do some (.pick (<-sx P c) (<-sx P a) (<-sx P b))
 | .alloc t=>do some (.alloc t (<-Bk I t))
 | .box _ x=>do some (.box (<-sx P x))
 | .build t ps=>match jX I t with
  |some (.struct fs)=>do
   if fs.toList.all (fun f=>(iZ I f.type).isSome)then some (.build (<-Bk I t) (<-Qp P I fs ps))else none
  |some (.array _ e)=>do
   let z<-iZ I e
   some (.build (<-Bk I t) (<-Gh P z ps))
  | _=>none
 | .buildSlice t n ps=>match jX I t with
  |some (.slice e)=>do
   let z<-iZ I e
   let ze<-Bk I e
   let xs<-aW (sx P) (ps.toList.map (·.2))
   if ps.toList.map (·.1)=List.range n/\n*z<=16777216/\0<z then some (.bsl (isW ze) z xs)else none
  | _=>none
 | .load t x=>do
  let ag<-BS I t
  let z<-iZ I t
  if ag||z==1 then some (.ld ag z (<-sx P x))else none
 | .store t a x=>do
  let z<-iZ I t
  some (.st z (<-sx P a) (<-sx P x))
 | .binOp op t x y _=>match jX I t with
  |some (.int _)=>do some (.bin op (<-sx P x) (<-sx P y))
  |some .string=>do some (.bin op (<-sx P x) (<-sx P y))
  |some .bool=>match op with
   | .eql=>do some (.beq false (<-sx P x) (<-sx P y))
   | .neq=>do some (.beq true (<-sx P x) (<-sx P y))
   | _=>none
  |some (.pointer te)=>if(I te).isSome then(match op with
   | .eql=>do some (.peq false (<-sx P x) (<-sx P y))
   | .neq=>do some (.peq true (<-sx P x) (<-sx P y))
   | _=>none)else none
  |some (.struct _)=>match op,(cE.pl P).find? (·.1==t)with
   | .eql,some q=>do some (.ceq false q.2 (<-sx P x) (<-sx P y))
   | .neq,some q=>do some (.ceq true q.2 (<-sx P x) (<-sx P y))
   | _,_=>none
  |some (.slice _)=>match op,y with
   | .eql, .const (.slice none 0 0)=>do some (.snl false (<-sx P x))
   | .neq, .const (.slice none 0 0)=>do some (.snl true (<-sx P x))
   | _,_=>none
  | _=>none
 | .unOp op _ x=>do some (.un op (<-sx P x))
 | .convert s d x=>match jX I s,jX I d with
  |some (.int _),some (.int k)=>do some (.cvi k (<-sx P x))
  |some .string,some .string=>do some (.cvs (<-sx P x))
  |some (.slice e),some .string=>match jX I e with
   |some (.int .u8)=>do
    if(<-iZ I e)=1 then some (.b2s (<-sx P x))else none
   | _=>none
  |some .string,some (.slice e)=>match jX I e with
   |some (.int .u8)=>do some (.s2b (<-sx P x))
   | _=>none
  |some (.pointer t),some .unsafePointer=>do
   if(<-iZ I t)=0 then none else some (.cvp (fun _ _ _=>true) (<-sx P x))
  |some .unsafePointer,some (.pointer u)=>do
   if(<-iZ I u)=0 then none else some (.cvp (fun e n o=>liesAt P P.depth e (n/P.cellsOf e) o u 1) (<-sx P x))
  | _,_=>none
 | .makeSlice t l c=>match jX I t with
  |some (.slice e)=>do
   let i<-I e
   let z<-Bk I e
   if 0<i.size/\0<i.bytes then some (.mks z i.bytes (<-sx P l) (<-sx P c))else none
  | _=>none
 | .slice t x lo hi mx=>match jX I t with
  |some .string=>match mx with
   |none=>do some (.slS (<-sx P x) (<-zd P lo) (<-zd P hi))
   |some _=>none
  |some (.slice e)=>do some (.slL (<-iZ I e) (<-sx P x) (<-zd P lo) (<-zd P hi) (<-zd P mx))
  |some (.array n e)=>do some (.slA n (<-iZ I e) (<-sx P x) (<-zd P lo) (<-zd P hi) (<-zd P mx))
  | _=>none
 | .fieldAddr s x f=>match jX I s with
  |some (.struct fs)=>do
   let fl<-fs[f]?
   let z<-iZ I fl.type
   if z=0 then none else some (.fad fl.offset (<-sx P x))
  | _=>none
 | .field s x f=>match jX I s with
  |some (.struct fs)=>do
   let fl<-fs[f]?
   let z<-iZ I fl.type
   let ag<-BS I fl.type
   if ag||z==1 then some (.fld ag fl.offset z (<-sx P x))else none
  | _=>none
 | .indexAddr t x i=>match jX I t with
  |some (.slice e)=>do some (.ixs (<-iZ I e) (<-sx P x) (<-sx P i))
  |some (.array n e)=>do some (.ixa n (<-iZ I e) (<-sx P x) (<-sx P i))
  | _=>none
 | .index t x i=>match jX I t with
  |some .string=>do some (.ixS (<-sx P x) (<-sx P i))
  |some (.array n e)=>do
   let z<-iZ I e
   let ag<-BS I e
   if ag||z==1 then some (.ixV ag n z (<-sx P x) (<-sx P i))else none
  | _=>none
 | .extract x k=>do some (.ext (<-sx P x) k)
 | .call c=>Jg P I o c
 | .makeFunc f a c=>do some (.mkf f (<-aW (sx P) a.toList) (<-aW (sx P) c.toList))
 | .nilCheck x=>do some (.nck (<-sx P x))
 | .makeInterface t x=>match jX I t with
  |some (.int _)=>do some (.mki t (<-sx P x))
  |some .string=>do some (.mki t (<-sx P x))
  | _=>none
 | .makeMap t r=>match r,jX I t with
  |none,some (.map _ _)=>some .mkm
  |some (.const (.int _ _)),some (.map _ _)=>some .mkm
  | _,_=>none
 | .lookup t x k c=>match jX I t with
  |some (.map kt et)=>do
   let z<-VW I et
   let x<-sx P x
   let k<-sx P k
   match jX I kt with
   |some (.int _)=>some (.mget c false z x k)
   |some .string=>some (.mget c true z x k)
   | _=>none
  | _=>none
 | .mapUpdate t m k v=>match jX I t with
  |some (.map kt _)=>do
   let m<-sx P m
   let k<-sx P k
   let v<-sx P v
   match jX I kt with
   |some (.int _)=>some (.mset false m k v)
   |some .string=>some (.mset true m k v)
   | _=>none
  | _=>none
 | .panic _=>some .stop
 | _=>none
def TD (nt:Nat) (ops:Array Oper) (o:Oper):Option jE:=
 match Pt P I o,Hq ops nt o.guard with
 |some so,some g=>if Zm nt o.dst then some ⟨o.dst,so,g⟩else none
 | _,_=>none
def LI (nt:Nat) (ops:Array Oper) (draw:Bool):Option SC:=
 match aW (TD P I nt ops) ops.toList with
 |some sops=>if draw then(if Gc ops (Region.before ops).toList&&stat (Region.before ops).toList sops then some (.reg (some (Region.before ops).toList) sops)else none)else some (.reg none sops)
 |none=>none
def xL:List ResultVar->Option (List pB):=
 aW fun
  | .tmp t=>some (.t t)
  | .cell a ty=>match BS I ty,iZ I ty with
   |some ag,some z=>if ag||z==1 then some (.c a ag z)else none
   | _,_=>none
end
def jI (P:Program) [cE P] (I:TypeId->Option TypeInfo) (nt:Nat):Code->Option SC
 | .skip=>some .skip
 | .region _ ops draw=>LI P I nt ops draw
 | .seq a b=>match jI P I nt a,jI P I nt b with
  |some a,some b=>some (.seq a b)
  | _,_=>none
 | .cond c a b=>match sx P c,jI P I nt a,jI P I nt b with
  |some c,some a,some b=>some (.cond c a b)
  | _,_,_=>none
 | .block id a=>match jI P I nt a with
  |some a=>some (.blk id a)
  |none=>none
 | .loop a=>match jI P I nt a with
  |some a=>some (.loop a)
  |none=>none
 | .rangeFunc g ps a b=>match sx P g,jI P I nt a,jI P I nt b with
  |some g,some a,some b=>if a.eB&&b.eB&&ps.toList.all (fun p=>Nat.blt p nt)then some (.rng g ps.toList a b)else none
  | _,_,_=>none
 | .exit id=>some (.exit id)
 | .ret=>some .ret
 | .refuse _=>some .stop
 | .scope a=>jI P I nt a
 | .label _=>some .skip
 | _=>none
section
variable {P:Program} [cE P]
theorem LG:jI P P.info?=comp P:=by
 funext nt c
 have h:LI P P.info?=Hs P:=rfl
 induction c<;>simp_all[jI,comp]<;>rfl
theorem DL:xL P.info?=gD P:=rfl
end
theorem bT {β:Type} {f:Nat->Option β} {a n:Nat} {l:List (Option β)} (h:(List.range' a n).map f=l) {t:Nat} (h1:a<=t) (h2:t<a+n):l.getD (t-a) none=f t:=by
 subst h;have:t-a<n:=by omega
 simp[ca,this,show a+(t-a)=t by omega]
end Go.Dom
namespace Go.Dom
open Go.RowKit
variable {K R:Act->World->Prop} {P:Program} {a a' a0:Act} {j n:Nat} {ops:Array Oper}

def lX (ops:Array Oper) (a a':Act):Prop:= ∀k,(∀(j:Nat) (o:Oper),ops[j]?=some o->o.dst≠some k)->a'.tmps.getD k undef=a.tmps.getD k undef
theorem lX.put (h:lX ops a a') {o:Oper} (ho:ops[j]?=some o) (v:Value) (ds:List Deferred):lX ops a (({a' with defers:=ds}:Act).put o.dst v):=by
 intro k hk;have hd:=hk j o ho;unfold Act.put
 cases hdst:o.dst with
 |none=>exact h k hk
 |some d=>
  have hne:d≠k:=fun e=>hd (by rw[hdst,e])
  show(a'.tmps.setIfInBounds d v).getD k undef= _;rw[<-h k hk];simp[iG,Array.getElem?_setIfInBounds,hne]
theorem lX.at (h:lX ops a a') (k:Nat) (hk:(ops.toList.all fun o=> !(o.dst==some k))=true):a'.tmps.getD k undef=a.tmps.getD k undef:=by
 refine h k fun j o ho he=> ?_
 have hm:o∈ops.toList:=Array.mem_toList_iff.2 (tI ho);have:=bH.1 hk o hm;rw[he]at this;simp at this
theorem O0 {t:Array Value} (h:t.size=n):t=((List.range n).map fun k=>t.getD k undef).toArray:=by
 subst h;apply Array.ext
 ·simp
 ·intro i h1 h2;simp[iG,wX h1]
def QN (R:Act->World->Prop):Exit->Act->World->Prop:=fun e a w=>e= .normal/\R a w
theorem Kp {F:Fence} {o:Oper} (ho:ops[j]?=some o) (hk:lX ops a0 a) {r:Result Next} (h:o.uponIn F n P a K (QN R) r):o.uponIn F n P a (fun a' w'=>K a' w'/\lX ops a0 a') (QN fun a w=>R a w/\lX ops a0 a) r:=by
 have hl: ∀(R:Act->World->Prop),¬LetsOut (QN R):=by rintro R ⟨a,w,h,-⟩;cases h
 have hp: ∀(v:Value),lX ops a0 (a.put o.dst v):=fun v=>hk.put ho v a.defers
 cases r with
 |ok x w'=>
  cases x with
  |value v=>exact⟨h,hp v⟩
  |skip=>exact⟨h,hp _⟩
  |defer d=>exact⟨h,hk.put ho _ _⟩
  |enter f args=>
   simp only[Oper.uponIn]at h⊢;refine⟨h.1,CallsIn.mono h.2 fun e w'' he=> ?_⟩
   cases e with
   |returned v=>exact⟨he,hp v⟩
   |panicked c=>obtain⟨h,-⟩:=he;cases h
   |outgrown=>exact(hl _ he).elim
  |row row args=>
   simp only[Oper.uponIn]at h⊢;exact⟨h.1,RowsIn.mono h.2 fun v w'' he=>⟨he,hp v⟩⟩
  |round l f tmps assign body=>
   simp only[Oper.uponIn]at h⊢;refine⟨h.1,RoundIn.mono h.2 fun e w'' he=> ?_⟩
   cases e with
   |returned v=>exact⟨he,hp v⟩
   |panicked c=>obtain⟨h,-⟩:=he;cases h
   |outgrown=>exact(hl _ he).elim
  | _=>exact h
 |halt e w'=>
  cases e with
  |panic v=>obtain⟨h,-⟩:=h;cases h
  | _=>exact h
theorem Qn {F:Fence} {w:World} {i:Nat} (hk:lX ops a0 a) (h:wpOpIn F n P ops (QN R) i K a w):wpOpIn F n P ops (QN fun a w=>R a w/\lX ops a0 a) i (fun a' w'=>K a' w'/\lX ops a0 a') a w:=by
 unfold wpOpIn at*
 cases ho:ops[i]? with
 |none=>simp only[ho]at h⊢;exact⟨h,hk⟩
 |some o=>
  simp only[ho]at h⊢;split
  ·rename_i hw;rw[ah hw]at h;exact⟨h.1,Kp ho hk h.2⟩
  ·rename_i hw;rw[af hw]at h;exact⟨h.1,h.2,hk.put ho _ a.defers⟩
theorem KR {F:Fence} {md:Region.Mode}: ∀(fuel:Nat) (listed:Array Bool) (a:Act) (w:World),lX ops a0 a->wpAnyIn F n P md ops (QN R) fuel listed a w->wpAnyIn F n P md ops (QN fun a w=>R a w/\lX ops a0 a) fuel listed a w:=by
 intro fuel
 induction fuel with
 |zero=>intro listed a w hk h;exact⟨h.1,h.2.1,h.2.2,hk⟩
 |succ fuel ih=>
  intro listed a w hk h;refine⟨fun hr=>⟨(h.1 hr).1,(h.1 hr).2,hk⟩,fun i hi=> ?_⟩
  exact wpOpIn_mono (fun a' w' h'=>ih _ _ _ h'.2 h'.1) (Qn hk (h.2 i hi))
theorem JW [cE P] (hm:P.follows .mixedOrders=true) {id:Nat} {sc:SC} {W:World} {rd:Rd} {pvs out:List (Nat×PV)} (hc:comp P a.tmps.size (.region id ops true)=some sc) (hd:a.defers=[]) (htr: ∀b o v,TR P b o=some v->rd b o=some v) (hrd: ∀b o v,rd b o=some v->W.cell? ⟨b,o,none⟩=some v)
  (hp: ∀p∈pvs,PR rd p.2 (a.tmps.getD p.1 undef)) (h:aw P sc (fun x s=>x= .normal/\ ∀p∈out,aS s.t p.1= .v p.2) ⟨pvs.map fun p=>(p.1, .v p.2),[],1000⟩):
  (Code.region id ops true).wpIn Fence.wide 0 P (fun e a' W'=>e= .normal/\((a'.defers=[]/\a'.tmps.size=a.tmps.size/\Below W.heap.size W W'/\ ∀p∈out,PR (fI rd W W') p.2 (a'.tmps.getD p.1 undef))/\lX ops a a')) a W:=by
 let E:Env P:=⟨W,rd,fun b=>W.heap.size<=b,a.tmps.size,⟨rd,fun _=>False,fun _=>none,fun _=>0,fun _=>0,fun _=>false⟩,[],fun _ h=>h.elim,htr,W.heap.size,[],none,⟨rd,fun _=>False,fun _=>none,fun _=>0,fun _=>0,fun _=>false⟩,aD _,by simp,[],by simp⟩
 have hs0:mH E ⟨pvs.map fun p=>(p.1, .v p.2),[],1000⟩ a W:=by
  refine⟨⟨⟨rd,fun n=>n<1000,fun _=>none,fun _=>0,fun _=>0,fun _=>false⟩,?_,⟨hrd,?_,fun _ _=>rfl,?_,?_,?_,?_,?_,fun n ob hn=>by simp[Dom.aB]at hn⟩,fun _ _=>rfl,⟨⟨Wf.refl _ _,aD _,by simp[E]⟩,⟨⟨fun _ _ _ h=>h,fun _ h=>h.elim,fun _ h=>h.elim,fun _ h=>h.elim⟩,⟨fun _ _ _ h=>h,fun _ h=>h.elim,fun _ h=>h.elim,fun _ h=>h.elim⟩⟩,fun n ob hn=>by simp[Dom.aB]at hn⟩,hd,rfl,?_⟩,fun n hn=>hn.elim False.elim False.elim⟩
  ·intro n;simp
  ·intro n ob hn;simp[Dom.aB]at hn
  ·intro n ob hn;simp[Dom.aB]at hn
  ·intro n m ob oc hn;simp[Dom.aB]at hn
  ·intro n ob hn;simp[Dom.aB]at hn
  ·intro n ob hn;simp[Dom.aB]at hn
  ·intro n ob hn;simp[Dom.aB]at hn
  ·intro k;rcases E8 (t:=pvs.map fun p=>(p.1,AV.v p.2)) (k:=k)with e|e
   ·rw[e];exact .u _
   ·obtain⟨p,hpm,he⟩:=cv.1 e;injection he with e1 e2
    rw[<-e2,<-e1];exact .v (hp p hpm)
 have hend: ∀(s:AS) (a':Act) (W':World),(∀p∈out,aS s.t p.1= .v p.2)->mH E s a' W'->a'.defers=[]/\a'.tmps.size=a.tmps.size/\Below W.heap.size W W'/\ ∀p∈out,PR (fI rd W W') p.2 (a'.tmps.getD p.1 undef):=by
  intro s a' W' hq hsr;obtain⟨⟨C,hal,hh,hrd',⟨hwf,-,-⟩,hdf,hsz,htm⟩,-⟩:=hsr;refine⟨hdf,hsz,⟨hwf.wf.os,hwf.wf.tape,hwf.wf.output,hwf.wf.size,fun k hk=>hwf.wf.blk k hk (fun hw=>by have:W.heap.size<=k:=hw;omega)⟩,fun p hp=> ?_⟩
  have h1:=htm p.1;rw[hq p hp]at h1
  cases h1 with
  |v h2=>
   refine h2.mono fun b o v hv=> ?_
   unfold fI
   by_cases hb:b<W.heap.size
   ·rw[ah hb];have e:C.rd b=rd b:=hrd' b (.inl hb);rw[e]at hv;exact hv
   ·rw[af hb];exact hh.rdw _ _ _ hv
 simp only[comp,Hs]at hc
 split at hc
 ·rename_i sops hsops;obtain⟨hlen,hok⟩:=xK hsops;simp only[az]at hc
  split at hc
  ·rename_i hcond;simp only[ba]at hcond;simp only[an]at hc;subst hc;simp only[aw]at h;obtain⟨s2,tr,h1,h2,h3,h4⟩:=Dx (sops:=sops) sops 0 _ [] _ (fun j=>by simp) h
   rw[<-CU]at h1;have hl:=DZ h1;rw[wH]at hl;have hind:=xT hl hcond.2 h3;rw[hlen]at h1 hind;refine wpIn_region_any hm ?_;refine KR (R:=fun a' W'=>a'.defers=[]/\a'.tmps.size=a.tmps.size/\Below W.heap.size W W'/\ ∀p∈out,PR (fI rd W W') p.2 (a'.tmps.getD p.1 undef)) _ _ _ _ (fun _ _=>rfl) ?_
   have hrep: ∀k,k<ops.size->(Array.replicate ops.size false).getD k true=false:=by
    intro k hk;simp[iG,hk]
   refine Bj (E:=E) (fun b hb=>hb) hlen hok hcond.1 (nx:=1000) (al:=fun n=>n<1000) (fun k _ h=>by omega) ?_ ops.size _ (List.range ops.size) _ _ tr a _ (by simp) List.pairwise_lt_range ?_ (by simp) ?_ h1 hind ?_
   ·intro a' w' hsr;refine⟨rfl,hend {s2 with nx:=1000+sops.length} a' w' h4.2 ?_⟩
    rw[hlen];exact mH.region hs0.2 hsr
   ·intro k;rw[fS];exact⟨fun h=>⟨h,hrep k h⟩,fun h=>h.1⟩
   ·intro j o ho hl;have hj:j<ops.size:=(ju.1 ho).1;rw[hrep j hj]at hl;cases hl
   ·refine hs0.1.drew.kH fun n=>⟨.inl,?_⟩
    rintro(h|⟨k,h1,h2,-⟩)
    ·exact h
    ·rw[hrep k h1]at h2;cases h2
  ·cases hc
 ·cases hc
