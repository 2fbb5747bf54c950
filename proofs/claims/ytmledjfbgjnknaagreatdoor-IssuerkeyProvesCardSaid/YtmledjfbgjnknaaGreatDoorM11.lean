/-
  Part of the proof, part 11. Own work.
-/
import Derived.Test.YtmledjfbgjnknaaGreatDoorM10
set_option linter.all false
namespace Go.Dom
open Go.RowKit
def tget:List (Nat×AV)→Nat→AV
 |[],_=> .u
 |(j,v)::r,k=>if k=j then v else tget r k
def tdel:List (Nat×AV)→Nat→List (Nat×AV)
 |[],_=>[]
 |(j,v)::r,k=>if j=k then tdel r k else(j,v)::tdel r k
def tput (t:List (Nat×AV)) (d:Option Nat) (v:AV):List (Nat×AV):=
 match d with
 |some d=>(d,v)::tdel t d
 |none=>t
def hget:List (Nat×AObj)→Nat→Option AObj
 |[],_=>none
 |(j,v)::r,k=>if k=j then some v else hget r k
def hdel:List (Nat×AObj)→Nat→List (Nat×AObj)
 |[],_=>[]
 |(j,v)::r,k=>if j=k then hdel r k else(j,v)::hdel r k
def hput (h:List (Nat×AObj)) (n:Nat) (o:Option AObj):List (Nat×AObj):=
 match o with
 |some o=>(n,o)::hdel h n
 |none=>hdel h n
def hputs (h:List (Nat×AObj)):List (Nat×Option AObj)→List (Nat×AObj)
 |[]=>h
 |(n,o)::r=>hputs (hput h n o) r
theorem tget_tdel (t:List (Nat×AV)) (d k:Nat):tget (tdel t d) k=if k=d then .u else tget t k:=by
 induction t with
 |nil=>simp[tdel,tget]
 |cons p t ih=>
  obtain⟨j,v⟩:=p;simp only[tdel,tget]
  by_cases h1:j=d
  ·subst h1;rw[if_pos rfl,ih]
   by_cases h2:k=j<;>simp[h2]
  ·rw[if_neg h1,tget,ih]
   by_cases h2:k=j
   ·subst h2;simp[h1]
   ·simp[h2]
theorem tget_tput (t:List (Nat×AV)) (d:Option Nat) (v:AV):tget (tput t d v)=putF (tget t) d v:=by
 cases d with
 |none=>rfl
 |some d=>
  funext k
  simp only[tput,tget,putF,tget_tdel]
  by_cases h:k=d<;>simp[h]
theorem hget_hdel (h:List (Nat×AObj)) (d k:Nat):hget (hdel h d) k=if k=d then none else hget h k:=by
 induction h with
 |nil=>simp[hdel,hget]
 |cons p h ih=>
  obtain⟨j,v⟩:=p;simp only[hdel,hget]
  by_cases h1:j=d
  ·subst h1;rw[if_pos rfl,ih]
   by_cases h2:k=j<;>simp[h2]
  ·rw[if_neg h1,hget,ih]
   by_cases h2:k=j
   ·subst h2;simp[h1]
   ·simp[h2]
theorem hget_hput (h:List (Nat×AObj)) (n:Nat) (o:Option AObj):hget (hput h n o)=fun k=>if k=n then o else hget h k:=by
 funext k
 cases o with
 |none=>simp only[hput,hget_hdel]
 |some o=>
  simp only[hput,hget,hget_hdel]
  by_cases h:k=n<;>simp[h]
theorem hget_hputs (u:List (Nat×Option AObj)): ∀(h:List (Nat×AObj)),hget (hputs h u)=updF (hget h) u:=by
 induction u with
 |nil=>intro h;rfl
 |cons p u ih=>
  obtain⟨n,o⟩:=p;intro h;simp only[hputs,updF,ih,hget_hput]
structure AS where
 t:List (Nat×AV)
 h:List (Nat×AObj)
 nx:Nat
def AS.upd (s:AS) (d:Option Nat) (v:AV) (up:List (Nat×Option AObj)):AS:=⟨tput s.t d v,hputs s.h up,s.nx⟩
def optW (x:Option AO) (K:AO→Prop):Prop:=
 match x with
 |some ao=>ao.pre∧K ao
 |none=>False
def CallW (P:Program) [Tabs P] (nm:Nat) (h:List (Nat×AObj)) (fv:AV) (avs:List AV) (K:AO→Prop):Prop:= ∃ao,ACall P nm (hget h) fv avs ao∧K ao
def awOp (P:Program) [Tabs P] (nm:Nat) (o:SO) (s:AS) (K:AO→Prop):Prop:=
 match o with
 | .call f args=>CallW P nm s.h (f.ev (tget s.t)) (args.map (SX.ev (tget s.t))) K
 |o=>optW (aop nm o (tget s.t) (hget s.h)) K
def AS.set (s:AS) (t:Nat) (v:AV):AS:=⟨tput s.t (some t) v,s.h,s.nx⟩
def bcase (x:Bool) (a b:Prop):Prop:=(x=true→a)∧(x=false→b)
theorem bcase_true (a b:Prop):bcase true a b=a:=by simp[bcase]
theorem bcase_false (a b:Prop):bcase false a b=b:=by simp[bcase]
def gdW (v:AV) (t:Nat) (want:Bool) (s:AS) (yes no:AS→Prop):Prop:=
 match v with
 | .v (.b x)=>bcase x ((match want with|true=>yes|false=>no) (s.set t (.v (.b true)))) ((match want with|true=>no|false=>yes) (s.set t (.v (.b false))))
 | .v (.tup [])=>no s
 | _=>False
def awGd (g:Option (Nat×Bool)) (s:AS) (yes no:AS→Prop):Prop:=
 match g with
 |none=>yes s
 |some (t,want)=>gdW (tget s.t t) t want s yes no
def awOps (P:Program) [Tabs P] (nx:Nat):List SOp→Nat→AS→(AS→Prop)→Prop
 |[],_,s,K=>K s
 |o::r,k,s,K=>awGd o.g s (fun s=>awOp P (nx+k) o.o s fun ao=>awOps P nx r (k+1) (s.upd o.d ao.v ao.up) K) (fun s=>awOps P nx r (k+1) (s.upd o.d (.v (.tup [])) []) K)
def awTr (P:Program) [Tabs P] (nx:Nat):List SOp→Nat→AS→List (Nat×List Nat×List Nat)→(AS→List (Nat×List Nat×List Nat)→Prop)→Prop
 |[],_,s,tr,K=>K s tr
 |o::r,k,s,tr,K=>awGd o.g s (fun s=>awOp P (nx+k) o.o s fun ao=>awTr P nx r (k+1) (s.upd o.d ao.v ao.up) ((k,ao.rs,ao.up.map (·.1))::tr) K) (fun s=>awTr P nx r (k+1) (s.upd o.d (.v (.tup [])) []) ((k,[],[])::tr) K)
def chk (bf:List Nat):List (Nat×List Nat×List Nat)→Bool
 |[]=>true
 |(j,r,w)::tr=>tr.all (fun(i,r',w')=>(w.isEmpty&&w'.isEmpty)||(bf.getD j 0).testBit i||apartN r' w' r w)&&chk bf tr
def stat (bf:List Nat) (sops:List SOp):Bool:=
 (List.range sops.length).all fun j=>(List.range j).all fun i=>(bf.getD j 0).testBit i||match sops[i]?,sops[j]? with
  |some x,some y=>apartT x y
  | _,_=>false
inductive AX where
 |normal
 |exit (id:Nat)
 |ret
def AV.bd (N:Nat):AV→Bool
 | .p n _ _=>decide (n<N)
 | .rs n _ _ _ _=>decide (n<N)
 | .agg l=>bdL N l
 | .tup l=>bdL N l
 | .fn _ a c=>bdL N a&&bdL N c
 | _=>true
where bdL (N:Nat):List AV→Bool
 |[]=>true
 |x::r=>x.bd N&&bdL N r
def AV.off (ns:List Nat):AV→Bool
 | .p n _ _=> !ns.contains n
 | .rs n _ _ _ _=> !ns.contains n
 | .agg l=>offL ns l
 | .tup l=>offL ns l
 | .fn _ a c=>offL ns a&&offL ns c
 | _=>true
where offL (ns:List Nat):List AV→Bool
 |[]=>true
 |x::r=>x.off ns&&offL ns r
structure AS.Le (s s':AS):Prop where
 t: ∃ns:List Nat,(∀n∈ns,1000≤n∧hget s.h n=none)∧ ∀p∈s.t,tget s'.t p.1=p.2∨ ∃y,p.2= .v y∧view (hget s'.h) 9 (tget s'.t p.1)=some y∧ ∀n∈viewN (hget s'.h) 9 (tget s'.t p.1),n∈ns
 h: ∀p∈s.h,hget s'.h p.1=some p.2
 nx:s.nx≤s'.nx
 bt: ∀p∈s.t,p.2.bd s.nx=true
 bh: ∀p∈s.h,p.1<s.nx∧ ∀c∈p.2.cells,c.bd s.nx=true
def condW (v:AV) (a b:Prop):Prop:=
 match v with
 | .v (.b c)=>bcase c a b
 | .ub=>a∧b
 | _=>False
def LoopW (B:(AX→AS→Prop)→AS→Prop) (Q:AX→AS→Prop) (N:Nat) (s:AS):Prop:=
 ∀X:AS→Prop,(∀s1,B (fun e s'=>match e with
  | .normal=>X s'
  |e=>Q e s') s1→X s1)→(∀s1 s2:AS,N≤s1.nx→s1.Le s2→X s1→X s2)→X s
def ItP (P:Program) [Tabs P] (g:FuncId) (caps:List PV) (fin:Bool) (xs:List (List PV)):Prop:=
 Enters P g g∧ ∀(w:World) (rd:Rd) (cvs:List Value) (l:Nat) (J:List (List PV)→World→Prop) (Jx:World→Prop),
  (∀b o v,TR P b o=some v→rd b o=some v)→RelL (PR rd) caps cvs→
  (∀ys W,J ys W→ ∀b o v,rd b o=some v→W.cell? ⟨b,o,none⟩=some v)→
  (∀ys W W',J ys W→Below W.heap.size W W'→J ys W')→(∀W W',Jx W→Below W.heap.size W W'→Jx W')→
  (∀y ys vs W,J (y::ys) W→RelL (PR rd) y vs→YieldAt Fence.wide 0 P l vs.toArray W fun e W'=>(e= .returned (.bool true)∧J ys W')∨(e= .returned (.bool false)∧Jx W'))→
  (fin=false→ ∀W,¬J [] W)→J xs w→CallsIn Fence.wide 0 P g (#[.func (.yield l) #[] #[]]++cvs.toArray) w fun e W'=>(∃v,e= .returned v)∧(J [] W'∨Jx W')
def setPs:List (Nat×AV)→List Nat→List PV→List (Nat×AV)
 |t,p::ps,v::vs=>setPs (tput t p (.v v)) ps vs
 |t,_,_=>t
def RngW (RB:List PV→(AX→AS→Prop)→AS→Prop) (Q:AX→AS→Prop) (t0:List (Nat×AV)) (N:Nat) (fin:Bool) (xs:List (List PV)) (s:AS):Prop:=
 ∀X:List (List PV)→AS→Prop,(∀s1,fin=true→Q .normal s1→X [] s1)→(∀y ys s1,RB y (fun e s'=>match e with
  | .normal=>X ys {s' with t:=t0}
  |e=>Q e {s' with t:=t0}) s1→X (y::ys) s1)→(∀ys (s1 s2:AS),N≤s1.nx→s1.Le s2→X ys s1→X ys s2)→X xs s
def backQ (ns:List Nat) (s:AS) (Q:AX→AS→Prop) (e:AX) (s':AS):Prop:=
 if ns=[]then Q e s' else(∀p∈s'.h,∀c∈p.2.cells,c.off ns=true)∧Q e ⟨s.t,hputs s'.h (ns.map fun n=>(n,hget s.h n)),s'.nx⟩
theorem backQ_mono {ns:List Nat} {s:AS} {Q Q':AX→AS→Prop} (h: ∀e s,Q e s→Q' e s) (e:AX) (s':AS) (hq:backQ ns s Q e s'):backQ ns s Q' e s':=by
 unfold backQ at hq⊢
 split at hq
 ·rename_i hn;rw[if_pos hn];exact h _ _ hq
 ·rename_i hn;rw[if_neg hn];exact⟨hq.1,h _ _ hq.2⟩
def aw (P:Program) [Tabs P]:SC→(AX→AS→Prop)→AS→Prop
 | .skip,Q,s=>Q .normal s
 | .reg none ops,Q,s=>awOps P s.nx ops 0 s fun s'=>Q .normal {s' with nx:=s.nx+ops.length}
 | .reg (some bf) ops,Q,s=>awTr P s.nx ops 0 s [] fun s' tr=>chk bf tr=true∧Q .normal {s' with nx:=s.nx+ops.length}
 | .seq a b,Q,s=>aw P a (fun e s'=>match e with
  | .normal=>aw P b Q s'
  |e=>Q e s') s
 | .cond x a b,Q,s=>condW (x.ev (tget s.t)) (aw P a Q s) (aw P b Q s)
 | .blk id a,Q,s=>aw P a (fun e s'=>match e with
  | .exit j=>if j=id then Q .normal s' else Q (.exit j) s'
  |e=>Q e s') s
 | .loop a,Q,s=>LoopW (aw P a) Q s.nx s
 | .rng x ps a b,Q,s=> ∃g caps fin xs ns,view (hget s.h) 9 (x.ev (tget s.t))=some (.fc g [] caps)∧(∀n∈viewN (hget s.h) 9 (x.ev (tget s.t)),n∈ns)∧(∀n∈ns,1000≤n)∧ItP P g caps fin xs∧(∀y∈xs,y.length=ps.length∧(ns=[]∨ ∀p∈y,p.flat=true))∧
   RngW (fun y Qx s1=>aw P a (fun e s2=>match e with
    | .normal=>aw P b Qx s2
    | _=>False) {s1 with t:=setPs s1.t ps y}) (backQ ns s Q) s.t s.nx fin xs {s with h:=hputs s.h (ns.map fun n=>(n,none))}
 | .exit id,Q,s=>Q (.exit id) s
 | .ret,Q,s=>Q .ret s
 | .stop,_,_=>False
theorem optW_mono {x:Option AO} {K K':AO→Prop} (h: ∀ao,K ao→K' ao) (hx:optW x K):optW x K':=by
 unfold optW at hx⊢;split
 ·exact⟨hx.1,h _ hx.2⟩
 ·exact hx
theorem awOp_mono {P:Program} [Tabs P] {nm:Nat} {o:SO} {s:AS} {K K':AO→Prop} (h: ∀ao,K ao→K' ao) (hx:awOp P nm o s K):awOp P nm o s K':=by
 unfold awOp at hx⊢;split
 ·obtain⟨ao,h1,h2⟩:=hx;exact⟨ao,h1,h _ h2⟩
 ·rename_i hne
  cases o<;>first|exact absurd rfl (hne _ _)|exact optW_mono h hx
theorem awGd_mono {g:Option (Nat×Bool)} {s:AS} {y y' n n':AS→Prop} (hy: ∀s,y s→y' s) (hn: ∀s,n s→n' s) (h:awGd g s y n):awGd g s y' n':=by
 unfold awGd at h⊢;split
 ·exact hy _ h
 ·rename_i t want;unfold gdW at h⊢;simp only at h;split
  ·rename_i x hx;rw[hx]at h;refine⟨fun e=> ?_,fun e=> ?_⟩
   ·have:=h.1 e;cases want
    ·exact hn _ this
    ·exact hy _ this
   ·have:=h.2 e;cases want
    ·exact hy _ this
    ·exact hn _ this
  ·rename_i hx;rw[hx]at h;exact hn _ h
  ·rename_i h1 h2
   split at h
   ·rename_i hx;exact absurd hx (h1 _)
   ·rename_i hx;exact absurd hx h2
   ·exact h
theorem awOps_mono {P:Program} [Tabs P] {nx:Nat} {ops:List SOp}: ∀{k:Nat} {s:AS} {K K':AS→Prop},(∀s,K s→K' s)→awOps P nx ops k s K→awOps P nx ops k s K':=by
 induction ops with
 |nil=>intro k s K K' h hx;exact h _ hx
 |cons o r ih=>
  intro k s K K' h hx;simp only[awOps]at hx⊢;exact awGd_mono (fun s hs=>awOp_mono (fun ao ha=>ih h ha) hs) (fun s hs=>ih h hs) hx
theorem awTr_mono {P:Program} [Tabs P] {nx:Nat} {ops:List SOp}: ∀{k:Nat} {s:AS} {tr:List (Nat×List Nat×List Nat)} {K K':AS→List (Nat×List Nat×List Nat)→Prop},(∀s t,K s t→K' s t)→awTr P nx ops k s tr K→awTr P nx ops k s tr K':=by
 induction ops with
 |nil=>intro k s tr K K' h hx;exact h _ _ hx
 |cons o r ih=>
  intro k s tr K K' h hx;simp only[awTr]at hx⊢;exact awGd_mono (fun s hs=>awOp_mono (fun ao ha=>ih h ha) hs) (fun s hs=>ih h hs) hx
theorem aw_mono {P:Program} [Tabs P] {sc:SC}: ∀{Q Q':AX→AS→Prop} {s:AS},(∀e s,Q e s→Q' e s)→aw P sc Q s→aw P sc Q' s:=by
 induction sc with
 |skip=>intro Q Q' s h hx;exact h _ _ hx
 |reg bf ops=>
  intro Q Q' s h hx
  cases bf with
  |none=>exact awOps_mono (fun s hs=>h _ _ hs) hx
  |some bf=>exact awTr_mono (fun s t hs=>⟨hs.1,h _ _ hs.2⟩) hx
 |seq a b iha ihb=>
  intro Q Q' s h hx;simp only[aw]at hx⊢;refine iha (fun e s hs=> ?_) hx
  cases e with
  |normal=>exact ihb h hs
  |exit j=>exact h _ _ hs
  |ret=>exact h _ _ hs
 |cond x a b iha ihb=>
  intro Q Q' s h hx;simp only[aw]at hx⊢;unfold condW at hx⊢;generalize x.ev (tget s.t)=v at hx⊢
  cases v with
  |v y=>cases y with
   |b c=>exact⟨fun e=>iha h (hx.1 e),fun e=>ihb h (hx.2 e)⟩
   | _=>exact hx.elim
  |ub=>exact⟨iha h hx.1,ihb h hx.2⟩
  | _=>exact hx.elim
 |blk id a iha=>
  intro Q Q' s h hx;simp only[aw]at hx⊢;refine iha (fun e s hs=> ?_) hx
  cases e with
  |normal=>exact h _ _ hs
  |exit j=>
   simp only at hs⊢;split
   ·rename_i e;rw[if_pos e]at hs;exact h _ _ hs
   ·rename_i e;rw[if_neg e]at hs;exact h _ _ hs
  |ret=>exact h _ _ hs
 |loop a iha=>
  intro Q Q' s h hx;simp only[aw]at hx⊢;intro X h1 h2;refine hx X (fun s1 hB=>h1 s1 (iha (fun e s hs=> ?_) hB)) h2
  cases e with
  |normal=>exact hs
  |exit j=>exact h _ _ hs
  |ret=>exact h _ _ hs
 |rng x ps a b iha ihb=>
  intro Q Q' s h hx;simp only[aw]at hx⊢;obtain⟨g,caps,fin,xs,ns,h1,h2,h4,h5,h3,hx⟩:=hx;refine⟨g,caps,fin,xs,ns,h1,h2,h4,h5,h3,fun X g1 g2 g3=>hx X (fun s1 hf hq=>g1 s1 hf (backQ_mono h _ _ hq)) (fun y ys s1 hB=>g2 y ys s1 (iha (fun e s2 hs=> ?_) hB)) g3⟩
  cases e with
  |normal=>
   refine ihb (fun e s3 hs3=> ?_) hs
   cases e with
   |normal=>exact hs3
   |exit j=>exact backQ_mono h _ _ hs3
   |ret=>exact backQ_mono h _ _ hs3
  |exit j=>exact hs
  |ret=>exact hs
 |exit id=>intro Q Q' s h hx;exact h _ _ hx
 |ret=>intro Q Q' s h hx;exact h _ _ hx
 |stop=>intro Q Q' s h hx;exact hx
theorem loop_unroll {P:Program} [Tabs P] {a:SC} {Q:AX→AS→Prop} {N:Nat} {s:AS} (h:aw P a (fun e s'=>match e with
  | .normal=>LoopW (aw P a) Q N s'
  |e=>Q e s') s):LoopW (aw P a) Q N s:=by
 intro X h1 h2;refine h1 s (aw_mono (fun e s' hs=> ?_) h)
 cases e with
 |normal=>exact hs X h1 h2
 |exit j=>exact hs
 |ret=>exact hs
theorem loop_weak {B:(AX→AS→Prop)→AS→Prop} {Q:AX→AS→Prop} {N:Nat} {s s':AS} (hN:N≤s'.nx) (hle:s'.Le s) (h:LoopW B Q N s'):LoopW B Q N s:=
 fun X h1 h2=>h2 s' s hN hle (h X h1 h2)
theorem loop_down {P:Program} [Tabs P] {a:SC} {Q:AX→AS→Prop} {N:Nat} {s:AS} {α:Type} (m:α→Nat) (st:α→AS) (ok:α→Prop) (a0:α) (hN: ∀x,N≤(st x).nx) (h0:ok a0) (hle:(st a0).Le s)
  (hr: ∀x,ok x→aw P a (fun e s'=>match e with
   | .normal=> ∃y,ok y∧m y<m x∧(st y).Le s'
   |e=>Q e s') (st x)):LoopW (aw P a) Q N s:=by
 refine loop_weak (hN a0) hle ?_;have key: ∀(n:Nat) (x:α),m x=n→ok x→LoopW (aw P a) Q N (st x):=by
  intro n
  induction n using Nat.strongRecOn with
  | _ n ih=>
   intro x hx hok;refine loop_unroll (aw_mono (fun e s' hs=> ?_) (hr x hok))
   cases e with
   |normal=>
    obtain⟨y,h1,h2,h3⟩:=hs;exact loop_weak (hN y) h3 (ih (m y) (hx▸h2) y rfl h1)
   |exit j=>exact hs
   |ret=>exact hs
 exact key _ a0 rfl h0
def compG (ops:Array Oper) (nt:Nat):Option (Nat×Bool)→Option (Option (Nat×Bool))
 |none=>some none
 |some (j,w)=>match (ops[j]?).bind (·.dst)with
  |some t=>if t<nt then some (some (t,w))else none
  |none=>none
def dOk (nt:Nat):Option Nat→Bool
 |some d=>decide (d<nt)
 |none=>true
def compO (P:Program) [Tabs P] (nt:Nat) (ops:Array Oper) (o:Oper):Option SOp:=
 match compOp P o,compG ops nt o.guard with
 |some so,some g=>if dOk nt o.dst then some ⟨o.dst,so,g⟩else none
 | _,_=>none
def compR (P:Program) [Tabs P] (nt:Nat) (ops:Array Oper) (draw:Bool):Option SC:=
 match mapO (compO P nt ops) ops.toList with
 |some sops=>if draw then(if okBf ops (Region.before ops).toList&&stat (Region.before ops).toList sops then some (.reg (some (Region.before ops).toList) sops)else none)else some (.reg none sops)
 |none=>none
def SC.norng:SC→Bool
 | .seq a b=>a.norng&&b.norng
 | .cond _ a b=>a.norng&&b.norng
 | .blk _ a=>a.norng
 | .loop a=>a.norng
 | .rng _ _ _ _=>false
 | _=>true
def comp (P:Program) [Tabs P] (nt:Nat):Code→Option SC
 | .skip=>some .skip
 | .region _ ops draw=>compR P nt ops draw
 | .seq a b=>match comp P nt a,comp P nt b with
  |some a,some b=>some (.seq a b)
  | _,_=>none
 | .cond c a b=>match sx P c,comp P nt a,comp P nt b with
  |some c,some a,some b=>some (.cond c a b)
  | _,_,_=>none
 | .block id a=>match comp P nt a with
  |some a=>some (.blk id a)
  |none=>none
 | .loop a=>match comp P nt a with
  |some a=>some (.loop a)
  |none=>none
 | .rangeFunc g ps a b=>match sx P g,comp P nt a,comp P nt b with
  |some g,some a,some b=>if a.norng&&b.norng&&ps.toList.all (fun p=>Nat.blt p nt)then some (.rng g ps.toList a b)else none
  | _,_,_=>none
 | .exit id=>some (.exit id)
 | .ret=>some .ret
 | .refuse _=>some .stop
 | .scope a=>comp P nt a
 | .label _=>some .skip
 | _=>none
section
variable {P:Program} [Tabs P]
theorem awOp_R {nm:Nat} {o:SO} {s:AS} {K:AO→Prop} (h:awOp P nm o s K): ∃ao,OpR P nm o (tget s.t) (hget s.h) ao∧K ao:=by
 unfold awOp at h
 split at h
 ·obtain⟨ao,h1,h2⟩:=h;exact⟨ao,h1,h2⟩
 ·rename_i hne;unfold optW at h
  split at h
  ·rename_i ao ha;refine⟨ao,?_,h.2⟩;unfold OpR;split
   ·exact absurd rfl (hne _ _)
   ·exact⟨ha,h.1⟩
  ·exact h.elim
theorem set_same {s:AS} {t:Nat} {v:AV} (h:tget s.t t=v):tget (s.set t v).t=tget s.t:=by
 funext k
 simp only[AS.set,tget_tput,putF]
 by_cases e:k=t
 ·subst e;simp[h]
 ·simp[e]
theorem awGd_F {g:Option (Nat×Bool)} {s:AS} {yes no:AS→Prop} (h:awGd g s yes no): ∃s',tget s'.t=tget s.t∧s'.h=s.h∧s'.nx=s.nx∧((gdF g (tget s.t)=some true∧yes s')∨(gdF g (tget s.t)=some false∧no s')):=by
 cases g with
 |none=>exact⟨s,rfl,rfl,rfl, .inl ⟨rfl,h⟩⟩
 |some p=>
  obtain⟨t,want⟩:=p;simp only[awGd,gdW]at h;simp only[gdF]
  split at h
  ·rename_i x hx;rw[hx];cases x
   ·refine⟨s.set t (.v (.b false)),set_same hx,rfl,rfl,?_⟩;cases want
    ·exact .inl ⟨rfl,h.2 rfl⟩
    ·exact .inr ⟨rfl,h.2 rfl⟩
   ·refine⟨s.set t (.v (.b true)),set_same hx,rfl,rfl,?_⟩;cases want
    ·exact .inr ⟨rfl,h.1 rfl⟩
    ·exact .inl ⟨rfl,h.1 rfl⟩
  ·rename_i hx;rw[hx];exact⟨s,rfl,rfl,rfl, .inr ⟨rfl,h⟩⟩
  ·exact h.elim
theorem awOps_run {nx:Nat} {sops:List SOp}: ∀(ops:List SOp) (k:Nat) (s:AS) (K:AS→Prop),(∀j,sops[k+j]?=ops[j]?)→awOps P nx ops k s K→
  ∃s2 tr,FRun P nx sops (List.range' k ops.length) (tget s.t) (hget s.h) (tget s2.t) (hget s2.h) tr∧s2.nx=s.nx∧K s2:=by
 intro ops
 induction ops with
 |nil=>intro k s K _ h;exact⟨s,[], .nil _ _,rfl,h⟩
 |cons o r ih=>
  intro k s K hget h;have ho:sops[k]?=some o:=by have:=hget 0;simpa using this
  have hr: ∀j,sops[k+1+j]?=r[j]?:=by intro j;have:=hget (j+1);rw[show k+1+j=k+(j+1) by omega];simpa using this
  simp only[awOps]at h;rw[List.length_cons,List.range'_succ];obtain⟨sg,e1,e2,e3,⟨hg,h⟩|⟨hg,h⟩⟩:=awGd_F h
  ·obtain⟨ao,hop,h⟩:=awOp_R h;rw[e1,e2]at hop;obtain⟨s2,tr,h1,h2,h3⟩:=ih (k+1) _ K hr h;refine⟨s2,_, .cons ho (.inr ⟨hg,ao,hop,rfl,rfl,rfl,rfl⟩) (by simpa[AS.upd,tget_tput,hget_hputs,e1,e2]using h1),h2.trans e3,h3⟩
  ·obtain⟨s2,tr,h1,h2,h3⟩:=ih (k+1) _ K hr h;refine⟨s2,_, .cons ho (.inl ⟨hg,rfl,rfl,rfl,rfl⟩) (by simpa[AS.upd,tget_tput,hget_hputs,updF,e1,e2]using h1),h2.trans e3,h3⟩
def enumT:Nat→List (List Nat×List Nat)→List (Nat×List Nat×List Nat)
 | _,[]=>[]
 |k,t::r=>(k,t.1,t.2)::enumT (k+1) r
theorem awTr_run {nx:Nat} {sops:List SOp}: ∀(ops:List SOp) (k:Nat) (s:AS) (tr0:List (Nat×List Nat×List Nat)) (K:AS→List (Nat×List Nat×List Nat)→Prop),(∀j,sops[k+j]?=ops[j]?)→awTr P nx ops k s tr0 K→
  ∃s2 tr,FRun P nx sops (List.range' k ops.length) (tget s.t) (hget s.h) (tget s2.t) (hget s2.h) tr∧s2.nx=s.nx∧K s2 ((enumT k tr).reverse++tr0):=by
 intro ops
 induction ops with
 |nil=>intro k s tr0 K _ h;exact⟨s,[], .nil _ _,rfl,by simpa[enumT,awTr]using h⟩
 |cons o r ih=>
  intro k s tr0 K hget h;have ho:sops[k]?=some o:=by have:=hget 0;simpa using this
  have hr: ∀j,sops[k+1+j]?=r[j]?:=by intro j;have:=hget (j+1);rw[show k+1+j=k+(j+1) by omega];simpa using this
  simp only[awTr]at h;rw[List.length_cons,List.range'_succ];obtain⟨sg,e1,e2,e3,⟨hg,h⟩|⟨hg,h⟩⟩:=awGd_F h
  ·obtain⟨ao,hop,h⟩:=awOp_R h;rw[e1,e2]at hop;obtain⟨s2,tr,h1,h2,h3⟩:=ih (k+1) _ _ K hr h;refine⟨s2,_, .cons ho (.inr ⟨hg,ao,hop,rfl,rfl,rfl,rfl⟩) (by simpa[AS.upd,tget_tput,hget_hputs,e1,e2]using h1),h2.trans e3,?_⟩
   simpa[enumT]using h3
  ·obtain⟨s2,tr,h1,h2,h3⟩:=ih (k+1) _ _ K hr h;refine⟨s2,_, .cons ho (.inl ⟨hg,rfl,rfl,rfl,rfl⟩) (by simpa[AS.upd,tget_tput,hget_hputs,updF,e1,e2]using h1),h2.trans e3,?_⟩
   simpa[enumT]using h3
theorem enumT_get: ∀(tr:List (List Nat×List Nat)) (k p:Nat) (t:List Nat×List Nat),tr[p]?=some t→(enumT k tr)[p]?=some (k+p,t.1,t.2):=by
 intro tr
 induction tr with
 |nil=>intro k p t h;simp at h
 |cons u tr ih=>
  intro k p t h
  cases p with
  |zero=>simp at h;subst h;simp[enumT]
  |succ p=>simp at h;simp only[enumT,List.getElem?_cons_succ];rw[ih (k+1) p t h];congr 2;omega
theorem enumT_len: ∀(tr:List (List Nat×List Nat)) (k:Nat),(enumT k tr).length=tr.length:=by
 intro tr
 induction tr with
 |nil=>intro k;rfl
 |cons u tr ih=>intro k;simp[enumT,ih]
theorem chk_pair {bf:List Nat}: ∀{l:List (Nat×List Nat×List Nat)},chk bf l=true→ ∀(x y:Nat) (j i:Nat) (r w r' w':List Nat),x<y→l[x]?=some (j,r,w)→l[y]?=some (i,r',w')→
  (bf.getD j 0).testBit i=true∨apartN r' w' r w=true:=by
 intro l
 induction l with
 |nil=>intro _ x y j i r w r' w' _ hx;simp at hx
 |cons p l ih=>
  obtain⟨j0,r0,w0⟩:=p;intro h x y j i r w r' w' hxy hx hy;simp only[chk,Bool.and_eq_true,List.all_eq_true]at h
  cases x with
  |zero=>
   simp at hx;obtain⟨rfl,rfl,rfl⟩:=hx
   cases y with
   |zero=>omega
   |succ y=>
    simp at hy;have:=h.1 _ (List.mem_of_getElem? hy);simp only[Bool.or_eq_true,Bool.and_eq_true,List.isEmpty_iff]at this;rcases this with(⟨h1,h2⟩|h1)|h1
    ·subst h1;subst h2;exact .inr (by simp[apartN])
    ·exact .inl h1
    ·exact .inr h1
  |succ x=>
   cases y with
   |zero=>omega
   |succ y=>exact ih h.2 x y j i r w r' w' (by omega) (by simpa using hx) (by simpa using hy)
theorem indL_of {bf:List Nat} {sops:List SOp}: ∀(R:List Nat) (tr:List (List Nat×List Nat)),(∀(p q:Nat) (i j:Nat) (t u:List Nat×List Nat),p<q→R[p]?=some i→R[q]?=some j→tr[p]?=some t→tr[q]?=some u→may bf sops i j t u)→IndL bf sops R tr:=by
 intro R
 induction R with
 |nil=>intro tr _;cases tr<;>trivial
 |cons i R ih=>
  intro tr h
  cases tr with
  |nil=>trivial
  |cons t tr=>
   refine⟨fun p j u hp hu=>h 0 (p+1) i j t u (by omega) rfl (by simpa using hp) rfl (by simpa using hu),ih tr fun p q a b c d hpq h1 h2 h3 h4=>h (p+1) (q+1) a b c d (by omega) (by simpa using h1) (by simpa using h2) (by simpa using h3) (by simpa using h4)⟩
theorem frun_len {nx:Nat} {sops:List SOp} {R:List Nat} {tf tf2:Nat→AV} {hf hf2:Nat→Option AObj} {tr:List (List Nat×List Nat)} (h:FRun P nx sops R tf hf tf2 hf2 tr):tr.length=R.length:=by
 induction h with
 |nil=>rfl
 |cons _ _ _ ih=>simp[ih]
theorem ind_of_chk {bf:List Nat} {sops:List SOp} {tr:List (List Nat×List Nat)} (hl:tr.length=sops.length) (hs:stat bf sops=true) (hc:chk bf ((enumT 0 tr).reverse++[])=true):IndL bf sops (List.range sops.length) tr:=by
 rw[List.append_nil]at hc;apply indL_of;intro p q i j t u hpq hp hq ht hu;have hqn:q<sops.length:=by have:=(List.getElem?_eq_some_iff.1 hq).1;simpa using this
 have hpn:p<sops.length:=by omega
 rw[List.getElem?_range (by omega)]at hp hq
 injection hp with hp;injection hq with hq;subst hp;subst hq
 have e1:=enumT_get tr 0 p t ht;have e2:=enumT_get tr 0 q u hu;rw[Nat.zero_add]at e1 e2;have hlen:(enumT 0 tr).length=sops.length:=by rw[enumT_len,hl]
 have r1:(enumT 0 tr).reverse[sops.length-1-p]?=some (p,t.1,t.2):=by
  rw[List.getElem?_reverse (by omega),hlen]
  rw[show sops.length-1-(sops.length-1-p)=p by omega];exact e1
 have r2:(enumT 0 tr).reverse[sops.length-1-q]?=some (q,u.1,u.2):=by
  rw[List.getElem?_reverse (by omega),hlen]
  rw[show sops.length-1-(sops.length-1-q)=q by omega];exact e2
 rcases chk_pair hc _ _ _ _ _ _ _ _ (show sops.length-1-q<sops.length-1-p by omega) r2 r1 with h|h
 ·exact .inl h
 ·by_cases hb:(bf.getD q 0).testBit p=true
  ·exact .inl hb
  ·refine .inr ⟨h,fun x y hx hy=> ?_⟩
   simp only[stat,List.all_eq_true,List.mem_range]at hs;have:=hs q hqn p hpq;rw[hx,hy]at this;simp only[Bool.or_eq_true]at this;rcases this with h|h
   ·exact absurd h hb
   ·exact h
theorem AR.restrict {C:Cx} {N:Nat} (cur:Nat→Option Nat) (hcur: ∀n c,cur n=some c→C.cur n=some c) {x:AV} {v:Value} (h:AR C x v):x.bd N=true→AR {C with al:=fun n=>n<N,cur:=cur} x v:=by
 have hall: ∀(l:List AV),AV.bd.bdL N l=true→ ∀(k:Nat) (y:AV),l[k]?=some y→y.bd N=true:=by
  intro l
  induction l with
  |nil=>intro _ k y hy;simp at hy
  |cons x l ih=>
   intro hl k y hy;simp only[AV.bd.bdL,Bool.and_eq_true]at hl
   cases k with
   |zero=>simp at hy;subst hy;exact hl.1
   |succ k=>exact ih hl.2 k y (by simpa using hy)
 induction h with
 |v h=>intro _;exact .v h
 |p n ver o b ha h=>intro hb;simp only[AV.bd,decide_eq_true_eq]at hb;exact .p n ver o b hb fun c hc=>h c (hcur n c hc)
 |pp x o vs bk of h1 hl hr h=>intro _;exact .pp x o vs bk of h1 hl hr h
 |rs n ver o len z b o' cap ha hc ho h=>intro hb;simp only[AV.bd,decide_eq_true_eq]at hb;exact .rs n ver o len z b o' cap hb hc ho fun c hc'=>h c (hcur n c hc')
 |fs l a h=>intro _;exact .fs l a h
 |sn=>intro _;exact .sn
 |agg l vs hl _ ih=>intro hb;exact .agg l vs hl fun k x v hx hv=>ih k x v hx hv (hall l hb k x hx)
 |tup l vs hl _ ih=>intro hb;exact .tup l vs hl fun k x v hx hv=>ih k x v hx hv (hall l hb k x hx)
 |fn f a c va vc hla hlc _ _ iha ihc=>
  intro hb;simp only[AV.bd,Bool.and_eq_true]at hb;exact .fn f a c va vc hla hlc (fun k x v hx hv=>iha k x v hx hv (hall a hb.1 k x hx)) (fun k x v hx hv=>ihc k x v hx hv (hall c hb.2 k x hx))
 |ub x=>intro _;exact .ub x
 |u w=>intro _;exact .u w
def Cx.lend (C:Cx) (ns:List Nat):Cx:={C with cur:=fun n=>if n∈ns then none else C.cur n}
theorem Cx.le_lend (C:Cx) (ns:List Nat):C.Le (C.lend ns):=by
 refine⟨fun _ _ _ h=>h,fun _ h=>h,fun n _ d h=> ?_⟩
 simp only[Cx.lend]at h
 split at h
 ·cases h
 ·exact⟨d,h,Nat.le_refl _,fun _=>⟨rfl,rfl⟩⟩
theorem updF_put (ns:List Nat) (f:Nat→Option AObj): ∀(hf:Nat→Option AObj) (n:Nat),updF hf (ns.map fun n=>(n,f n)) n=if n∈ns then f n else hf n:=by
 induction ns with
 |nil=>intro hf n;simp
 |cons m ns ih=>
  intro hf n;simp only[List.map_cons,updF,ih,List.mem_cons]
  by_cases h1:n∈ns
  ·simp[h1]
  ·by_cases h2:n=m
   ·subst h2;simp
   ·simp[h1,h2]
theorem HR.lend {C:Cx} {hf:Nat→Option AObj} {wr wr':Nat→Prop} {w:World} (h:HR C hf wr w) (ns:List Nat) (hwr: ∀n ob,n∉ns→hf n=some ob→wr' (C.mu n)):HR (C.lend ns) (updF hf (ns.map fun n=>(n,none))) wr' w:=by
 have key: ∀n ob,updF hf (ns.map fun n=>(n,none)) n=some ob→n∉ns∧hf n=some ob:=by
  intro n ob hn;rw[updF_give]at hn
  split at hn
  ·cases hn
  ·rename_i hm;exact⟨hm,hn⟩
 refine⟨h.rdw,?_,?_,?_,?_,?_,?_,?_⟩
 ·intro n ob hn;obtain⟨hm,hn⟩:=key n ob hn;obtain⟨h1,h2⟩:=h.live n ob hn;exact⟨h1,by simp only[Cx.lend,hm,if_false];exact h2⟩
 ·intro n hn;rw[updF_give]at hn;simp only[Cx.lend];split
  ·rfl
  ·rename_i hm;rw[if_neg hm]at hn;exact h.dead n hn
 ·intro n ob hn k;exact h.sep n ob (key n ob hn).2 k
 ·intro n m ob oc hn hm he;exact h.inj n m ob oc (key n ob hn).2 (key m oc hm).2 he
 ·intro n ob hn;exact hwr n ob (key n ob hn).1 (key n ob hn).2
 ·intro n ob hn;obtain⟨cs,el,h1,h2,h3,h4,h5⟩:=h.obj n ob (key n ob hn).2;exact⟨cs,el,h1,h2,h3,h4,fun k x v hx hv=>(h5 k x v hx hv).mono (C.le_lend ns)⟩
 ·intro n ob hn t ht;exact h.typ n ob (key n ob hn).2 t ht
def Cx.back (C D:Cx) (hf:Nat→Option AObj) (ns:List Nat):Cx:=⟨D.rd,D.al,fun n=>if n∈ns then(hf n).map (·.ver)else D.cur n,fun n=>if n∈ns then C.mu n else D.mu n,fun n=>if n∈ns then C.sz n else D.sz n⟩
theorem AR.off {C D:Cx} {hf:Nat→Option AObj} {ns:List Nat} {x:AV} {v:Value} (h:AR D x v):x.off ns=true→AR (C.back D hf ns) x v:=by
 have hall: ∀(l:List AV),AV.off.offL ns l=true→ ∀(k:Nat) (y:AV),l[k]?=some y→y.off ns=true:=by
  intro l
  induction l with
  |nil=>intro _ k y hy;simp at hy
  |cons x l ih=>
   intro hl k y hy;simp only[AV.off.offL,Bool.and_eq_true]at hl
   cases k with
   |zero=>simp at hy;subst hy;exact hl.1
   |succ k=>exact ih hl.2 k y (by simpa using hy)
 induction h with
 |v h=>intro _;exact .v h
 |p n ver o b ha h=>
  intro hb;have hn:n∉ns:=by simpa[AV.off]using hb
  refine .p n ver o b ha fun c hc=> ?_
  simp only[Cx.back,if_neg hn]at hc⊢;exact h c hc
 |pp x o vs bk of h1 hl hr h=>intro _;exact .pp x o vs bk of h1 hl hr h
 |rs n ver o len z b o' cap ha hc ho h=>
  intro hb;have hn:n∉ns:=by simpa[AV.off]using hb
  refine .rs n ver o len z b o' cap ha hc ho fun c hc'=> ?_
  simp only[Cx.back,if_neg hn]at hc'⊢;exact h c hc'
 |fs l a h=>intro _;exact .fs l a h
 |sn=>intro _;exact .sn
 |agg l vs hl _ ih=>intro hb;exact .agg l vs hl fun k x v hx hv=>ih k x v hx hv (hall l hb k x hx)
 |tup l vs hl _ ih=>intro hb;exact .tup l vs hl fun k x v hx hv=>ih k x v hx hv (hall l hb k x hx)
 |fn f a c va vc hla hlc _ _ iha ihc=>
  intro hb;simp only[AV.off,Bool.and_eq_true]at hb;exact .fn f a c va vc hla hlc (fun k x v hx hv=>iha k x v hx hv (hall a hb.1 k x hx)) (fun k x v hx hv=>ihc k x v hx hv (hall c hb.2 k x hx))
 |ub x=>intro _;exact .ub x
 |u w=>intro _;exact .u w
theorem Cx.le_back {C D:Cx} {hf:Nat→Option AObj} {wr:Nat→Prop} {w:World} {ns:List Nat} (h:HR C hf wr w) (hle:(C.lend ns).Le D):C.Le (C.back D hf ns):=by
 refine⟨hle.rd,hle.al,fun n ha d hd=> ?_⟩
 simp only[Cx.back]at hd⊢
 by_cases hn:n∈ns
 ·simp only[if_pos hn]at hd⊢;obtain⟨ob,h1,rfl⟩:=Option.map_eq_some_iff.1 hd;exact⟨_,(h.live n ob h1).2,Nat.le_refl _,fun _=>by simp⟩
 ·simp only[if_neg hn]at hd⊢;obtain⟨c,h1,h2,h3⟩:=hle.cur n ha d hd;simp only[Cx.lend,if_neg hn]at h1;exact⟨c,h1,h2,h3⟩
theorem HR.back {C D:Cx} {hf hf1:Nat→Option AObj} {wr wr1 wr2:Nat→Prop} {w w1:World} {ns:List Nat} (h:HR C hf wr w) (hle:(C.lend ns).Le D) (h1:HR D hf1 wr1 w1) (hcells: ∀n ob,hf1 n=some ob→ ∀c∈ob.cells,c.off ns=true)
  (hpin: ∀n ob,n∈ns→hf n=some ob→w1.heap[C.mu n]?=w.heap[C.mu n]?) (hrd: ∀n ob,n∈ns→hf n=some ob→D.rd (C.mu n)=C.rd (C.mu n)) (hnw: ∀n ob,n∈ns→hf n=some ob→ ¬wr1 (C.mu n)) (hw1: ∀b,wr1 b→wr2 b) (hw2: ∀n ob,n∈ns→hf n=some ob→wr2 (C.mu n)):
  HR (C.back D hf ns) (updF hf1 (ns.map fun n=>(n,hf n))) wr2 w1:=by
 have key: ∀n ob,updF hf1 (ns.map fun n=>(n,hf n)) n=some ob→(n∈ns∧hf n=some ob)∨(n∉ns∧hf1 n=some ob):=by
  intro n ob hn;rw[updF_put]at hn
  split at hn
  ·rename_i hm;exact .inl ⟨hm,hn⟩
  ·rename_i hm;exact .inr ⟨hm,hn⟩
 have hlb:=Cx.le_back h hle;refine⟨h1.rdw,?_,?_,?_,?_,?_,?_,?_⟩
 ·intro n ob hn;rcases key n ob hn with⟨hm,hn⟩|⟨hm,hn⟩
  ·exact⟨hlb.al n (h.live n ob hn).1,by simp[Cx.back,hm,hn]⟩
  ·exact⟨(h1.live n ob hn).1,by simp only[Cx.back,if_neg hm];exact(h1.live n ob hn).2⟩
 ·intro n hn;rw[updF_put]at hn;simp only[Cx.back];split
  ·rename_i hm;rw[if_pos hm]at hn;simp[hn]
  ·rename_i hm;rw[if_neg hm]at hn;exact h1.dead n hn
 ·intro n ob hn k;rcases key n ob hn with⟨hm,hn⟩|⟨hm,hn⟩
  ·simp only[Cx.back,if_pos hm];rw[hrd n ob hm hn];exact h.sep n ob hn k
  ·simp only[Cx.back,if_neg hm];exact h1.sep n ob hn k
 ·intro n m ob oc hn hm he;rcases key n ob hn with⟨a1,a2⟩|⟨a1,a2⟩<;>rcases key m oc hm with⟨b1,b2⟩|⟨b1,b2⟩<;>simp only[Cx.back,a1,b1,if_true,if_false]at he
  ·exact h.inj n m ob oc a2 b2 he
  ·exact absurd (he▸h1.wr m oc b2) (hnw n ob a1 a2)
  ·exact absurd (he▸h1.wr n ob a2) (hnw m oc b1 b2)
  ·exact h1.inj n m ob oc a2 b2 he
 ·intro n ob hn;rcases key n ob hn with⟨hm,hn⟩|⟨hm,hn⟩
  ·simp only[Cx.back,if_pos hm];exact hw2 n ob hm hn
  ·simp only[Cx.back,if_neg hm];exact hw1 _ (h1.wr n ob hn)
 ·intro n ob hn;rcases key n ob hn with⟨hm,hn⟩|⟨hm,hn⟩
  ·obtain⟨cs,el,g1,g2,g3,g4,g5⟩:=h.obj n ob hn;simp only[Cx.back,if_pos hm];exact⟨cs,el,(hpin n ob hm hn).trans g1,g2,g3,g4,fun k x v hx hv=>(g5 k x v hx hv).mono hlb⟩
  ·obtain⟨cs,el,g1,g2,g3,g4,g5⟩:=h1.obj n ob hn;simp only[Cx.back,if_neg hm];exact⟨cs,el,g1,g2,g3,g4,fun k x v hx hv=>(g5 k x v hx hv).off (hcells n ob hn x (List.mem_of_getElem? hx))⟩
 ·intro n ob hn t ht;rcases key n ob hn with⟨hm,hn⟩|⟨hm,hn⟩
  ·obtain⟨cs,g1⟩:=h.typ n ob hn t ht;simp only[Cx.back,if_pos hm];exact⟨cs,(hpin n ob hm hn).trans g1⟩
  ·obtain⟨cs,g1⟩:=h1.typ n ob hn t ht;simp only[Cx.back,if_neg hm];exact⟨cs,g1⟩
def SRs {P:Program} [Tabs P] (E:Env P) (s:AS) (a:Act) (w:World):Prop:=SR E (fun n=>n<s.nx) (tget s.t) (hget s.h) a w∧ ∀n,E.C0.al n∨E.Ce.al n→n<s.nx
theorem tget_mem {t:List (Nat×AV)} {k:Nat}:tget t k= .u∨(k,tget t k)∈t:=by
 induction t with
 |nil=>exact .inl rfl
 |cons p t ih=>
  obtain⟨j,v⟩:=p;simp only[tget]
  by_cases e:k=j
  ·subst e;rw[if_pos rfl];exact .inr (by simp)
  ·rw[if_neg e];rcases ih with h|h
   ·exact .inl h
   ·exact .inr (by simp[h])
theorem hget_mem {h:List (Nat×AObj)} {k:Nat} {o:AObj} (hk:hget h k=some o):(k,o)∈h:=by
 induction h with
 |nil=>simp[hget]at hk
 |cons p h ih=>
  obtain⟨j,v⟩:=p;simp only[hget]at hk
  by_cases e:k=j
  ·subst e;rw[if_pos rfl]at hk;injection hk with hk;subst hk;simp
  ·rw[if_neg e]at hk;simp[ih hk]
theorem SRs.weaken {E:Env P} {s s':AS} {a:Act} {w:World} (hle:s.Le s') (hN: ∀n,E.C0.al n∨E.Ce.al n→n<s.nx) (h:SRs E s' a w):SRs E s a w:=by
 refine⟨?_,hN⟩;obtain⟨⟨C0,hal0,hh0,hrd0,⟨hwf,hC00,hst00⟩,hdf,hsz,htm0⟩,-⟩:=h;obtain⟨ns,hns,hlt⟩:=hle.t;have: ∀b,Decidable (∃n ob,onlyF (hget s'.h) ns n=some ob∧(C0.only ns).mu n=b):=fun b=>Classical.propDecidable _
 have ho:=hh0.only ns;obtain⟨gle,hh⟩:=hh0.gave (Below.refl w.heap.size w) ns 0;have hrest: ∀n ob,updF (hget s'.h) (ns.map fun n=>(n,none)) n=some ob→hget s'.h n=some ob:=by
  intro n ob hn;rw[updF_give]at hn
  split at hn
  ·cases hn
  ·exact hn
 have hrdw: ∀b o v,viewRd (C0.only ns) (onlyF (hget s'.h) ns) w b o=some v→w.cell? ⟨b,o,none⟩=some v:=by
  intro b o v hv;unfold viewRd at hv
  split at hv
  ·exact hv
  ·exact hh0.rdw _ _ _ hv
 have hsub: ∀n ob,hget s.h n=some ob→updF (hget s'.h) (ns.map fun n=>(n,none)) n=some ob:=fun n ob hn=>by
  rw[updF_give,if_neg (fun hm=>by have:=(hns n hm).2;rw[hn]at this;cases this)]
  exact hle.h _ (hget_mem hn)
 have hrd: ∀b,b<E.w0.heap.size∨b∈E.ln→(C0.gave (viewRd (C0.only ns) (onlyF (hget s'.h) ns) w) w w ns 0).rd b=E.rd0 b:=by
  intro b hlt;rw[←hrd0 b hlt]
  funext q
  have h1:b<w.heap.size:=Nat.lt_of_lt_of_le (E.oldFr hlt) hwf.fr;simp only[Cx.gave,extRd,h1,if_true,viewRd];split
  ·rename_i hex;obtain⟨m,oc,hmm,hmu⟩:=hex
   exfalso
   simp only[onlyF]at hmm
   split at hmm
   ·rename_i hmem;have hmu:C0.mu m=b:=hmu;rcases hlt with hlt|hlt
    case inr=>exact(E.lnf b hlt).2 (hmu▸hh0.wr m oc hmm)
    rcases hst00 m oc hmm with⟨h2,-⟩|h2
    ·have:=E.lo m h2;have:=(hns m hmem).1;omega
    ·have hmu:C0.mu m=b:=hmu;omega
   ·cases hmm
  ·rfl
 have hC0:=hC00.trans gle;have hst0: ∀n ob,updF (hget s'.h) (ns.map fun n=>(n,none)) n=some ob→(E.C0.al n∧C0.mu n=E.C0.mu n)∨E.w0.heap.size≤C0.mu n:=fun n ob hn=>hst00 n ob (hrest n ob hn)
 have hmu: ∀n,(C0.gave (viewRd (C0.only ns) (onlyF (hget s'.h) ns) w) w w ns 0).mu n=C0.mu n:=fun _=>rfl
 have htm: ∀p∈s.t,AR (C0.gave (viewRd (C0.only ns) (onlyF (hget s'.h) ns) w) w w ns 0) p.2 (a.tmps.getD p.1 undef):=by
  intro p hp;rcases hlt p hp with e|⟨y,e,hv,hvn⟩
  ·rw[←e];exact(htm0 p.1).mono gle
  ·rw[e];refine .v ((view_ok ho 9 _ y _ ((htm0 p.1).mono (C0.le_only ns)) ?_).mono fun b o v hv=> ?_)
   ·rw[(view_hf (hf:=hget s'.h) (hf':=onlyF (hget s'.h) ns) 9 _ fun n hn=>by simp only[onlyF,hvn n hn,if_true]).1]
    exact hv
   ·simp only[Cx.gave,extRd,cell_lt (hrdw _ _ _ hv),if_true];exact hv
 generalize C0.gave (viewRd (C0.only ns) (onlyF (hget s'.h) ns) w) w w ns 0=C at*;generalize hhf:updF (hget s'.h) (ns.map fun n=>(n,none))=hf at*
 let cur:Nat→Option Nat:=fun n=>(hget s.h n).map (·.ver)
 have hcur: ∀n c,cur n=some c→C.cur n=some c:=by
  intro n c hc;simp only[cur,Option.map_eq_some_iff]at hc;obtain⟨ob,hn,rfl⟩:=hc;exact(hh.live n ob (hsub n ob hn)).2
 refine⟨{C with al:=fun n=>n<s.nx,cur:=cur},fun _=>Iff.rfl,?_,hrd,⟨hwf,⟨⟨hC0.c0.rd,fun n hn=>hN n (.inl hn),fun n hn d hd=>hC0.c0.cur n hn d (hcur n d hd)⟩,⟨hC0.ce.rd,fun n hn=>hN n (.inr hn),fun n hn d hd=>hC0.ce.cur n hn d (hcur n d hd)⟩⟩,fun n ob hn=>by have:=hst0 n ob (hsub n ob hn);rw[←hmu]at this;exact this⟩,hdf,hsz,fun k=> ?_⟩
 ·refine⟨hh.rdw,?_,?_,?_,?_,?_,?_,fun n ob hn=>hh.typ n ob (hsub n ob hn)⟩
  ·intro n ob hn;exact⟨(hle.bh _ (hget_mem hn)).1,by simp[cur,hn]⟩
  ·intro n hn;simp[cur,hn]
  ·exact fun n ob hn=>hh.sep n ob (hsub n ob hn)
  ·exact fun n m ob oc hn hm=>hh.inj n m ob oc (hsub n ob hn) (hsub m oc hm)
  ·exact fun n ob hn=>hh.wr n ob (hsub n ob hn)
  ·intro n ob hn;obtain⟨cs,el,h1,h2,h3,h4,h5⟩:=hh.obj n ob (hsub n ob hn);refine⟨cs,el,h1,h2,h3,h4,fun k x v hx hv=>(h5 k x v hx hv).restrict cur hcur ?_⟩
   exact(hle.bh _ (hget_mem hn)).2 x (List.mem_of_getElem? hx)
 ·rcases tget_mem (t:=s.t) (k:=k)with hu|hm
  ·rw[hu];exact .u _
  ·exact(htm _ hm).restrict cur hcur (hle.bt _ hm)
end
end Go.Dom
