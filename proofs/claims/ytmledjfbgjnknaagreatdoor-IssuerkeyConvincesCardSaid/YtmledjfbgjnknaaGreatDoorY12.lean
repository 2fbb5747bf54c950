/-
  Part of the proof, part Y12. Own work.
-/
import Derived.Test.YtmledjfbgjnknaaGreatDoorY11
set_option linter.all false
namespace Go.Dom
open Go.RowKit
def tget:List (Nat×AV)→Nat→AV
 |[],_=> .u
 |(j,v)::r,k=>if k=j then v else tget r k
def tdel:List (Nat×AV)→Nat→List (Nat×AV)
 |[],_=>[]
 |(j,v)::r,k=>if j=k then tdel r k else(j,v)::tdel r k
def tput (t:List (Nat×AV)) (d:Option Nat) (v:AV):List (Nat×AV):=
 match d with
 |some d=>(d,v)::tdel t d
 |none=>t
def hget:List (Nat×AObj)→Nat→Option AObj
 |[],_=>none
 |(j,v)::r,k=>if k=j then some v else hget r k
def hdel:List (Nat×AObj)→Nat→List (Nat×AObj)
 |[],_=>[]
 |(j,v)::r,k=>if j=k then hdel r k else(j,v)::hdel r k
def hput (h:List (Nat×AObj)) (n:Nat) (o:Option AObj):List (Nat×AObj):=
 match o with
 |some o=>(n,o)::hdel h n
 |none=>hdel h n
def hputs (h:List (Nat×AObj)):List (Nat×Option AObj)→List (Nat×AObj)
 |[]=>h
 |(n,o)::r=>hputs (hput h n o) r
theorem tget_tdel (t:List (Nat×AV)) (d k:Nat):tget (tdel t d) k=if k=d then .u else tget t k:=by
 induction t with
 |nil=>simp[tdel,tget]
 |cons p t ih=>
  obtain⟨j,v⟩:=p;simp only[tdel,tget]
  by_cases h1:j=d
  ·subst h1;rw[if_pos rfl,ih]
   by_cases h2:k=j<;>simp[h2]
  ·rw[if_neg h1,tget,ih]
   by_cases h2:k=j
   ·subst h2;simp[h1]
   ·simp[h2]
theorem tget_tput (t:List (Nat×AV)) (d:Option Nat) (v:AV):tget (tput t d v)=putF (tget t) d v:=by
 cases d with
 |none=>rfl
 |some d=>
  funext k
  simp only[tput,tget,putF,tget_tdel]
  by_cases h:k=d<;>simp[h]
theorem hget_hdel (h:List (Nat×AObj)) (d k:Nat):hget (hdel h d) k=if k=d then none else hget h k:=by
 induction h with
 |nil=>simp[hdel,hget]
 |cons p h ih=>
  obtain⟨j,v⟩:=p;simp only[hdel,hget]
  by_cases h1:j=d
  ·subst h1;rw[if_pos rfl,ih]
   by_cases h2:k=j<;>simp[h2]
  ·rw[if_neg h1,hget,ih]
   by_cases h2:k=j
   ·subst h2;simp[h1]
   ·simp[h2]
theorem hget_hput (h:List (Nat×AObj)) (n:Nat) (o:Option AObj):hget (hput h n o)=fun k=>if k=n then o else hget h k:=by
 funext k
 cases o with
 |none=>simp only[hput,hget_hdel]
 |some o=>
  simp only[hput,hget,hget_hdel]
  by_cases h:k=n<;>simp[h]
theorem hget_hputs (u:List (Nat×Option AObj)): ∀(h:List (Nat×AObj)),hget (hputs h u)=updF (hget h) u:=by
 induction u with
 |nil=>intro h;rfl
 |cons p u ih=>
  obtain⟨n,o⟩:=p;intro h;simp only[hputs,updF,ih,hget_hput]
structure AS where
 t:List (Nat×AV)
 h:List (Nat×AObj)
 nx:Nat
def AS.upd (s:AS) (d:Option Nat) (v:AV) (up:List (Nat×Option AObj)):AS:=⟨tput s.t d v,hputs s.h up,s.nx⟩
def optW (x:Option AO) (K:AO→Prop):Prop:=
 match x with
 |some ao=>ao.pre∧K ao
 |none=>False
def CallW (P:Program) [Tabs P] (nm:Nat) (h:List (Nat×AObj)) (fv:AV) (avs:List AV) (K:AO→Prop):Prop:= ∃ao,ACall P nm (hget h) fv avs ao∧K ao
def awOp (P:Program) [Tabs P] (nm:Nat) (o:SO) (s:AS) (K:AO→Prop):Prop:=
 match o with
 | .call f args=>CallW P nm s.h (f.ev (tget s.t)) (args.map (SX.ev (tget s.t))) K
 |o=>optW (aop nm o (tget s.t) (hget s.h)) K
def AS.set (s:AS) (t:Nat) (v:AV):AS:=⟨tput s.t (some t) v,s.h,s.nx⟩
def bcase (x:Bool) (a b:Prop):Prop:=(x=true→a)∧(x=false→b)
theorem bcase_true (a b:Prop):bcase true a b=a:=by simp[bcase]
theorem bcase_false (a b:Prop):bcase false a b=b:=by simp[bcase]
def gdW (v:AV) (t:Nat) (want:Bool) (s:AS) (yes no:AS→Prop):Prop:=
 match v with
 | .v (.b x)=>bcase x ((match want with|true=>yes|false=>no) (s.set t (.v (.b true)))) ((match want with|true=>no|false=>yes) (s.set t (.v (.b false))))
 | .v (.tup [])=>no s
 | _=>False
def awGd (g:Option (Nat×Bool)) (s:AS) (yes no:AS→Prop):Prop:=
 match g with
 |none=>yes s
 |some (t,want)=>gdW (tget s.t t) t want s yes no
def awOps (P:Program) [Tabs P] (nx:Nat):List SOp→Nat→AS→(AS→Prop)→Prop
 |[],_,s,K=>K s
 |o::r,k,s,K=>awGd o.g s (fun s=>awOp P (nx+k) o.o s fun ao=>awOps P nx r (k+1) (s.upd o.d ao.v ao.up) K) (fun s=>awOps P nx r (k+1) (s.upd o.d (.v (.tup [])) []) K)
def awTr (P:Program) [Tabs P] (nx:Nat):List SOp→Nat→AS→List (Nat×List Nat×List Nat)→(AS→List (Nat×List Nat×List Nat)→Prop)→Prop
 |[],_,s,tr,K=>K s tr
 |o::r,k,s,tr,K=>awGd o.g s (fun s=>awOp P (nx+k) o.o s fun ao=>awTr P nx r (k+1) (s.upd o.d ao.v ao.up) ((k,ao.rs,ao.up.map (·.1))::tr) K) (fun s=>awTr P nx r (k+1) (s.upd o.d (.v (.tup [])) []) ((k,[],[])::tr) K)
def chk (bf:List Nat):List (Nat×List Nat×List Nat)→Bool
 |[]=>true
 |(j,r,w)::tr=>tr.all (fun(i,r',w')=>(w.isEmpty&&w'.isEmpty)||(bf.getD j 0).testBit i||apartN r' w' r w)&&chk bf tr
def stat (bf:List Nat) (sops:List SOp):Bool:=
 (List.range sops.length).all fun j=>(List.range j).all fun i=>(bf.getD j 0).testBit i||match sops[i]?,sops[j]? with
  |some x,some y=>apartT x y
  | _,_=>false
inductive AX where
 |normal
 |exit (id:Nat)
 |ret
def AV.bd (N:Nat):AV→Bool
 | .p n _ _=>decide (n<N)
 | .rs n _ _ _ _=>decide (n<N)
 | .agg l=>bdL N l
 | .tup l=>bdL N l
 | .fn _ a c=>bdL N a&&bdL N c
 | _=>true
where bdL (N:Nat):List AV→Bool
 |[]=>true
 |x::r=>x.bd N&&bdL N r
def AV.off (ns:List Nat):AV→Bool
 | .p n _ _=> !ns.contains n
 | .rs n _ _ _ _=> !ns.contains n
 | .agg l=>offL ns l
 | .tup l=>offL ns l
 | .fn _ a c=>offL ns a&&offL ns c
 | _=>true
where offL (ns:List Nat):List AV→Bool
 |[]=>true
 |x::r=>x.off ns&&offL ns r
structure AS.Le (s s':AS):Prop where
 t: ∃ns:List Nat,(∀n∈ns,1000≤n∧hget s.h n=none)∧ ∀p∈s.t,tget s'.t p.1=p.2∨ ∃y,p.2= .v y∧view (hget s'.h) 9 (tget s'.t p.1)=some y∧ ∀n∈viewN (hget s'.h) 9 (tget s'.t p.1),n∈ns
 h: ∀p∈s.h,hget s'.h p.1=some p.2
 nx:s.nx≤s'.nx
 bt: ∀p∈s.t,p.2.bd s.nx=true
 bh: ∀p∈s.h,p.1<s.nx∧ ∀c∈p.2.cells,c.bd s.nx=true
def condW (v:AV) (a b:Prop):Prop:=
 match v with
 | .v (.b c)=>bcase c a b
 | .ub=>a∧b
 | _=>False
def LoopW (B:(AX→AS→Prop)→AS→Prop) (Q:AX→AS→Prop) (N:Nat) (s:AS):Prop:=
 ∀X:AS→Prop,(∀s1,B (fun e s'=>match e with
  | .normal=>X s'
  |e=>Q e s') s1→X s1)→(∀s1 s2:AS,N≤s1.nx→s1.Le s2→X s1→X s2)→X s
def ItP (P:Program) [Tabs P] (g:FuncId) (caps:List PV) (fin:Bool) (xs:List (List PV)):Prop:=
 Enters P g g∧ ∀(w:World) (rd:Rd) (cvs:List Value) (l:Nat) (J:List (List PV)→World→Prop) (Jx:World→Prop),
  (∀b o v,TR P b o=some v→rd b o=some v)→RelL (PR rd) caps cvs→
  (∀ys W,J ys W→ ∀b o v,rd b o=some v→W.cell? ⟨b,o,none⟩=some v)→
  (∀ys W W',J ys W→Below W.heap.size W W'→J ys W')→(∀W W',Jx W→Below W.heap.size W W'→Jx W')→
  (∀y ys vs W,J (y::ys) W→RelL (PR rd) y vs→YieldAt Fence.wide 0 P l vs.toArray W fun e W'=>(e= .returned (.bool true)∧J ys W')∨(e= .returned (.bool false)∧Jx W'))→
  (fin=false→ ∀W,¬J [] W)→J xs w→CallsIn Fence.wide 0 P g (#[.func (.yield l) #[] #[]]++cvs.toArray) w fun e W'=>(∃v,e= .returned v)∧(J [] W'∨Jx W')
def setPs:List (Nat×AV)→List Nat→List PV→List (Nat×AV)
 |t,p::ps,v::vs=>setPs (tput t p (.v v)) ps vs
 |t,_,_=>t
def RngW (RB:List PV→(AX→AS→Prop)→AS→Prop) (Q:AX→AS→Prop) (t0:List (Nat×AV)) (N:Nat) (fin:Bool) (xs:List (List PV)) (s:AS):Prop:=
 ∀X:List (List PV)→AS→Prop,(∀s1,fin=true→Q .normal s1→X [] s1)→(∀y ys s1,RB y (fun e s'=>match e with
  | .normal=>X ys {s' with t:=t0}
  |e=>Q e {s' with t:=t0}) s1→X (y::ys) s1)→(∀ys (s1 s2:AS),N≤s1.nx→s1.Le s2→X ys s1→X ys s2)→X xs s
def backQ (ns:List Nat) (s:AS) (Q:AX→AS→Prop) (e:AX) (s':AS):Prop:=
 if ns=[]then Q e s' else(∀p∈s'.h,∀c∈p.2.cells,c.off ns=true)∧Q e ⟨s.t,hputs s'.h (ns.map fun n=>(n,hget s.h n)),s'.nx⟩
theorem backQ_mono {ns:List Nat} {s:AS} {Q Q':AX→AS→Prop} (h: ∀e s,Q e s→Q' e s) (e:AX) (s':AS) (hq:backQ ns s Q e s'):backQ ns s Q' e s':=by
 unfold backQ at hq⊢
 split at hq
 ·rename_i hn;rw[if_pos hn];exact h _ _ hq
 ·rename_i hn;rw[if_neg hn];exact⟨hq.1,h _ _ hq.2⟩
def aw (P:Program) [Tabs P]:SC→(AX→AS→Prop)→AS→Prop
 | .skip,Q,s=>Q .normal s
 | .reg none ops,Q,s=>awOps P s.nx ops 0 s fun s'=>Q .normal {s' with nx:=s.nx+ops.length}
 | .reg (some bf) ops,Q,s=>awTr P s.nx ops 0 s [] fun s' tr=>chk bf tr=true∧Q .normal {s' with nx:=s.nx+ops.length}
 | .seq a b,Q,s=>aw P a (fun e s'=>match e with
  | .normal=>aw P b Q s'
  |e=>Q e s') s
 | .cond x a b,Q,s=>condW (x.ev (tget s.t)) (aw P a Q s) (aw P b Q s)
 | .blk id a,Q,s=>aw P a (fun e s'=>match e with
  | .exit j=>if j=id then Q .normal s' else Q (.exit j) s'
  |e=>Q e s') s
 | .loop a,Q,s=>LoopW (aw P a) Q s.nx s
 | .rng x ps a b,Q,s=> ∃g caps fin xs ns,view (hget s.h) 9 (x.ev (tget s.t))=some (.fc g [] caps)∧(∀n∈viewN (hget s.h) 9 (x.ev (tget s.t)),n∈ns)∧(∀n∈ns,1000≤n)∧ItP P g caps fin xs∧(∀y∈xs,y.length=ps.length∧(ns=[]∨ ∀p∈y,p.flat=true))∧
   RngW (fun y Qx s1=>aw P a (fun e s2=>match e with
    | .normal=>aw P b Qx s2
    | _=>False) {s1 with t:=setPs s1.t ps y}) (backQ ns s Q) s.t s.nx fin xs {s with h:=hputs s.h (ns.map fun n=>(n,none))}
 | .exit id,Q,s=>Q (.exit id) s
 | .ret,Q,s=>Q .ret s
 | .stop,_,_=>False
theorem optW_mono {x:Option AO} {K K':AO→Prop} (h: ∀ao,K ao→K' ao) (hx:optW x K):optW x K':=by
 unfold optW at hx⊢;split
 ·exact⟨hx.1,h _ hx.2⟩
 ·exact hx
theorem awOp_mono {P:Program} [Tabs P] {nm:Nat} {o:SO} {s:AS} {K K':AO→Prop} (h: ∀ao,K ao→K' ao) (hx:awOp P nm o s K):awOp P nm o s K':=by
 unfold awOp at hx⊢;split
 ·obtain⟨ao,h1,h2⟩:=hx;exact⟨ao,h1,h _ h2⟩
 ·rename_i hne
  cases o<;>first|exact absurd rfl (hne _ _)|exact optW_mono h hx
theorem awGd_mono {g:Option (Nat×Bool)} {s:AS} {y y' n n':AS→Prop} (hy: ∀s,y s→y' s) (hn: ∀s,n s→n' s) (h:awGd g s y n):awGd g s y' n':=by
 unfold awGd at h⊢;split
 ·exact hy _ h
 ·rename_i t want;unfold gdW at h⊢;simp only at h;split
  ·rename_i x hx;rw[hx]at h;refine⟨fun e=> ?_,fun e=> ?_⟩
   ·have:=h.1 e;cases want
    ·exact hn _ this
    ·exact hy _ this
   ·have:=h.2 e;cases want
    ·exact hy _ this
    ·exact hn _ this
  ·rename_i hx;rw[hx]at h;exact hn _ h
  ·rename_i h1 h2
   split at h
   ·rename_i hx;exact absurd hx (h1 _)
   ·rename_i hx;exact absurd hx h2
   ·exact h
theorem awOps_mono {P:Program} [Tabs P] {nx:Nat} {ops:List SOp}: ∀{k:Nat} {s:AS} {K K':AS→Prop},(∀s,K s→K' s)→awOps P nx ops k s K→awOps P nx ops k s K':=by
 induction ops with
 |nil=>intro k s K K' h hx;exact h _ hx
 |cons o r ih=>
  intro k s K K' h hx;simp only[awOps]at hx⊢;exact awGd_mono (fun s hs=>awOp_mono (fun ao ha=>ih h ha) hs) (fun s hs=>ih h hs) hx
theorem awTr_mono {P:Program} [Tabs P] {nx:Nat} {ops:List SOp}: ∀{k:Nat} {s:AS} {tr:List (Nat×List Nat×List Nat)} {K K':AS→List (Nat×List Nat×List Nat)→Prop},(∀s t,K s t→K' s t)→awTr P nx ops k s tr K→awTr P nx ops k s tr K':=by
 induction ops with
 |nil=>intro k s tr K K' h hx;exact h _ _ hx
 |cons o r ih=>
  intro k s tr K K' h hx;simp only[awTr]at hx⊢;exact awGd_mono (fun s hs=>awOp_mono (fun ao ha=>ih h ha) hs) (fun s hs=>ih h hs) hx
theorem aw_mono {P:Program} [Tabs P] {sc:SC}: ∀{Q Q':AX→AS→Prop} {s:AS},(∀e s,Q e s→Q' e s)→aw P sc Q s→aw P sc Q' s:=by
 induction sc with
 |skip=>intro Q Q' s h hx;exact h _ _ hx
 |reg bf ops=>
  intro Q Q' s h hx
  cases bf with
  |none=>exact awOps_mono (fun s hs=>h _ _ hs) hx
  |some bf=>exact awTr_mono (fun s t hs=>⟨hs.1,h _ _ hs.2⟩) hx
 |seq a b iha ihb=>
  intro Q Q' s h hx;simp only[aw]at hx⊢;refine iha (fun e s hs=> ?_) hx
  cases e with
  |normal=>exact ihb h hs
  |exit j=>exact h _ _ hs
  |ret=>exact h _ _ hs
 |cond x a b iha ihb=>
  intro Q Q' s h hx;simp only[aw]at hx⊢;unfold condW at hx⊢;generalize x.ev (tget s.t)=v at hx⊢
  cases v with
  |v y=>cases y with
   |b c=>exact⟨fun e=>iha h (hx.1 e),fun e=>ihb h (hx.2 e)⟩
   | _=>exact hx.elim
  |ub=>exact⟨iha h hx.1,ihb h hx.2⟩
  | _=>exact hx.elim
 |blk id a iha=>
  intro Q Q' s h hx;simp only[aw]at hx⊢;refine iha (fun e s hs=> ?_) hx
  cases e with
  |normal=>exact h _ _ hs
  |exit j=>
   simp only at hs⊢;split
   ·rename_i e;rw[if_pos e]at hs;exact h _ _ hs
   ·rename_i e;rw[if_neg e]at hs;exact h _ _ hs
  |ret=>exact h _ _ hs
 |loop a iha=>
  intro Q Q' s h hx;simp only[aw]at hx⊢;intro X h1 h2;refine hx X (fun s1 hB=>h1 s1 (iha (fun e s hs=> ?_) hB)) h2
  cases e with
  |normal=>exact hs
  |exit j=>exact h _ _ hs
  |ret=>exact h _ _ hs
 |rng x ps a b iha ihb=>
  intro Q Q' s h hx;simp only[aw]at hx⊢;obtain⟨g,caps,fin,xs,ns,h1,h2,h4,h5,h3,hx⟩:=hx;refine⟨g,caps,fin,xs,ns,h1,h2,h4,h5,h3,fun X g1 g2 g3=>hx X (fun s1 hf hq=>g1 s1 hf (backQ_mono h _ _ hq)) (fun y ys s1 hB=>g2 y ys s1 (iha (fun e s2 hs=> ?_) hB)) g3⟩
  cases e with
  |normal=>
   refine ihb (fun e s3 hs3=> ?_) hs
   cases e with
   |normal=>exact hs3
   |exit j=>exact backQ_mono h _ _ hs3
   |ret=>exact backQ_mono h _ _ hs3
  |exit j=>exact hs
  |ret=>exact hs
 |exit id=>intro Q Q' s h hx;exact h _ _ hx
 |ret=>intro Q Q' s h hx;exact h _ _ hx
 |stop=>intro Q Q' s h hx;exact hx
theorem loop_unroll {P:Program} [Tabs P] {a:SC} {Q:AX→AS→Prop} {N:Nat} {s:AS} (h:aw P a (fun e s'=>match e with
  | .normal=>LoopW (aw P a) Q N s'
  |e=>Q e s') s):LoopW (aw P a) Q N s:=by
 intro X h1 h2;refine h1 s (aw_mono (fun e s' hs=> ?_) h)
 cases e with
 |normal=>exact hs X h1 h2
 |exit j=>exact hs
 |ret=>exact hs
theorem loop_weak {B:(AX→AS→Prop)→AS→Prop} {Q:AX→AS→Prop} {N:Nat} {s s':AS} (hN:N≤s'.nx) (hle:s'.Le s) (h:LoopW B Q N s'):LoopW B Q N s:=
 fun X h1 h2=>h2 s' s hN hle (h X h1 h2)
theorem loop_down {P:Program} [Tabs P] {a:SC} {Q:AX→AS→Prop} {N:Nat} {s:AS} {α:Type} (m:α→Nat) (st:α→AS) (ok:α→Prop) (a0:α) (hN: ∀x,N≤(st x).nx) (h0:ok a0) (hle:(st a0).Le s)
  (hr: ∀x,ok x→aw P a (fun e s'=>match e with
   | .normal=> ∃y,ok y∧m y<m x∧(st y).Le s'
   |e=>Q e s') (st x)):LoopW (aw P a) Q N s:=by
 refine loop_weak (hN a0) hle ?_;have key: ∀(n:Nat) (x:α),m x=n→ok x→LoopW (aw P a) Q N (st x):=by
  intro n
  induction n using Nat.strongRecOn with
  | _ n ih=>
   intro x hx hok;refine loop_unroll (aw_mono (fun e s' hs=> ?_) (hr x hok))
   cases e with
   |normal=>
    obtain⟨y,h1,h2,h3⟩:=hs;exact loop_weak (hN y) h3 (ih (m y) (hx▸h2) y rfl h1)
   |exit j=>exact hs
   |ret=>exact hs
 exact key _ a0 rfl h0
def compG (ops:Array Oper) (nt:Nat):Option (Nat×Bool)→Option (Option (Nat×Bool))
 |none=>some none
 |some (j,w)=>match (ops[j]?).bind (·.dst)with
  |some t=>if t<nt then some (some (t,w))else none
  |none=>none
def dOk (nt:Nat):Option Nat→Bool
 |some d=>decide (d<nt)
 |none=>true
def compO (P:Program) [Tabs P] (nt:Nat) (ops:Array Oper) (o:Oper):Option SOp:=
 match compOp P o,compG ops nt o.guard with
 |some so,some g=>if dOk nt o.dst then some ⟨o.dst,so,g⟩else none
 | _,_=>none
def compR (P:Program) [Tabs P] (nt:Nat) (ops:Array Oper) (draw:Bool):Option SC:=
 match mapO (compO P nt ops) ops.toList with
 |some sops=>if draw then(if okBf ops (Region.before ops).toList&&stat (Region.before ops).toList sops then some (.reg (some (Region.before ops).toList) sops)else none)else some (.reg none sops)
 |none=>none
def SC.norng:SC→Bool
 | .seq a b=>a.norng&&b.norng
 | .cond _ a b=>a.norng&&b.norng
 | .blk _ a=>a.norng
 | .loop a=>a.norng
 | .rng _ _ _ _=>false
 | _=>true
def comp (P:Program) [Tabs P] (nt:Nat):Code→Option SC
 | .skip=>some .skip
 | .region _ ops draw=>compR P nt ops draw
 | .seq a b=>match comp P nt a,comp P nt b with
  |some a,some b=>some (.seq a b)
  | _,_=>none
 | .cond c a b=>match sx P c,comp P nt a,comp P nt b with
  |some c,some a,some b=>some (.cond c a b)
  | _,_,_=>none
 | .block id a=>match comp P nt a with
  |some a=>some (.blk id a)
  |none=>none
 | .loop a=>match comp P nt a with
  |some a=>some (.loop a)
  |none=>none
 | .rangeFunc g ps a b=>match sx P g,comp P nt a,comp P nt b with
  |some g,some a,some b=>if a.norng&&b.norng&&ps.toList.all (fun p=>Nat.blt p nt)then some (.rng g ps.toList a b)else none
  | _,_,_=>none
 | .exit id=>some (.exit id)
 | .ret=>some .ret
 | .refuse _=>some .stop
 | .scope a=>comp P nt a
 | .label _=>some .skip
 | _=>none
end Go.Dom
