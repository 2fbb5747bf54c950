/-
  Part of the proof, part Y11. Own work.
-/
import Derived.Test.YtmledjfbgjnknaaGreatDoorY10
set_option linter.all false
namespace Go.Dom
open Go.RowKit
def lookU:List (Nat×Option AObj)→Nat→Option (Option AObj)
 |[],_=>none
 |(m,x)::r,n=>match lookU r n with
  |some y=>some y
  |none=>if n=m then some x else none
theorem updF_look (u:List (Nat×Option AObj)): ∀(hf:Nat→Option AObj) (n:Nat),updF hf u n=(lookU u n).getD (hf n):=by
 induction u with
 |nil=>intro hf n;rfl
 |cons p u ih=>
  obtain⟨m,x⟩:=p;intro hf n;simp only[updF,ih,lookU]
  cases lookU u n with
  |some y=>rfl
  |none=>by_cases e:n=m<;>simp[e]
theorem lookU_mem {u:List (Nat×Option AObj)} {n:Nat} (h:lookU u n≠none):n∈u.map (·.1):=by
 induction u with
 |nil=>simp[lookU]at h
 |cons p u ih=>
  obtain⟨m,x⟩:=p
  by_cases hl:lookU u n=none
  ·simp only[lookU,hl]at h
   by_cases e:n=m
   ·simp[e]
   ·simp[e]at h
  ·exact List.mem_cons_of_mem _ (ih hl)
theorem updF_other {u:List (Nat×Option AObj)} {hf:Nat→Option AObj} {n:Nat} (h:n∉u.map (·.1)):updF hf u n=hf n:=by
 rw[updF_look]
 cases hl:lookU u n with
 |none=>rfl
 |some y=>exact absurd (lookU_mem (by rw[hl];simp)) h
theorem updF_comm {u v:List (Nat×Option AObj)} (hf:Nat→Option AObj) (h: ∀n∈u.map (·.1),n∉v.map (·.1)):updF (updF hf u) v=updF (updF hf v) u:=by
 funext n
 rw[updF_look v,updF_look u,updF_look u,updF_look v]
 cases hu:lookU u n with
 |none=>simp
 |some y=>
  have hm:=lookU_mem (u:=u) (n:=n) (by rw[hu];simp)
  cases hv:lookU v n with
  |none=>simp
  |some z=>exact absurd (lookU_mem (u:=v) (n:=n) (by rw[hv];simp)) (h n hm)
theorem putF_comm (tf:Nat→AV) {d e:Option Nat} (x y:AV) (h: ∀k,d=some k→e≠some k):putF (putF tf d x) e y=putF (putF tf e y) d x:=by
 cases d with
 |none=>rfl
 |some d=>
  cases e with
  |none=>rfl
  |some e=>
   have hne:d≠e:=fun he=>h d rfl (by rw[he])
   funext k
   simp only[putF]
   by_cases h1:k=d<;>by_cases h2:k=e
   ·exact absurd (h1.symm.trans h2) hne
   ·subst h1;simp[h2]
   ·subst h2;simp[h1]
   ·simp[h1,h2]
theorem putF_other {tf:Nat→AV} {d:Option Nat} {x:AV} {t:Nat} (h:d≠some t):putF tf d x t=tf t:=by
 cases d with
 |none=>rfl
 |some d=>
  have:t≠d:=fun e=>h (by rw[e])
  simp[putF,this]
def SOp.looks (x:SOp):List Nat:=x.o.ts++(match x.g with|some (t,_)=>[t]|none=>[])
def apartT (x y:SOp):Bool:=
 (match x.d with
  |some d=> !(y.looks.contains d)&&y.d !=some d
  |none=>true)&&
 (match y.d with
  |some d=> !(x.looks.contains d)
  |none=>true)
def apartN (r1 w1 r2 w2:List Nat):Bool:=w1.all (fun n=> !r2.contains n&& !w2.contains n)&&w2.all (fun n=> !r1.contains n)
def Fires (P:Program) [Tabs P] (nm:Nat) (so:SOp) (tf:Nat→AV) (hf:Nat→Option AObj) (v:AV) (up:List (Nat×Option AObj)) (rs:List Nat):Prop:=
 (gdF so.g tf=some false∧v= .v (.tup [])∧up=[]∧rs=[])∨
 (gdF so.g tf=some true∧ ∃ao,OpR P nm so.o tf hf ao∧v=ao.v∧up=ao.up∧rs=ao.rs)
section
variable {P:Program} [Tabs P] {tf tf':Nat→AV} {hf hf':Nat→Option AObj}
theorem FStep.iff {nx k:Nat} {so:SOp} {rs ws:List Nat}:FStep P nx k so tf hf tf' hf' rs ws↔ ∃v up,Fires P (nx+k) so tf hf v up rs∧tf'=putF tf so.d v∧hf'=updF hf up∧ws=up.map (·.1):=by
 constructor
 ·rintro(⟨h1,h2,h3,h4,h5⟩|⟨h1,ao,h2,h3,h4,h5,h6⟩)
  ·exact⟨_,[], .inl ⟨h1,rfl,rfl,h4⟩,h2,h3,h5⟩
  ·exact⟨ao.v,ao.up, .inr ⟨h1,ao,h2,rfl,rfl,h5⟩,h3,h4,h6⟩
 ·rintro⟨v,up,⟨h1,rfl,rfl,h4⟩|⟨h1,ao,h2,rfl,rfl,h5⟩,h3,h6,h7⟩
  ·exact .inl ⟨h1,h3,h6,h4,h7⟩
  ·exact .inr ⟨h1,ao,h2,h3,h6,h5,h7⟩
theorem gd_congr {g:Option (Nat×Bool)} (h: ∀p,g=some p→tf p.1=tf' p.1):gdF g tf=gdF g tf':=by
 cases g with
 |none=>rfl
 |some p=>obtain⟨t,w⟩:=p;simp only[gdF,h _ rfl]
theorem Fires.congr {nm:Nat} {so:SOp} {v:AV} {up:List (Nat×Option AObj)} {rs:List Nat} (h:Fires P nm so tf hf v up rs) (ht: ∀t∈so.looks,tf t=tf' t) (hr: ∀n∈rs,hf' n=hf n):Fires P nm so tf' hf' v up rs:=by
 have hg:gdF so.g tf=gdF so.g tf':=gd_congr fun p hp=>ht p.1 (by simp[SOp.looks,hp])
 have hts: ∀t∈so.o.ts,tf t=tf' t:=fun t h=>ht t (by simp[SOp.looks,h])
 rcases h with⟨h1,h2,h3,h4⟩|⟨h1,ao,h2,h3,h4,rfl⟩
 ·exact .inl ⟨by rw[←hg];exact h1,h2,h3,h4⟩
 ·exact .inr ⟨by rw[←hg];exact h1,ao,opR_congr hts hr h2,h3,h4,rfl⟩
theorem FStep.swap {nx i j:Nat} {x y:SOp} {tf1 tf2:Nat→AV} {hf1 hf2:Nat→Option AObj} {r1 w1 r2 w2:List Nat} (hx:FStep P nx i x tf hf tf1 hf1 r1 w1) (hy:FStep P nx j y tf1 hf1 tf2 hf2 r2 w2)
  (ht:apartT x y=true) (hn:apartN r1 w1 r2 w2=true): ∃tf1' hf1',FStep P nx j y tf hf tf1' hf1' r2 w2∧FStep P nx i x tf1' hf1' tf2 hf2 r1 w1:=by
 obtain⟨v1,u1,f1,rfl,rfl,rfl⟩:=FStep.iff.1 hx;obtain⟨v2,u2,f2,rfl,rfl,rfl⟩:=FStep.iff.1 hy;simp only[apartT,Bool.and_eq_true]at ht;obtain⟨t1,t2⟩:=ht;have a1: ∀d,x.d=some d→d∉y.looks∧y.d≠some d:=by
  intro d hd;rw[hd]at t1;simp at t1;exact⟨t1.1,t1.2⟩
 have a2: ∀d,y.d=some d→d∉x.looks:=by
  intro d hd;rw[hd]at t2;simp at t2;exact t2
 simp only[apartN,Bool.and_eq_true,List.all_eq_true]at hn;obtain⟨n1,n2⟩:=hn;have b1: ∀n∈u1.map (·.1),n∉r2∧n∉u2.map (·.1):=by
  intro n hn;have:=n1 n hn;simp only[Bool.and_eq_true,Bool.not_eq_true',List.contains_eq_mem,decide_eq_false_iff_not]at this;exact this
 have b2: ∀n∈u2.map (·.1),n∉r1:=by
  intro n hn;have:=n2 n hn;simp only[Bool.not_eq_true',List.contains_eq_mem,decide_eq_false_iff_not]at this;exact this
 have f2':Fires P (nx+j) y tf hf v2 u2 r2:=f2.congr (fun t ht=>putF_other fun hd=>(a1 t hd).1 ht) (fun n hn=>(updF_other fun hm=>(b1 n hm).1 hn).symm)
 have f1':Fires P (nx+i) x (putF tf y.d v2) (updF hf u2) v1 u1 r1:=f1.congr (fun t ht=>(putF_other fun hd=>a2 t hd ht).symm) (fun n hn=>updF_other fun hm=>b2 n hm hn)
 refine⟨putF tf y.d v2,updF hf u2,FStep.iff.2 ⟨v2,u2,f2',rfl,rfl,rfl⟩,FStep.iff.2 ⟨v1,u1,f1',?_,?_,rfl⟩⟩
 ·rw[putF_comm];intro k hk;exact(a1 k hk).2
 ·rw[updF_comm];intro n hn;exact(b1 n hn).2
inductive FRun (P:Program) [Tabs P] (nx:Nat) (sops:List SOp):List Nat→(Nat→AV)→(Nat→Option AObj)→(Nat→AV)→(Nat→Option AObj)→List (List Nat×List Nat)→Prop where
 |nil (tf:Nat→AV) (hf:Nat→Option AObj):FRun P nx sops [] tf hf tf hf []
 |cons {k:Nat} {R:List Nat} {so:SOp} {tf tf1 tf2:Nat→AV} {hf hf1 hf2:Nat→Option AObj} {rs ws:List Nat} {tr:List (List Nat×List Nat)}
   (hs:sops[k]?=some so) (h:FStep P nx k so tf hf tf1 hf1 rs ws) (r:FRun P nx sops R tf1 hf1 tf2 hf2 tr):FRun P nx sops (k::R) tf hf tf2 hf2 ((rs,ws)::tr)
def may (bf:List Nat) (sops:List SOp) (i j:Nat) (t u:List Nat×List Nat):Prop:=
 (bf.getD j 0).testBit i=true∨(apartN t.1 t.2 u.1 u.2=true∧ ∀x y,sops[i]?=some x→sops[j]?=some y→apartT x y=true)
def IndL (bf:List Nat) (sops:List SOp):List Nat→List (List Nat×List Nat)→Prop
 |i::R,t::tr=>(∀(p:Nat) (j:Nat) (u:List Nat×List Nat),R[p]?=some j→tr[p]?=some u→may bf sops i j t u)∧IndL bf sops R tr
 | _,_=>True
theorem FRun.front {nx:Nat} {sops:List SOp} {bf:List Nat}: ∀{R:List Nat} {tf tf2:Nat→AV} {hf hf2:Nat→Option AObj} {tr:List (List Nat×List Nat)},FRun P nx sops R tf hf tf2 hf2 tr→IndL bf sops R tr→R.Nodup→
  ∀{i:Nat},i∈R→(∀a∈R,a≠i→(bf.getD i 0).testBit a=false)→
  ∃so tf1 hf1 rs ws tr',sops[i]?=some so∧FStep P nx i so tf hf tf1 hf1 rs ws∧FRun P nx sops (R.erase i) tf1 hf1 tf2 hf2 tr'∧IndL bf sops (R.erase i) tr'∧
   (∀(a:Nat) (t:List Nat×List Nat),may bf sops a i t (rs,ws)→(∀(p j:Nat) (u:List Nat×List Nat),R[p]?=some j→tr[p]?=some u→may bf sops a j t u)→ ∀(p j:Nat) (u:List Nat×List Nat),(R.erase i)[p]?=some j→tr'[p]?=some u→may bf sops a j t u)∧
   (∃p:Nat,R[p]?=some i∧tr[p]?=some (rs,ws)):=by
 intro R tf tf2 hf hf2 tr hrun
 induction hrun with
 |nil=>intro _ _ i hi;simp at hi
 |cons hs h r ih=>
  rename_i k R so tf tf1 tf2 hf hf1 hf2 rs ws tr;intro hind hnd i hi hbf
  by_cases e:k=i
  ·subst e;refine⟨so,tf1,hf1,rs,ws,tr,hs,h,by simpa using r,by simpa using hind.2,?_,⟨0,rfl,rfl⟩⟩
   intro a t _ hm p j u hp hu;rw[List.erase_cons_head]at hp;exact hm (p+1) j u (by simpa using hp) (by simpa using hu)
  ·have hi':i∈R:=by rcases List.mem_cons.1 hi with rfl|h;exact absurd rfl e;exact h
   obtain⟨hnk,hnd'⟩:=List.nodup_cons.1 hnd;obtain⟨so',tf1',hf1',rs',ws',tr',g1,g2,g3,g4,g5,p0,g6,g7⟩:=ih hind.2 hnd' hi' fun a ha hne=>hbf a (List.mem_cons_of_mem _ ha) hne
   have hki:may bf sops k i (rs,ws) (rs',ws'):=hind.1 p0 i _ g6 g7;have hnb:(bf.getD i 0).testBit k=false:=hbf k (by simp) e
   rcases hki with hki|⟨hn,ht⟩
   ·rw[hnb]at hki;cases hki
   ·obtain⟨tfa,hfa,s1,s2⟩:=FStep.swap h g2 (ht so so' hs g1) hn;refine⟨so',tfa,hfa,rs',ws',(rs,ws)::tr',g1,s1,?_,?_,?_,⟨p0+1,by simpa using g6,by simpa using g7⟩⟩
    ·rw[List.erase_cons_tail (by simpa using e)]
     exact .cons hs s2 g3
    ·rw[List.erase_cons_tail (by simpa using e)]
     exact⟨g5 k (rs,ws) (.inr ⟨hn,ht⟩) hind.1,g4⟩
    ·intro a t hai hm p j u hp hu;rw[List.erase_cons_tail (by simpa using e)]at hp
     cases p with
     |zero=>exact hm 0 j u (by simpa using hp) (by simpa using hu)
     |succ p=>exact g5 a t hai (fun p j u hp hu=>hm (p+1) j u (by simpa using hp) (by simpa using hu)) p j u (by simpa using hp) (by simpa using hu)
end
end Go.Dom
namespace Go.Dom
open Go.RowKit
def bits1 (bf:List Nat) (o:Oper):Nat:=o.after.toList.foldl (fun s e=>if Region.binds .any e then s|||2^e.on|||bf.getD e.on 0 else s) 0
def okBf (ops:Array Oper) (bf:List Nat):Bool:=
 (List.range ops.size).all fun j=>match ops[j]? with
  |none=>false
  |some o=>bf.getD j 0==bits1 bf o&&o.after.toList.all fun e=> !Region.binds .any e||decide (e.on<j)
theorem fold_bits (bf:List Nat) (i:Nat): ∀(l:List Edge) (s:Nat),(l.foldl (fun s e=>if Region.binds .any e then s|||2^e.on|||bf.getD e.on 0 else s) s).testBit i=true→
  s.testBit i=true∨ ∃e∈l,Region.binds .any e=true∧(e.on=i∨(bf.getD e.on 0).testBit i=true):=by
 intro l
 induction l with
 |nil=>intro s h;exact .inl h
 |cons e l ih=>
  intro s h;rw[List.foldl_cons]at h;rcases ih _ h with h|⟨e',he',h1,h2⟩
  ·by_cases hb:Region.binds .any e=true
   ·rw[if_pos hb,Nat.testBit_or,Nat.testBit_or,Bool.or_eq_true,Bool.or_eq_true]at h;rcases h with(h|h)|h
    ·exact .inl h
    ·refine .inr ⟨e,by simp,hb, .inl ?_⟩
     rw[Nat.testBit_two_pow]at h;simpa using h
    ·exact .inr ⟨e,by simp,hb, .inr h⟩
   ·rw[if_neg hb]at h;exact .inl h
  ·exact .inr ⟨e',by simp[he'],h1,h2⟩
theorem okBf_spec {ops:Array Oper} {bf:List Nat} (h:okBf ops bf=true) {j:Nat} {o:Oper} (ho:ops[j]?=some o):
  (∀i,(bf.getD j 0).testBit i=true→ ∃e∈o.after.toList,Region.binds .any e=true∧(e.on=i∨(bf.getD e.on 0).testBit i=true))∧ ∀e∈o.after.toList,Region.binds .any e=true→e.on<j:=by
 have hj:j<ops.size:=(Array.getElem?_eq_some_iff.1 ho).1;simp only[okBf,List.all_eq_true,List.mem_range]at h;have:=h j hj;rw[ho]at this;simp only[Bool.and_eq_true,beq_iff_eq,List.all_eq_true]at this;obtain⟨h1,h2⟩:=this;constructor
 ·intro i hi;rw[h1]at hi;rcases fold_bits bf i _ 0 hi with h|h
  ·simp at h
  ·exact h
 ·intro e he hb;have:=h2 e he;simpa[hb]using this
section
variable {P:Program} [Tabs P] {E:Env P} {ops:Array Oper} {sops:List SOp} {bf:List Nat} {Q:Exit→Act→World→Prop}
theorem SR.al_congr {al al':Nat→Prop} {tf:Nat→AV} {hf:Nat→Option AObj} {a:Act} {w:World} (h:SR E al tf hf a w) (he: ∀n,al n↔al' n):SR E al' tf hf a w:=by
 obtain⟨C,h1,h2⟩:=h;exact⟨C,fun n=>(h1 n).trans (he n),h2⟩
theorem SR.drew {al:Nat→Prop} {tf:Nat→AV} {hf:Nat→Option AObj} {a:Act} {w:World} (h:SR E al tf hf a w):SR E al tf hf a w.drew:=by
 obtain⟨C,h1,h2,h3,h4,h5⟩:=h;exact⟨C,h1,h2.world fun _ _=>rfl,h3,⟨h4.1.trans (Wf.drew _ _),h4.2⟩,h5⟩
theorem bits_listed (hbf:okBf ops bf=true) (L:Nat→Prop) (hcl: ∀(j:Nat) (o:Oper),ops[j]?=some o→L j→ ∀e∈o.after.toList,Region.binds .any e=true→L e.on):
  ∀(j:Nat) (o:Oper),ops[j]?=some o→(∀e∈o.after.toList,Region.binds .any e=true→L e.on)→ ∀i,(bf.getD j 0).testBit i=true→L i:=by
 intro j
 induction j using Nat.strongRecOn with
 | _ j ih=>
  intro o ho haft i hi;obtain⟨h1,h2⟩:=okBf_spec hbf ho;obtain⟨e,he,hb,hc⟩:=h1 i hi;have hLe:=haft e he hb;rcases hc with rfl|hc
  ·exact hLe
  ·have hlt:=h2 e he hb;have hj:j<ops.size:=(Array.getElem?_eq_some_iff.1 ho).1;have hoe:ops[e.on]?=some ops[e.on]:=by simp[show e.on<ops.size by omega]
   exact ih e.on hlt _ hoe (hcl _ _ hoe hLe) i hc
theorem wpAny_run (hwr: ∀b,E.fr≤b→E.wr b) (hlen:sops.length=ops.size) (hok: ∀(k:Nat) (o:Oper) (so:SOp),ops[k]?=some o→sops[k]?=some so→OpC P E.nt ops o so) (hbf:okBf ops bf=true) {nx:Nat} {al:Nat→Prop} (hal: ∀k,k<ops.size→ ¬al (nx+k))
  {tf2:Nat→AV} {hf2:Nat→Option AObj} (hQ: ∀a' w',SR E (fun n=>al n∨ ∃k,k<ops.size∧n=nx+k) tf2 hf2 a' w'→Q .normal a' w'):
  ∀(fuel:Nat) (listed:Array Bool) (R:List Nat) (tf:Nat→AV) (hf:Nat→Option AObj) (tr:List (List Nat×List Nat)) (a:Act) (w:World),
   listed.size=ops.size→R.Pairwise (· < ·)→(∀k,k∈R↔k<ops.size∧listed.getD k true=false)→fuel=R.length→
   (∀(j:Nat) (o:Oper),ops[j]?=some o→listed.getD j true=true→ ∀e∈o.after.toList,Region.binds .any e=true→listed.getD e.on true=true)→
   FRun P nx sops R tf hf tf2 hf2 tr→IndL bf sops R tr→SR E (fun n=>al n∨ ∃k,k<ops.size∧listed.getD k true=true∧n=nx+k) tf hf a w→wpAnyIn (FR E.ro) 0 P .any ops Q fuel listed a w:=by
 have hready: ∀(listed:Array Bool) (i:Nat),i∈Region.ready .any ops listed↔i<ops.size∧listed.getD i true=false∧ ∀o,ops[i]?=some o→ ∀e∈o.after.toList,Region.binds .any e=true→listed.getD e.on false=true:=by
  intro listed i;simp only[Region.ready,List.mem_filter,List.mem_range,Bool.and_eq_true,Bool.not_eq_true'];constructor
  ·rintro⟨h1,h2,h3⟩;refine⟨h1,h2,fun o ho e he hb=> ?_⟩
   rw[ho]at h3;simp only[Option.map_some,Option.getD_some,Array.all_eq_true']at h3;have:=h3 e (by simpa using he)
   simpa[hb]using this
  ·rintro⟨h1,h2,h3⟩;refine⟨h1,h2,?_⟩;have ho:ops[i]?=some ops[i]:=by simp[h1]
   rw[ho];simp only[Option.map_some,Option.getD_some,Array.all_eq_true'];intro e he
   by_cases hb:Region.binds .any e=true
   ·simp[h3 _ ho e (by simpa using he) hb]
   ·simp[hb]
 have hgd: ∀(listed:Array Bool),listed.size=ops.size→ ∀k,k<ops.size→listed.getD k true=listed.getD k false:=by
  intro listed hs k hk;simp[Array.getD_eq_getD_getElem?,show k<listed.size by omega]
 intro fuel
 induction fuel with
 |zero=>
  intro listed R tf hf tr a w hsz hpw hR hfu hcl hrun hind hsr;have hnil:R=[]:=List.eq_nil_of_length_eq_zero hfu.symm;subst hnil;cases hrun;refine⟨?_,hQ _ _ (hsr.al_congr fun n=> ?_)⟩
  ·apply List.eq_nil_iff_forall_not_mem.2;intro i hi;obtain⟨h1,h2,-⟩:=(hready listed i).1 hi;have:=(hR i).2 ⟨h1,h2⟩;simp at this
  ·constructor
   ·rintro(h|⟨k,h1,h2,h3⟩)
    ·exact .inl h
    ·exact .inr ⟨k,h1,h3⟩
   ·rintro(h|⟨k,h1,h3⟩)
    ·exact .inl h
    ·refine .inr ⟨k,h1,?_,h3⟩
     cases hl:listed.getD k true with
     |true=>rfl
     |false=>have:=(hR k).2 ⟨h1,hl⟩;simp at this
 |succ fuel ih=>
  intro listed R tf hf tr a w hsz hpw hR hfu hcl hrun hind hsr;constructor
  ·intro hno
   exfalso
   cases R with
   |nil=>simp at hfu
   |cons i0 R0=>
    obtain⟨hp1,hp2⟩:=List.pairwise_cons.1 hpw;obtain⟨hi1,hi2⟩:=(hR i0).1 (by simp)
    have hi0:i0∈Region.ready .any ops listed:=by
     refine(hready listed i0).2 ⟨hi1,hi2,fun o ho e he hb=> ?_⟩
     have hlt:=(okBf_spec hbf ho).2 e he hb;have hes:e.on<ops.size:=by omega
     rw[←hgd listed hsz _ hes]
     cases hl:listed.getD e.on true with
     |true=>rfl
     |false=>
      have:=(hR e.on).2 ⟨hes,hl⟩;rcases List.mem_cons.1 this with h|h
      ·omega
      ·have:=hp1 _ h;omega
    rw[hno]at hi0;simp at hi0
  ·intro i hi;obtain⟨hi1,hi2,hi3⟩:=(hready listed i).1 hi;have hiR:i∈R:=(hR i).2 ⟨hi1,hi2⟩;have ho:ops[i]?=some ops[i]:=by simp[hi1]
   have haft: ∀e∈(ops[i]).after.toList,Region.binds .any e=true→listed.getD e.on true=true:=by
    intro e he hb;have hlt:=(okBf_spec hbf ho).2 e he hb;rw[hgd listed hsz _ (by omega)]
    exact hi3 _ ho e he hb
   have hnobit: ∀b∈R,b≠i→(bf.getD i 0).testBit b=false:=by
    intro b hb _
    cases ht:(bf.getD i 0).testBit b with
    |false=>rfl
    |true=>
     have:=bits_listed hbf (fun k=>listed.getD k true=true) hcl i _ ho haft b ht
     have h2:=((hR b).1 hb).2;rw[this]at h2;cases h2
   have hnd:R.Nodup:=hpw.imp (fun h=>Nat.ne_of_lt h)
   obtain⟨so,tf1,hf1,rs,ws,tr',g1,g2,g3,g4,-,-⟩:=hrun.front hind hnd hiR hnobit;have hnm: ¬(al (nx+i)∨ ∃k,k<ops.size∧listed.getD k true=true∧nx+i=nx+k):=by
    rintro(h|⟨k,-,h2,h3⟩)
    ·exact hal i hi1 h
    ·have:k=i:=by omega
     subst this;rw[hi2]at h2;cases h2
   have hset: ∀k,(listed.setIfInBounds i true).getD k true=if k=i then true else listed.getD k true:=by
    intro k
    by_cases e:k=i
    ·subst e;simp[Array.getD_eq_getD_getElem?,show k<listed.size by omega]
    ·rw[if_neg e];simp[Array.getD_eq_getD_getElem?,Array.getElem?_setIfInBounds_ne (Ne.symm e)]
   unfold wpOpIn;rw[ho];refine step_sim (hok i _ so ho g1) hwr g2 hsr hnm fun a' w' hsr'=> ?_
   refine ih (listed.setIfInBounds i true) (R.erase i) tf1 hf1 tr' a' w' (by simpa using hsz) (hpw.sublist (List.erase_sublist)) ?_ ?_ ?_ g3 g4 (hsr'.al_congr fun n=> ?_)
   ·intro k;rw[hnd.mem_erase_iff,hR,hset]
    by_cases e:k=i
    ·subst e;simp
    ·simp[e]
   ·rw[List.length_erase_of_mem hiR];omega
   ·intro j o' hj hlj e he hb;rw[hset]at hlj⊢
    by_cases ee:e.on=i
    ·rw[if_pos ee]
    ·rw[if_neg ee]
     by_cases ej:j=i
     ·subst ej;rw[ho]at hj;injection hj with hj;subst hj
      exact haft e he hb
     ·rw[if_neg ej]at hlj;exact hcl j o' hj hlj e he hb
   ·constructor
    ·rintro((h|⟨k,h1,h2,h3⟩)|rfl)
     ·exact .inl h
     ·refine .inr ⟨k,h1,?_,h3⟩;rw[hset];split<;>simp[h2]
     ·exact .inr ⟨i,hi1,by rw[hset];simp,rfl⟩
    ·rintro(h|⟨k,h1,h2,h3⟩)
     ·exact .inl (.inl h)
     ·rw[hset]at h2
      by_cases e:k=i
      ·subst e;exact .inr h3
      ·rw[if_neg e]at h2;exact .inl (.inr ⟨k,h1,h2,h3⟩)
theorem wp_reg_draw (hm:P.follows .mixedOrders=true) (hwr: ∀b,E.fr≤b→E.wr b) (hlen:sops.length=ops.size) (hok: ∀(k:Nat) (o:Oper) (so:SOp),ops[k]?=some o→sops[k]?=some so→OpC P E.nt ops o so) (hbf:okBf ops bf=true) {nx id:Nat} {al:Nat→Prop} (hal: ∀k,k<ops.size→ ¬al (nx+k))
  {tf tf2:Nat→AV} {hf hf2:Nat→Option AObj} {tr:List (List Nat×List Nat)} {a:Act} {w:World} (hrun:FRun P nx sops (List.range ops.size) tf hf tf2 hf2 tr) (hind:IndL bf sops (List.range ops.size) tr) (hsr:SR E al tf hf a w)
  (hQ: ∀a' w',SR E (fun n=>al n∨ ∃k,k<ops.size∧n=nx+k) tf2 hf2 a' w'→Q .normal a' w'):(Code.region id ops true).wpIn (FR E.ro) 0 P Q a w:=by
 refine wpIn_region_any hm ?_;have hrep: ∀k,k<ops.size→(Array.replicate ops.size false).getD k true=false:=by
  intro k hk;simp[Array.getD_eq_getD_getElem?,hk]
 refine wpAny_run hwr hlen hok hbf hal hQ ops.size _ (List.range ops.size) tf hf tr a _ (by simp) List.pairwise_lt_range ?_ (by simp) ?_ hrun hind ?_
 ·intro k;rw[List.mem_range];exact⟨fun h=>⟨h,hrep k h⟩,fun h=>h.1⟩
 ·intro j o ho hl;have hj:j<ops.size:=(Array.getElem?_eq_some_iff.1 ho).1;rw[hrep j hj]at hl;cases hl
 ·refine hsr.drew.al_congr fun n=>⟨.inl,?_⟩
  rintro(h|⟨k,h1,h2,-⟩)
  ·exact h
  ·rw[hrep k h1]at h2;cases h2
theorem wp_ops_text (hwr: ∀b,E.fr≤b→E.wr b) (hok: ∀(k:Nat) (o:Oper) (so:SOp),ops[k]?=some o→sops[k]?=some so→OpC P E.nt ops o so) {nx:Nat}:
  ∀{R:List Nat} {tf tf2:Nat→AV} {hf hf2:Nat→Option AObj} {tr:List (List Nat×List Nat)},FRun P nx sops R tf hf tf2 hf2 tr→ ∀{al:Nat→Prop} {a:Act} {w:World},(∀k∈R,k<ops.size)→R.Nodup→(∀k∈R,¬al (nx+k))→SR E al tf hf a w→
  (∀a' w',SR E (fun n=>al n∨ ∃k∈R,n=nx+k) tf2 hf2 a' w'→Q .normal a' w')→wpOpsIn (FR E.ro) 0 P ops Q R a w:=by
 intro R tf tf2 hf hf2 tr hrun
 induction hrun with
 |nil=>intro al a w _ _ _ hsr hQ;exact hQ a w (hsr.al_congr fun n=>⟨.inl,fun h=>by rcases h with h|⟨k,hk,-⟩;exact h;simp at hk⟩)
 |cons hs h r ih=>
  rename_i k R so tf tf1 tf2 hf hf1 hf2 rs ws tr;intro al a w hlt hnd hal hsr hQ;obtain⟨hnk,hnd'⟩:=List.nodup_cons.1 hnd;rw[wpOpsIn_cons];unfold wpOpIn;have hk:k<ops.size:=hlt k (by simp)
  have ho:ops[k]?=some ops[k]:=by simp[hk]
  rw[ho];refine step_sim (hok k _ so ho hs) hwr h hsr (hal k (by simp)) fun a' w' hsr'=> ?_
  refine ih (fun j hj=>hlt j (by simp[hj])) hnd' (fun j hj=> ?_) hsr' fun a'' w'' h2=>hQ a'' w'' (h2.al_congr fun n=> ?_)
  ·rintro(h|h)
   ·exact hal j (by simp[hj]) h
   ·have:j=k:=by omega
    subst this;exact hnk hj
  ·constructor
   ·rintro((h|rfl)|⟨j,hj,rfl⟩)
    ·exact .inl h
    ·exact .inr ⟨k,by simp,rfl⟩
    ·exact .inr ⟨j,by simp[hj],rfl⟩
   ·rintro(h|⟨j,hj,rfl⟩)
    ·exact .inl (.inl h)
    ·rcases List.mem_cons.1 hj with rfl|hj
     ·exact .inl (.inr rfl)
     ·exact .inr ⟨j,hj,rfl⟩
end
end Go.Dom
