/- Part of the proof. -/
import Derived.Test.YtipbhapfacgabaaGreatDoorUH9
set_option linter.all false
namespace Go.Dom
open Go.RowKit
variable {u:List (Nat×Option aC)}
def fL:List (Nat×Option aC)->Nat->Option (Option aC)
 |[],_=>none
 |(m,x)::r,n=>match fL r n with
  |some y=>some y
  |none=>if n=m then some x else none
theorem iT (u:List (Nat×Option aC)): ∀(hf:Nat->Option aC) (n:Nat),fY hf u n=(fL u n).getD (hf n):=by
 induction u with
 |nil=>intro hf n;rfl
 |cons p u ih=>
  obtain⟨m,x⟩:=p;intro hf n;simp only[fY,ih,fL]
  cases fL u n with
  |some y=>rfl
  |none=>by_cases e:n=m<;>simp[e]
theorem uG {n:Nat} (h:fL u n≠none):n∈u.map (·.1):=by
 induction u with
 |nil=>simp[fL]at h
 |cons p u ih=>
  obtain⟨m,x⟩:=p
  by_cases hl:fL u n=none
  ·simp only[fL,hl]at h
   by_cases e:n=m
   ·simp[e]
   ·simp[e]at h
  ·exact jR _ (ih hl)
theorem zN {hf:Nat->Option aC} {n:Nat} (h:n∉u.map (·.1)):fY hf u n=hf n:=by
 rw[iT]
 cases hl:fL u n with
 |none=>rfl
 |some y=>exact aJ (uG (by rw[hl];simp)) h
theorem Lj {v:List (Nat×Option aC)} (hf:Nat->Option aC) (h: ∀n∈u.map (·.1),n∉v.map (·.1)):fY (fY hf u) v=fY (fY hf v) u:=by
 funext n
 rw[iT v,iT u,iT u,iT v]
 cases hu:fL u n with
 |none=>simp
 |some y=>
  have hm:=uG (u:=u) (n:=n) (by rw[hu];simp)
  cases hv:fL v n with
  |none=>simp
  |some z=>exact aJ (uG (u:=v) (n:=n) (by rw[hv];simp)) (h n hm)
theorem KI (tf:Nat->AV) {d e:Option Nat} (x y:AV) (h: ∀k,d=some k->e≠some k):oL (oL tf d x) e y=oL (oL tf e y) d x:=by
 cases d with
 |none=>rfl
 |some d=>
  cases e with
  |none=>rfl
  |some e=>
   have hne:d≠e:=fun he=>h d rfl (by rw[he])
   funext k
   simp only[oL]
   by_cases h1:k=d<;>by_cases h2:k=e
   ·exact aJ (h1.symm.trans h2) hne
   ·subst h1;simp[h2]
   ·subst h2;simp[h1]
   ·simp[h1,h2]
theorem zc {tf:Nat->AV} {d:Option Nat} {x:AV} {t:Nat} (h:d≠some t):oL tf d x t=tf t:=by
 cases d with
 |none=>rfl
 |some d=>
  have:t≠d:=fun e=>h (by rw[e])
  simp[oL,this]
def jV.looks (x:jV):List Nat:=x.o.ts++(match x.g with|some (t,_)=>[t]|none=>[])
def BN (x y:jV):Bool:=
 (match x.d with
  |some d=> !(y.looks.contains d)&&y.d !=some d
  |none=>true)&&
 (match y.d with
  |some d=> !(x.looks.contains d)
  |none=>true)
def um (r1 w1 r2 w2:List Nat):Bool:=w1.all (fun n=> !r2.contains n&& !w2.contains n)&&w2.all (fun n=> !r1.contains n)
def Ar (P:Program) [ct P] (nm:Nat) (so:jV) (tf:Nat->AV) (hf:Nat->Option aC) (v:AV) (up:List (Nat×Option aC)) (rs:List Nat):Prop:=
 (Gs so.g tf=some false/\v= .v (.tup [])/\up=[]/\rs=[])\/
 (Gs so.g tf=some true/\ ∃ao,Sv P nm so.o tf hf ao/\v=ao.v/\up=ao.up/\rs=ao.rs)
section
variable {P:Program} [ct P] {tf tf':Nat->AV} {hf hf':Nat->Option aC}
theorem lZ.iff {nx k:Nat} {so:jV} {rs ws:List Nat}:lZ P nx k so tf hf tf' hf' rs ws↔ ∃v up,Ar P (nx+k) so tf hf v up rs/\tf'=oL tf so.d v/\hf'=fY hf up/\ws=up.map (·.1):=by
 constructor
 ·rintro(⟨h1,h2,h3,h4,h5⟩|⟨h1,ao,h2,h3,h4,h5,h6⟩)
  ·exact⟨_,[], .inl ⟨h1,rfl,rfl,h4⟩,h2,h3,h5⟩
  ·exact⟨ao.v,ao.up, .inr ⟨h1,ao,h2,rfl,rfl,h5⟩,h3,h4,h6⟩
 ·rintro⟨v,up,⟨h1,rfl,rfl,h4⟩|⟨h1,ao,h2,rfl,rfl,h5⟩,h3,h6,h7⟩
  ·exact .inl ⟨h1,h3,h6,h4,h7⟩
  ·exact .inr ⟨h1,ao,h2,h3,h6,h5,h7⟩
theorem M9 {g:Option (Nat×Bool)} (h: ∀p,g=some p->tf p.1=tf' p.1):Gs g tf=Gs g tf':=by
 cases g with
 |none=>rfl
 |some p=>obtain⟨t,w⟩:=p;simp only[Gs,h _ rfl]
theorem Ar.congr {nm:Nat} {so:jV} {v:AV} {up:List (Nat×Option aC)} {rs:List Nat} (h:Ar P nm so tf hf v up rs) (ht: ∀t∈so.looks,tf t=tf' t) (hr: ∀n∈rs,hf' n=hf n):Ar P nm so tf' hf' v up rs:=by
 have hg:Gs so.g tf=Gs so.g tf':=M9 fun p hp=>ht p.1 (by simp[jV.looks,hp])
 have hts: ∀t∈so.o.ts,tf t=tf' t:=fun t h=>ht t (by simp[jV.looks,h])
 rcases h with⟨h1,h2,h3,h4⟩|⟨h1,ao,h2,h3,h4,rfl⟩
 ·exact .inl ⟨by rw[<-hg];exact h1,h2,h3,h4⟩
 ·exact .inr ⟨by rw[<-hg];exact h1,ao,Ku hts hr h2,h3,h4,rfl⟩
theorem lZ.swap {nx i j:Nat} {x y:jV} {tf1 tf2:Nat->AV} {hf1 hf2:Nat->Option aC} {r1 w1 r2 w2:List Nat} (hx:lZ P nx i x tf hf tf1 hf1 r1 w1) (hy:lZ P nx j y tf1 hf1 tf2 hf2 r2 w2)
  (ht:BN x y=true) (hn:um r1 w1 r2 w2=true): ∃tf1' hf1',lZ P nx j y tf hf tf1' hf1' r2 w2/\lZ P nx i x tf1' hf1' tf2 hf2 r1 w1:=by
 obtain⟨v1,u1,f1,rfl,rfl,rfl⟩:=lZ.iff.1 hx;obtain⟨v2,u2,f2,rfl,rfl,rfl⟩:=lZ.iff.1 hy;simp only[BN,aV]at ht;obtain⟨t1,t2⟩:=ht;have a1: ∀d,x.d=some d->d∉y.looks/\y.d≠some d:=by
  intro d hd;rw[hd]at t1;simp at t1;exact⟨t1.1,t1.2⟩
 have a2: ∀d,y.d=some d->d∉x.looks:=by
  intro d hd;rw[hd]at t2;simp at t2;exact t2
 simp only[um,aV,bJ]at hn;obtain⟨n1,n2⟩:=hn;have b1: ∀n∈u1.map (·.1),n∉r2/\n∉u2.map (·.1):=by
  intro n hn;have:=n1 n hn;simp only[aV,dC,List.contains_eq_mem,kS]at this;exact this
 have b2: ∀n∈u2.map (·.1),n∉r1:=by
  intro n hn;have:=n2 n hn;simp only[dC,List.contains_eq_mem,kS]at this;exact this
 have f2':Ar P (nx+j) y tf hf v2 u2 r2:=f2.congr (fun t ht=>zc fun hd=>(a1 t hd).1 ht) (fun n hn=>(zN fun hm=>(b1 n hm).1 hn).symm)
 have f1':Ar P (nx+i) x (oL tf y.d v2) (fY hf u2) v1 u1 r1:=f1.congr (fun t ht=>(zc fun hd=>a2 t hd ht).symm) (fun n hn=>zN fun hm=>b2 n hm hn)
 refine⟨oL tf y.d v2,fY hf u2,lZ.iff.2 ⟨v2,u2,f2',rfl,rfl,rfl⟩,lZ.iff.2 ⟨v1,u1,f1',?_,?_,rfl⟩⟩
 ·rw[KI];intro k hk;exact(a1 k hk).2
 ·rw[Lj];intro n hn;exact(b1 n hn).2
inductive vU (P:Program) [ct P] (nx:Nat) (sops:List jV):List Nat->(Nat->AV)->(Nat->Option aC)->(Nat->AV)->(Nat->Option aC)->List (List Nat×List Nat)->Prop where
 |nil (tf:Nat->AV) (hf:Nat->Option aC):vU P nx sops [] tf hf tf hf []
 |cons {k:Nat} {R:List Nat} {so:jV} {tf tf1 tf2:Nat->AV} {hf hf1 hf2:Nat->Option aC} {rs ws:List Nat} {tr:List (List Nat×List Nat)}
   (hs:sops[k]?=some so) (h:lZ P nx k so tf hf tf1 hf1 rs ws) (r:vU P nx sops R tf1 hf1 tf2 hf2 tr):vU P nx sops (k::R) tf hf tf2 hf2 ((rs,ws)::tr)
def may (bf:List Nat) (sops:List jV) (i j:Nat) (t u:List Nat×List Nat):Prop:=
 (bf.getD j 0).testBit i=true\/(um t.1 t.2 u.1 u.2=true/\ ∀x y,sops[i]?=some x->sops[j]?=some y->BN x y=true)
def FY (bf:List Nat) (sops:List jV):List Nat->List (List Nat×List Nat)->Prop
 |i::R,t::tr=>(∀(p:Nat) (j:Nat) (u:List Nat×List Nat),R[p]?=some j->tr[p]?=some u->may bf sops i j t u)/\FY bf sops R tr
 | _,_=>True
theorem vU.front {nx:Nat} {sops:List jV} {bf:List Nat}: ∀{R:List Nat} {tf tf2:Nat->AV} {hf hf2:Nat->Option aC} {tr:List (List Nat×List Nat)},vU P nx sops R tf hf tf2 hf2 tr->FY bf sops R tr->R.Nodup->
  ∀{i:Nat},i∈R->(∀a∈R,a≠i->(bf.getD i 0).testBit a=false)->
  ∃so tf1 hf1 rs ws tr',sops[i]?=some so/\lZ P nx i so tf hf tf1 hf1 rs ws/\vU P nx sops (R.erase i) tf1 hf1 tf2 hf2 tr'/\FY bf sops (R.erase i) tr'/\
   (∀(a:Nat) (t:List Nat×List Nat),may bf sops a i t (rs,ws)->(∀(p j:Nat) (u:List Nat×List Nat),R[p]?=some j->tr[p]?=some u->may bf sops a j t u)-> ∀(p j:Nat) (u:List Nat×List Nat),(R.erase i)[p]?=some j->tr'[p]?=some u->may bf sops a j t u)/\
   (∃p:Nat,R[p]?=some i/\tr[p]?=some (rs,ws)):=by
 intro R tf tf2 hf hf2 tr hrun
 induction hrun with
 |nil=>intro _ _ i hi;simp at hi
 |cons hs h r ih=>
  rename_i k R so tf tf1 tf2 hf hf1 hf2 rs ws tr;intro hind hnd i hi hbf
  by_cases e:k=i
  ·subst e;refine⟨so,tf1,hf1,rs,ws,tr,hs,h,by simpa using r,by simpa using hind.2,?_,⟨0,rfl,rfl⟩⟩
   intro a t _ hm p j u hp hu;rw[List.erase_cons_head]at hp;exact hm (p+1) j u (by simpa using hp) (by simpa using hu)
  ·have hi':i∈R:=by rcases bV.1 hi with rfl|h;exact aJ rfl e;exact h
   obtain⟨hnk,hnd'⟩:=tP.1 hnd;obtain⟨so',tf1',hf1',rs',ws',tr',g1,g2,g3,g4,g5,p0,g6,g7⟩:=ih hind.2 hnd' hi' fun a ha hne=>hbf a (jR _ ha) hne
   have hki:may bf sops k i (rs,ws) (rs',ws'):=hind.1 p0 i _ g6 g7;have hnb:(bf.getD i 0).testBit k=false:=hbf k (by simp) e
   rcases hki with hki|⟨hn,ht⟩
   ·rw[hnb]at hki;cases hki
   ·obtain⟨tfa,hfa,s1,s2⟩:=lZ.swap h g2 (ht so so' hs g1) hn;refine⟨so',tfa,hfa,rs',ws',(rs,ws)::tr',g1,s1,?_,?_,?_,⟨p0+1,by simpa using g6,by simpa using g7⟩⟩
    ·rw[C9 (by simpa using e)]
     exact .cons hs s2 g3
    ·rw[C9 (by simpa using e)]
     exact⟨g5 k (rs,ws) (.inr ⟨hn,ht⟩) hind.1,g4⟩
    ·intro a t hai hm p j u hp hu;rw[C9 (by simpa using e)]at hp
     cases p with
     |zero=>exact hm 0 j u (by simpa using hp) (by simpa using hu)
     |succ p=>exact g5 a t hai (fun p j u hp hu=>hm (p+1) j u (by simpa using hp) (by simpa using hu)) p j u (by simpa using hp) (by simpa using hu)
end
end Go.Dom
namespace Go.Dom
open Go.RowKit
def Xe (bf:List Nat) (o:Oper):Nat:=o.after.toList.foldl (fun s e=>if Region.binds .any e then s|||2^e.on|||bf.getD e.on 0 else s) 0
def GH (ops:Array Oper) (bf:List Nat):Bool:=
 (List.range ops.size).all fun j=>match ops[j]? with
  |none=>false
  |some o=>bf.getD j 0==Xe bf o&&o.after.toList.all fun e=> !Region.binds .any e||decide (e.on<j)
theorem J6 (bf:List Nat) (i:Nat): ∀(l:List Edge) (s:Nat),(l.foldl (fun s e=>if Region.binds .any e then s|||2^e.on|||bf.getD e.on 0 else s) s).testBit i=true->
  s.testBit i=true\/ ∃e∈l,Region.binds .any e=true/\(e.on=i\/(bf.getD e.on 0).testBit i=true):=by
 intro l
 induction l with
 |nil=>intro s h;exact .inl h
 |cons e l ih=>
  intro s h;rw[List.foldl_cons]at h;rcases ih _ h with h|⟨e',he',h1,h2⟩
  ·by_cases hb:Region.binds .any e=true
   ·rw[ah hb,Nat.testBit_or,Nat.testBit_or,qz,qz]at h;rcases h with(h|h)|h
    ·exact .inl h
    ·refine .inr ⟨e,by simp,hb, .inl ?_⟩
     rw[Nat.testBit_two_pow]at h;simpa using h
    ·exact .inr ⟨e,by simp,hb, .inr h⟩
   ·rw[af hb]at h;exact .inl h
  ·exact .inr ⟨e',by simp[he'],h1,h2⟩
theorem uL {ops:Array Oper} {bf:List Nat} (h:GH ops bf=true) {j:Nat} {o:Oper} (ho:ops[j]?=some o):
  (∀i,(bf.getD j 0).testBit i=true-> ∃e∈o.after.toList,Region.binds .any e=true/\(e.on=i\/(bf.getD e.on 0).testBit i=true))/\ ∀e∈o.after.toList,Region.binds .any e=true->e.on<j:=by
 have hj:j<ops.size:=(mI.1 ho).1;simp only[GH,bJ,fE]at h;have:=h j hj;rw[ho]at this;simp only[aV,dZ,bJ]at this;obtain⟨h1,h2⟩:=this;constructor
 ·intro i hi;rw[h1]at hi;rcases J6 bf i _ 0 hi with h|h
  ·simp at h
  ·exact h
 ·intro e he hb;have:=h2 e he;simpa[hb]using this
section
variable {P:Program} [ct P] {E:Env P} {ops:Array Oper} {sops:List jV} {bf:List Nat} {Q:Exit->Act->World->Prop}
variable {al:Nat->Prop} {hf hf2:Nat->Option aC} {tf tf2:Nat->AV}
theorem SR.kT {al':Nat->Prop} {a:Act} {w:World} (h:SR E al tf hf a w) (he: ∀n,al n↔al' n):SR E al' tf hf a w:=by
 obtain⟨C,h1,h2⟩:=h;exact⟨C,fun n=>(h1 n).trans (he n),h2⟩
theorem SR.drew {a:Act} {w:World} (h:SR E al tf hf a w):SR E al tf hf a w.drew:=by
 obtain⟨C,h1,h2,h3,h4,h5⟩:=h;exact⟨C,h1,h2.world fun _ _=>rfl,h3,⟨h4.1.trans (Wf.drew _ _),h4.2⟩,h5⟩
theorem D8 (hbf:GH ops bf=true) (L:Nat->Prop) (hcl: ∀(j:Nat) (o:Oper),ops[j]?=some o->L j-> ∀e∈o.after.toList,Region.binds .any e=true->L e.on):
  ∀(j:Nat) (o:Oper),ops[j]?=some o->(∀e∈o.after.toList,Region.binds .any e=true->L e.on)-> ∀i,(bf.getD j 0).testBit i=true->L i:=by
 intro j
 induction j using Nat.strongRecOn with
 | _ j ih=>
  intro o ho haft i hi;obtain⟨h1,h2⟩:=uL hbf ho;obtain⟨e,he,hb,hc⟩:=h1 i hi;have hLe:=haft e he hb;rcases hc with rfl|hc
  ·exact hLe
  ·have hlt:=h2 e he hb;have hj:j<ops.size:=(mI.1 ho).1;have hoe:ops[e.on]?=some ops[e.on]:=by simp[show e.on<ops.size by omega]
   exact ih e.on hlt _ hoe (hcl _ _ hoe hLe) i hc
theorem BF (hwr: ∀b,E.fr<=b->E.wr b) (hlen:sops.length=ops.size) (hok: ∀(k:Nat) (o:Oper) (so:jV),ops[k]?=some o->sops[k]?=some so->Wu P E.nt ops o so) (hbf:GH ops bf=true) {nx:Nat} (hal: ∀k,k<ops.size-> ¬al (nx+k))
  (hQ: ∀a' w',SR E (fun n=>al n\/ ∃k,k<ops.size/\n=nx+k) tf2 hf2 a' w'->Q .normal a' w'):
  ∀(fuel:Nat) (listed:Array Bool) (R:List Nat) (tf:Nat->AV) (hf:Nat->Option aC) (tr:List (List Nat×List Nat)) (a:Act) (w:World),
   listed.size=ops.size->R.Pairwise (· < ·)->(∀k,k∈R↔k<ops.size/\listed.getD k true=false)->fuel=R.length->
   (∀(j:Nat) (o:Oper),ops[j]?=some o->listed.getD j true=true-> ∀e∈o.after.toList,Region.binds .any e=true->listed.getD e.on true=true)->
   vU P nx sops R tf hf tf2 hf2 tr->FY bf sops R tr->SR E (fun n=>al n\/ ∃k,k<ops.size/\listed.getD k true=true/\n=nx+k) tf hf a w->wpAnyIn (FR E.ro) 0 P .any ops Q fuel listed a w:=by
 have hready: ∀(listed:Array Bool) (i:Nat),i∈Region.ready .any ops listed↔i<ops.size/\listed.getD i true=false/\ ∀o,ops[i]?=some o-> ∀e∈o.after.toList,Region.binds .any e=true->listed.getD e.on false=true:=by
  intro listed i;simp only[Region.ready,List.mem_filter,fE,aV,dC];constructor
  ·rintro⟨h1,h2,h3⟩;refine⟨h1,h2,fun o ho e he hb=> ?_⟩
   rw[ho]at h3;simp only[Option.map_some,Option.getD_some,Array.all_eq_true']at h3;have:=h3 e (by simpa using he)
   simpa[hb]using this
  ·rintro⟨h1,h2,h3⟩;refine⟨h1,h2,?_⟩;have ho:ops[i]?=some ops[i]:=by simp[h1]
   rw[ho];simp only[Option.map_some,Option.getD_some,Array.all_eq_true'];intro e he
   by_cases hb:Region.binds .any e=true
   ·simp[h3 _ ho e (by simpa using he) hb]
   ·simp[hb]
 have hgd: ∀(listed:Array Bool),listed.size=ops.size-> ∀k,k<ops.size->listed.getD k true=listed.getD k false:=by
  intro listed hs k hk;simp[ja,show k<listed.size by omega]
 intro fuel
 induction fuel with
 |zero=>
  intro listed R tf hf tr a w hsz hpw hR hfu hcl hrun hind hsr;have hnil:R=[]:=kD hfu.symm;subst hnil;cases hrun;refine⟨?_,hQ _ _ (hsr.kT fun n=> ?_)⟩
  ·apply List.eq_nil_iff_forall_not_mem.2;intro i hi;obtain⟨h1,h2,-⟩:=(hready listed i).1 hi;have:=(hR i).2 ⟨h1,h2⟩;simp at this
  ·constructor
   ·rintro(h|⟨k,h1,h2,h3⟩)
    ·exact .inl h
    ·exact .inr ⟨k,h1,h3⟩
   ·rintro(h|⟨k,h1,h3⟩)
    ·exact .inl h
    ·refine .inr ⟨k,h1,?_,h3⟩
     cases hl:listed.getD k true with
     |true=>rfl
     |false=>have:=(hR k).2 ⟨h1,hl⟩;simp at this
 |succ fuel ih=>
  intro listed R tf hf tr a w hsz hpw hR hfu hcl hrun hind hsr;constructor
  ·intro hno
   exfalso
   cases R with
   |nil=>simp at hfu
   |cons i0 R0=>
    obtain⟨hp1,hp2⟩:=List.pairwise_cons.1 hpw;obtain⟨hi1,hi2⟩:=(hR i0).1 (by simp)
    have hi0:i0∈Region.ready .any ops listed:=by
     refine(hready listed i0).2 ⟨hi1,hi2,fun o ho e he hb=> ?_⟩
     have hlt:=(uL hbf ho).2 e he hb;have hes:e.on<ops.size:=by omega
     rw[<-hgd listed hsz _ hes]
     cases hl:listed.getD e.on true with
     |true=>rfl
     |false=>
      have:=(hR e.on).2 ⟨hes,hl⟩;rcases bV.1 this with h|h
      ·omega
      ·have:=hp1 _ h;omega
    rw[hno]at hi0;simp at hi0
  ·intro i hi;obtain⟨hi1,hi2,hi3⟩:=(hready listed i).1 hi;have hiR:i∈R:=(hR i).2 ⟨hi1,hi2⟩;have ho:ops[i]?=some ops[i]:=by simp[hi1]
   have haft: ∀e∈(ops[i]).after.toList,Region.binds .any e=true->listed.getD e.on true=true:=by
    intro e he hb;have hlt:=(uL hbf ho).2 e he hb;rw[hgd listed hsz _ (by omega)]
    exact hi3 _ ho e he hb
   have hnobit: ∀b∈R,b≠i->(bf.getD i 0).testBit b=false:=by
    intro b hb _
    cases ht:(bf.getD i 0).testBit b with
    |false=>rfl
    |true=>
     have:=D8 hbf (fun k=>listed.getD k true=true) hcl i _ ho haft b ht
     have h2:=((hR b).1 hb).2;rw[this]at h2;cases h2
   have hnd:R.Nodup:=hpw.imp (fun h=>Nat.ne_of_lt h)
   obtain⟨so,tf1,hf1,rs,ws,tr',g1,g2,g3,g4,-,-⟩:=hrun.front hind hnd hiR hnobit;have hnm: ¬(al (nx+i)\/ ∃k,k<ops.size/\listed.getD k true=true/\nx+i=nx+k):=by
    rintro(h|⟨k,-,h2,h3⟩)
    ·exact hal i hi1 h
    ·have:k=i:=by omega
     subst this;rw[hi2]at h2;cases h2
   have hset: ∀k,(listed.setIfInBounds i true).getD k true=if k=i then true else listed.getD k true:=by
    intro k
    by_cases e:k=i
    ·subst e;simp[ja,show k<listed.size by omega]
    ·rw[af e];simp[ja,wZ (kA e)]
   unfold wpOpIn;rw[ho];refine FA (hok i _ so ho g1) hwr g2 hsr hnm fun a' w' hsr'=> ?_
   refine ih (listed.setIfInBounds i true) (R.erase i) tf1 hf1 tr' a' w' (by simpa using hsz) (hpw.sublist (List.erase_sublist)) ?_ ?_ ?_ g3 g4 (hsr'.kT fun n=> ?_)
   ·intro k;rw[hnd.mem_erase_iff,hR,hset]
    by_cases e:k=i
    ·subst e;simp
    ·simp[e]
   ·rw[List.length_erase_of_mem hiR];omega
   ·intro j o' hj hlj e he hb;rw[hset]at hlj⊢
    by_cases ee:e.on=i
    ·rw[ah ee]
    ·rw[af ee]
     by_cases ej:j=i
     ·subst ej;rw[ho]at hj;injection hj with hj;subst hj
      exact haft e he hb
     ·rw[af ej]at hlj;exact hcl j o' hj hlj e he hb
   ·constructor
    ·rintro((h|⟨k,h1,h2,h3⟩)|rfl)
     ·exact .inl h
     ·refine .inr ⟨k,h1,?_,h3⟩;rw[hset];split<;>simp[h2]
     ·exact .inr ⟨i,hi1,by rw[hset];simp,rfl⟩
    ·rintro(h|⟨k,h1,h2,h3⟩)
     ·exact .inl (.inl h)
     ·rw[hset]at h2
      by_cases e:k=i
      ·subst e;exact .inr h3
      ·rw[af e]at h2;exact .inl (.inr ⟨k,h1,h2,h3⟩)
theorem FN (hm:P.follows .mixedOrders=true) (hwr: ∀b,E.fr<=b->E.wr b) (hlen:sops.length=ops.size) (hok: ∀(k:Nat) (o:Oper) (so:jV),ops[k]?=some o->sops[k]?=some so->Wu P E.nt ops o so) (hbf:GH ops bf=true) {nx id:Nat} (hal: ∀k,k<ops.size-> ¬al (nx+k))
  {tr:List (List Nat×List Nat)} {a:Act} {w:World} (hrun:vU P nx sops (List.range ops.size) tf hf tf2 hf2 tr) (hind:FY bf sops (List.range ops.size) tr) (hsr:SR E al tf hf a w)
  (hQ: ∀a' w',SR E (fun n=>al n\/ ∃k,k<ops.size/\n=nx+k) tf2 hf2 a' w'->Q .normal a' w'):(Code.region id ops true).wpIn (FR E.ro) 0 P Q a w:=by
 refine wpIn_region_any hm ?_;have hrep: ∀k,k<ops.size->(Array.replicate ops.size false).getD k true=false:=by
  intro k hk;simp[ja,hk]
 refine BF hwr hlen hok hbf hal hQ ops.size _ (List.range ops.size) tf hf tr a _ (by simp) List.pairwise_lt_range ?_ (by simp) ?_ hrun hind ?_
 ·intro k;rw[fE];exact⟨fun h=>⟨h,hrep k h⟩,fun h=>h.1⟩
 ·intro j o ho hl;have hj:j<ops.size:=(mI.1 ho).1;rw[hrep j hj]at hl;cases hl
 ·refine hsr.drew.kT fun n=>⟨.inl,?_⟩
  rintro(h|⟨k,h1,h2,-⟩)
  ·exact h
  ·rw[hrep k h1]at h2;cases h2
theorem FM (hwr: ∀b,E.fr<=b->E.wr b) (hok: ∀(k:Nat) (o:Oper) (so:jV),ops[k]?=some o->sops[k]?=some so->Wu P E.nt ops o so) {nx:Nat}:
  ∀{R:List Nat} {tf tf2:Nat->AV} {hf hf2:Nat->Option aC} {tr:List (List Nat×List Nat)},vU P nx sops R tf hf tf2 hf2 tr-> ∀{al:Nat->Prop} {a:Act} {w:World},(∀k∈R,k<ops.size)->R.Nodup->(∀k∈R,¬al (nx+k))->SR E al tf hf a w->
  (∀a' w',SR E (fun n=>al n\/ ∃k∈R,n=nx+k) tf2 hf2 a' w'->Q .normal a' w')->wpOpsIn (FR E.ro) 0 P ops Q R a w:=by
 intro R tf tf2 hf hf2 tr hrun
 induction hrun with
 |nil=>intro al a w _ _ _ hsr hQ;exact hQ a w (hsr.kT fun n=>⟨.inl,fun h=>by rcases h with h|⟨k,hk,-⟩;exact h;simp at hk⟩)
 |cons hs h r ih=>
  rename_i k R so tf tf1 tf2 hf hf1 hf2 rs ws tr;intro al a w hlt hnd hal hsr hQ;obtain⟨hnk,hnd'⟩:=tP.1 hnd;rw[wpOpsIn_cons];unfold wpOpIn;have hk:k<ops.size:=hlt k (by simp)
  have ho:ops[k]?=some ops[k]:=by simp[hk]
  rw[ho];refine FA (hok k _ so ho hs) hwr h hsr (hal k (by simp)) fun a' w' hsr'=> ?_
  refine ih (fun j hj=>hlt j (by simp[hj])) hnd' (fun j hj=> ?_) hsr' fun a'' w'' h2=>hQ a'' w'' (h2.kT fun n=> ?_)
  ·rintro(h|h)
   ·exact hal j (by simp[hj]) h
   ·have:j=k:=by omega
    subst this;exact hnk hj
  ·constructor
   ·rintro((h|rfl)|⟨j,hj,rfl⟩)
    ·exact .inl h
    ·exact .inr ⟨k,by simp,rfl⟩
    ·exact .inr ⟨j,by simp[hj],rfl⟩
   ·rintro(h|⟨j,hj,rfl⟩)
    ·exact .inl (.inl h)
    ·rcases bV.1 hj with rfl|hj
     ·exact .inl (.inr rfl)
     ·exact .inr ⟨j,hj,rfl⟩
end
end Go.Dom
namespace Go.Dom
open Go.RowKit
variable {K K':AO->Prop} {P:Program}
def aO:List (Nat×AV)->Nat->AV
 |[],_=> .u
 |(j,v)::r,k=>if k=j then v else aO r k
def Hh:List (Nat×AV)->Nat->List (Nat×AV)
 |[],_=>[]
 |(j,v)::r,k=>if j=k then Hh r k else(j,v)::Hh r k
def FG (t:List (Nat×AV)) (d:Option Nat) (v:AV):List (Nat×AV):=
 match d with
 |some d=>(d,v)::Hh t d
 |none=>t
def hget:List (Nat×aC)->Nat->Option aC
 |[],_=>none
 |(j,v)::r,k=>if k=j then some v else hget r k
def EH:List (Nat×aC)->Nat->List (Nat×aC)
 |[],_=>[]
 |(j,v)::r,k=>if j=k then EH r k else(j,v)::EH r k
def hput (h:List (Nat×aC)) (n:Nat) (o:Option aC):List (Nat×aC):=
 match o with
 |some o=>(n,o)::EH h n
 |none=>EH h n
def kX (h:List (Nat×aC)):List (Nat×Option aC)->List (Nat×aC)
 |[]=>h
 |(n,o)::r=>kX (hput h n o) r
theorem Lg (t:List (Nat×AV)) (d k:Nat):aO (Hh t d) k=if k=d then .u else aO t k:=by
 induction t with
 |nil=>simp[Hh,aO]
 |cons p t ih=>
  obtain⟨j,v⟩:=p;simp only[Hh,aO]
  by_cases h1:j=d
  ·subst h1;rw[ah rfl,ih]
   by_cases h2:k=j<;>simp[h2]
  ·rw[af h1,aO,ih]
   by_cases h2:k=j
   ·subst h2;simp[h1]
   ·simp[h2]
theorem lW (t:List (Nat×AV)) (d:Option Nat) (v:AV):aO (FG t d v)=oL (aO t) d v:=by
 cases d with
 |none=>rfl
 |some d=>
  funext k
  simp only[FG,aO,oL,Lg]
  by_cases h:k=d<;>simp[h]
theorem AW (h:List (Nat×aC)) (d k:Nat):hget (EH h d) k=if k=d then none else hget h k:=by
 induction h with
 |nil=>simp[EH,hget]
 |cons p h ih=>
  obtain⟨j,v⟩:=p;simp only[EH,hget]
  by_cases h1:j=d
  ·subst h1;rw[ah rfl,ih]
   by_cases h2:k=j<;>simp[h2]
  ·rw[af h1,hget,ih]
   by_cases h2:k=j
   ·subst h2;simp[h1]
   ·simp[h2]
theorem J9 (h:List (Nat×aC)) (n:Nat) (o:Option aC):hget (hput h n o)=fun k=>if k=n then o else hget h k:=by
 funext k
 cases o with
 |none=>simp only[hput,AW]
 |some o=>
  simp only[hput,hget,AW]
  by_cases h:k=n<;>simp[h]
theorem j9 (u:List (Nat×Option aC)): ∀(h:List (Nat×aC)),hget (kX h u)=fY (hget h) u:=by
 induction u with
 |nil=>intro h;rfl
 |cons p u ih=>
  obtain⟨n,o⟩:=p;intro h;simp only[kX,fY,ih,J9]
structure AS where
 t:List (Nat×AV)
 h:List (Nat×aC)
 nx:Nat
def AS.s9 (s:AS) (d:Option Nat) (v:AV) (up:List (Nat×Option aC)):AS:=⟨FG s.t d v,kX s.h up,s.nx⟩
def Kw (x:Option AO) (K:AO->Prop):Prop:=
 match x with
 |some ao=>ao.pre/\K ao
 |none=>False
def Hy (P:Program) [ct P] (nm:Nat) (h:List (Nat×aC)) (fv:AV) (avs:List AV) (K:AO->Prop):Prop:= ∃ao,lB P nm (hget h) fv avs ao/\K ao
def F8 (P:Program) [ct P] (nm:Nat) (o:SO) (s:AS) (K:AO->Prop):Prop:=
 match o with
 | .call f args=>Hy P nm s.h (f.ev (aO s.t)) (args.map (SX.ev (aO s.t))) K
 |o=>Kw (fe nm o (aO s.t) (hget s.h)) K
def AS.set (s:AS) (t:Nat) (v:AV):AS:=⟨FG s.t (some t) v,s.h,s.nx⟩
def xL (x:Bool) (a b:Prop):Prop:=(x=true->a)/\(x=false->b)
theorem rk (a b:Prop):xL true a b=a:=by simp[xL]
theorem pO (a b:Prop):xL false a b=b:=by simp[xL]
def QH (v:AV) (t:Nat) (want:Bool) (s:AS) (yes no:AS->Prop):Prop:=
 match v with
 | .v (.b x)=>xL x ((match want with|true=>yes|false=>no) (s.set t (.v (.b true)))) ((match want with|true=>no|false=>yes) (s.set t (.v (.b false))))
 | .v (.tup [])=>no s
 | _=>False
def F7 (g:Option (Nat×Bool)) (s:AS) (yes no:AS->Prop):Prop:=
 match g with
 |none=>yes s
 |some (t,want)=>QH (aO s.t t) t want s yes no
def qQ (P:Program) [ct P] (nx:Nat):List jV->Nat->AS->(AS->Prop)->Prop
 |[],_,s,K=>K s
 |o::r,k,s,K=>F7 o.g s (fun s=>F8 P (nx+k) o.o s fun ao=>qQ P nx r (k+1) (s.s9 o.d ao.v ao.up) K) (fun s=>qQ P nx r (k+1) (s.s9 o.d (.v (.tup [])) []) K)
def Ad (P:Program) [ct P] (nx:Nat):List jV->Nat->AS->List (Nat×List Nat×List Nat)->(AS->List (Nat×List Nat×List Nat)->Prop)->Prop
 |[],_,s,tr,K=>K s tr
 |o::r,k,s,tr,K=>F7 o.g s (fun s=>F8 P (nx+k) o.o s fun ao=>Ad P nx r (k+1) (s.s9 o.d ao.v ao.up) ((k,ao.rs,ao.up.map (·.1))::tr) K) (fun s=>Ad P nx r (k+1) (s.s9 o.d (.v (.tup [])) []) ((k,[],[])::tr) K)
def SA (bf:List Nat):List (Nat×List Nat×List Nat)->Bool
 |[]=>true
 |(j,r,w)::tr=>tr.all (fun(i,r',w')=>(w.isEmpty&&w'.isEmpty)||(bf.getD j 0).testBit i||um r' w' r w)&&SA bf tr
def stat (bf:List Nat) (sops:List jV):Bool:=
 (List.range sops.length).all fun j=>(List.range j).all fun i=>(bf.getD j 0).testBit i||match sops[i]?,sops[j]? with
  |some x,some y=>BN x y
  | _,_=>false
inductive AX where
 |normal
 |exit (id:Nat)
 |ret
def AV.bd (N:Nat):AV->Bool
 | .p n _ _=>decide (n<N)
 | .mp n=>decide (n<N)
 | .rs n _ _ _ _=>decide (n<N)
 | .agg l=>bdL N l
 | .tup l=>bdL N l
 | .fn _ a c=>bdL N a&&bdL N c
 | _=>true
where bdL (N:Nat):List AV->Bool
 |[]=>true
 |x::r=>x.bd N&&bdL N r
def AV.off (ns:List Nat):AV->Bool
 | .p n _ _=> !ns.contains n
 | .mp n=> !ns.contains n
 | .rs n _ _ _ _=> !ns.contains n
 | .agg l=>offL ns l
 | .tup l=>offL ns l
 | .fn _ a c=>offL ns a&&offL ns c
 | _=>true
where offL (ns:List Nat):List AV->Bool
 |[]=>true
 |x::r=>x.off ns&&offL ns r
structure Jq (hf:Nat->Option aC) (ns:List Nat) (ob ob':aC):Prop where
 ver:ob'.ver=ob.ver
 gr:ob'.gr=ob.gr
 el:ob'.el=ob.el
 len:ob'.cells.length=ob.cells.length
 c: ∀(j:Nat) (x y:AV),ob.cells[j]?=some x->ob'.cells[j]?=some y->y=x\/ ∃z,y= .v z/\view hf 9 x=some z/\ ∀n∈aX hf 9 x,n∈ns
theorem Jq.refl (hf:Nat->Option aC) (ns:List Nat) (ob:aC):Jq hf ns ob ob:=⟨rfl,rfl,rfl,rfl,fun j x y hx hy=> .inl (by rw[hx]at hy;injection hy with hy;exact hy.symm)⟩
structure AS.Le (s s':AS):Prop where
 f: ∃ns:List Nat,(∀n∈ns,1000<=n/\hget s.h n=none)/\(∀p∈s.t,aO s'.t p.1=p.2\/ ∃y,p.2= .v y/\view (hget s'.h) 9 (aO s'.t p.1)=some y/\ ∀n∈aX (hget s'.h) 9 (aO s'.t p.1),n∈ns)/\
  ∀p∈s.h,∃ob,hget s'.h p.1=some ob/\Jq (hget s'.h) ns ob p.2
 nx:s.nx<=s'.nx
 bt: ∀p∈s.t,p.2.bd s.nx=true
 bh: ∀p∈s.h,p.1<s.nx/\ ∀c∈p.2.cells,c.bd s.nx=true
def HV (v:AV) (a b:Prop):Prop:=
 match v with
 | .v (.b c)=>xL c a b
 | .ub=>a/\b
 | _=>False
def u5 (B:(AX->AS->Prop)->AS->Prop) (Q:AX->AS->Prop) (N:Nat) (s:AS):Prop:=
 ∀X:AS->Prop,(∀s1,B (fun e s'=>match e with
  | .normal=>X s'
  |e=>Q e s') s1->X s1)->(∀s1 s2:AS,N<=s1.nx->s1.Le s2->X s1->X s2)->X s
def WO (P:Program) [ct P] (g:FuncId) (caps:List PV) (fin:Bool) (xs:List (List PV)):Prop:=
 Enters P g g/\ ∀(w:World) (rd:Rd) (cvs:List Value) (l:Nat) (J:List (List PV)->World->Prop) (Jx:World->Prop),
  (∀b o v,TR P b o=some v->rd b o=some v)->bC (PR rd) caps cvs->
  (∀ys W,J ys W-> ∀b o v,rd b o=some v->W.cell? ⟨b,o,none⟩=some v)->
  (∀ys W W',J ys W->Below W.heap.size W W'->J ys W')->(∀W W',Jx W->Below W.heap.size W W'->Jx W')->
  (∀y ys vs W,J (y::ys) W->bC (PR rd) y vs->YieldAt Fence.wide 0 P l vs.toArray W fun e W'=>(e= .returned (.bool true)/\J ys W')\/(e= .returned (.bool false)/\Jx W'))->
  (fin=false-> ∀W,¬J [] W)->J xs w->CallsIn Fence.wide 0 P g (#[.func (.yield l) #[] #[]]++cvs.toArray) w fun e W'=>(∃v,e= .returned v)/\(J [] W'\/Jx W')
def qa:List (Nat×AV)->List Nat->List PV->List (Nat×AV)
 |t,p::ps,v::vs=>qa (FG t p (.v v)) ps vs
 |t,_,_=>t
def WV (RB:List PV->(AX->AS->Prop)->AS->Prop) (Q:AX->AS->Prop) (t0:List (Nat×AV)) (N:Nat) (fin:Bool) (xs:List (List PV)) (s:AS):Prop:=
 ∀X:List (List PV)->AS->Prop,(∀s1,fin=true->Q .normal s1->X [] s1)->(∀y ys s1,RB y (fun e s'=>match e with
  | .normal=>X ys {s' with t:=t0}
  |e=>Q e {s' with t:=t0}) s1->X (y::ys) s1)->(∀ys (s1 s2:AS),N<=s1.nx->s1.Le s2->X ys s1->X ys s2)->X xs s
def qR (ns:List Nat) (s:AS) (Q:AX->AS->Prop) (e:AX) (s':AS):Prop:=
 if ns=[]then Q e s' else(∀p∈s'.h,∀c∈p.2.cells,c.off ns=true)/\Q e ⟨s.t,kX s'.h (ns.map fun n=>(n,hget s.h n)),s'.nx⟩
theorem ri {ns:List Nat} {s:AS} {Q Q':AX->AS->Prop} (h: ∀e s,Q e s->Q' e s) (e:AX) (s':AS) (hq:qR ns s Q e s'):qR ns s Q' e s':=by
 unfold qR at hq⊢
 split at hq
 ·rename_i hn;rw[ah hn];exact h _ _ hq
 ·rename_i hn;rw[af hn];exact⟨hq.1,h _ _ hq.2⟩
def aw (P:Program) [ct P]:SC->(AX->AS->Prop)->AS->Prop
 | .skip,Q,s=>Q .normal s
 | .reg none ops,Q,s=>qQ P s.nx ops 0 s fun s'=>Q .normal {s' with nx:=s.nx+ops.length}
 | .reg (some bf) ops,Q,s=>Ad P s.nx ops 0 s [] fun s' tr=>SA bf tr=true/\Q .normal {s' with nx:=s.nx+ops.length}
 | .seq a b,Q,s=>aw P a (fun e s'=>match e with
  | .normal=>aw P b Q s'
  |e=>Q e s') s
 | .cond x a b,Q,s=>HV (x.ev (aO s.t)) (aw P a Q s) (aw P b Q s)
 | .blk id a,Q,s=>aw P a (fun e s'=>match e with
  | .exit j=>if j=id then Q .normal s' else Q (.exit j) s'
  |e=>Q e s') s
 | .loop a,Q,s=>u5 (aw P a) Q s.nx s
 | .rng x ps a b,Q,s=> ∃g caps fin xs ns,view (hget s.h) 9 (x.ev (aO s.t))=some (.fc g [] caps)/\(∀n∈aX (hget s.h) 9 (x.ev (aO s.t)),n∈ns)/\(∀n∈ns,1000<=n)/\WO P g caps fin xs/\(∀y∈xs,y.length=ps.length/\(ns=[]\/ ∀p∈y,p.flat=true))/\
   WV (fun y Qx s1=>aw P a (fun e s2=>match e with
    | .normal=>aw P b Qx s2
    | _=>False) {s1 with t:=qa s1.t ps y}) (qR ns s Q) s.t s.nx fin xs {s with h:=kX s.h (ns.map fun n=>(n,none))}
 | .exit id,Q,s=>Q (.exit id) s
 | .ret,Q,s=>Q .ret s
 | .stop,_,_=>False
theorem Kx {x:Option AO} (h: ∀ao,K ao->K' ao) (hx:Kw x K):Kw x K':=by
 unfold Kw at hx⊢;split
 ·exact⟨hx.1,h _ hx.2⟩
 ·exact hx
theorem Az [ct P] {nm:Nat} {o:SO} {s:AS} (h: ∀ao,K ao->K' ao) (hx:F8 P nm o s K):F8 P nm o s K':=by
 unfold F8 at hx⊢;split
 ·obtain⟨ao,h1,h2⟩:=hx;exact⟨ao,h1,h _ h2⟩
 ·rename_i hne
  cases o<;>first|exact aJ rfl (hne _ _)|exact Kx h hx
theorem Ay {g:Option (Nat×Bool)} {s:AS} {y y' n n':AS->Prop} (hy: ∀s,y s->y' s) (hn: ∀s,n s->n' s) (h:F7 g s y n):F7 g s y' n':=by
 unfold F7 at h⊢;split
 ·exact hy _ h
 ·rename_i t want;unfold QH at h⊢;simp only at h;split
  ·rename_i x hx;rw[hx]at h;refine⟨fun e=> ?_,fun e=> ?_⟩
   ·have:=h.1 e;cases want
    ·exact hn _ this
    ·exact hy _ this
   ·have:=h.2 e;cases want
    ·exact hy _ this
    ·exact hn _ this
  ·rename_i hx;rw[hx]at h;exact hn _ h
  ·rename_i h1 h2
   split at h
   ·rename_i hx;exact aJ hx (h1 _)
   ·rename_i hx;exact aJ hx h2
   ·exact h
theorem F9 [ct P] {nx:Nat} {ops:List jV}: ∀{k:Nat} {s:AS} {K K':AS->Prop},(∀s,K s->K' s)->qQ P nx ops k s K->qQ P nx ops k s K':=by
 induction ops with
 |nil=>intro k s K K' h hx;exact h _ hx
 |cons o r ih=>
  intro k s K K' h hx;simp only[qQ]at hx⊢;exact Ay (fun s hs=>Az (fun ao ha=>ih h ha) hs) (fun s hs=>ih h hs) hx
theorem Jy [ct P] {nx:Nat} {ops:List jV}: ∀{k:Nat} {s:AS} {tr:List (Nat×List Nat×List Nat)} {K K':AS->List (Nat×List Nat×List Nat)->Prop},(∀s t,K s t->K' s t)->Ad P nx ops k s tr K->Ad P nx ops k s tr K':=by
 induction ops with
 |nil=>intro k s tr K K' h hx;exact h _ _ hx
 |cons o r ih=>
  intro k s tr K K' h hx;simp only[Ad]at hx⊢;exact Ay (fun s hs=>Az (fun ao ha=>ih h ha) hs) (fun s hs=>ih h hs) hx
theorem qf [ct P] {sc:SC}: ∀{Q Q':AX->AS->Prop} {s:AS},(∀e s,Q e s->Q' e s)->aw P sc Q s->aw P sc Q' s:=by
 induction sc with
 |skip=>intro Q Q' s h hx;exact h _ _ hx
 |reg bf ops=>
  intro Q Q' s h hx
  cases bf with
  |none=>exact F9 (fun s hs=>h _ _ hs) hx
  |some bf=>exact Jy (fun s t hs=>⟨hs.1,h _ _ hs.2⟩) hx
 |seq a b iha ihb=>
  intro Q Q' s h hx;simp only[aw]at hx⊢;refine iha (fun e s hs=> ?_) hx
  cases e with
  |normal=>exact ihb h hs
  |exit j=>exact h _ _ hs
  |ret=>exact h _ _ hs
 |cond x a b iha ihb=>
  intro Q Q' s h hx;simp only[aw]at hx⊢;unfold HV at hx⊢;generalize x.ev (aO s.t)=v at hx⊢
  cases v with
  |v y=>cases y with
   |b c=>exact⟨fun e=>iha h (hx.1 e),fun e=>ihb h (hx.2 e)⟩
   | _=>exact hx.elim
  |ub=>exact⟨iha h hx.1,ihb h hx.2⟩
  | _=>exact hx.elim
 |blk id a iha=>
  intro Q Q' s h hx;simp only[aw]at hx⊢;refine iha (fun e s hs=> ?_) hx
  cases e with
  |normal=>exact h _ _ hs
  |exit j=>
   simp only at hs⊢;split
   ·rename_i e;rw[ah e]at hs;exact h _ _ hs
   ·rename_i e;rw[af e]at hs;exact h _ _ hs
  |ret=>exact h _ _ hs
 |loop a iha=>
  intro Q Q' s h hx;simp only[aw]at hx⊢;intro X h1 h2;refine hx X (fun s1 hB=>h1 s1 (iha (fun e s hs=> ?_) hB)) h2
  cases e with
  |normal=>exact hs
  |exit j=>exact h _ _ hs
  |ret=>exact h _ _ hs
 |rng x ps a b iha ihb=>
  intro Q Q' s h hx;simp only[aw]at hx⊢;obtain⟨g,caps,fin,xs,ns,h1,h2,h4,h5,h3,hx⟩:=hx;refine⟨g,caps,fin,xs,ns,h1,h2,h4,h5,h3,fun X g1 g2 g3=>hx X (fun s1 hf hq=>g1 s1 hf (ri h _ _ hq)) (fun y ys s1 hB=>g2 y ys s1 (iha (fun e s2 hs=> ?_) hB)) g3⟩
  cases e with
  |normal=>
   refine ihb (fun e s3 hs3=> ?_) hs
   cases e with
   |normal=>exact hs3
   |exit j=>exact ri h _ _ hs3
   |ret=>exact ri h _ _ hs3
  |exit j=>exact hs
  |ret=>exact hs
 |exit id=>intro Q Q' s h hx;exact h _ _ hx
 |ret=>intro Q Q' s h hx;exact h _ _ hx
 |stop=>intro Q Q' s h hx;exact hx
theorem vD [ct P] {a:SC} {Q:AX->AS->Prop} {N:Nat} {s:AS} (h:aw P a (fun e s'=>match e with
  | .normal=>u5 (aw P a) Q N s'
  |e=>Q e s') s):u5 (aw P a) Q N s:=by
 intro X h1 h2;refine h1 s (qf (fun e s' hs=> ?_) h)
 cases e with
 |normal=>exact hs X h1 h2
 |exit j=>exact hs
 |ret=>exact hs
theorem Be {B:(AX->AS->Prop)->AS->Prop} {Q:AX->AS->Prop} {N:Nat} {s s':AS} (hN:N<=s'.nx) (hle:s'.Le s) (h:u5 B Q N s'):u5 B Q N s:=
 fun X h1 h2=>h2 s' s hN hle (h X h1 h2)
theorem Kj [ct P] {a:SC} {Q:AX->AS->Prop} {N:Nat} {s:AS} {α:Type} (m:α->Nat) (st:α->AS) (ok:α->Prop) (a0:α) (hN: ∀x,N<=(st x).nx) (h0:ok a0) (hle:(st a0).Le s)
  (hr: ∀x,ok x->aw P a (fun e s'=>match e with
   | .normal=> ∃y,ok y/\m y<m x/\(st y).Le s'
   |e=>Q e s') (st x)):u5 (aw P a) Q N s:=by
 refine Be (hN a0) hle ?_;have key: ∀(n:Nat) (x:α),m x=n->ok x->u5 (aw P a) Q N (st x):=by
  intro n
  induction n using Nat.strongRecOn with
  | _ n ih=>
   intro x hx hok;refine vD (qf (fun e s' hs=> ?_) (hr x hok))
   cases e with
   |normal=>
    obtain⟨y,h1,h2,h3⟩:=hs;exact Be (hN y) h3 (ih (m y) (hx▸h2) y rfl h1)
   |exit j=>exact hs
   |ret=>exact hs
 exact key _ a0 rfl h0
def HS (ops:Array Oper) (nt:Nat):Option (Nat×Bool)->Option (Option (Nat×Bool))
 |none=>some none
 |some (j,w)=>match (ops[j]?).bind (·.dst)with
  |some t=>if t<nt then some (some (t,w))else none
  |none=>none
def Zt (nt:Nat):Option Nat->Bool
 |some d=>decide (d<nt)
 |none=>true
def HT (P:Program) [ct P] (nt:Nat) (ops:Array Oper) (o:Oper):Option jV:=
 match rm P o,HS ops nt o.guard with
 |some so,some g=>if Zt nt o.dst then some ⟨o.dst,so,g⟩else none
 | _,_=>none
def HU (P:Program) [ct P] (nt:Nat) (ops:Array Oper) (draw:Bool):Option SC:=
 match aU (HT P nt ops) ops.toList with
 |some sops=>if draw then(if GH ops (Region.before ops).toList&&stat (Region.before ops).toList sops then some (.reg (some (Region.before ops).toList) sops)else none)else some (.reg none sops)
 |none=>none
def SC.ek:SC->Bool
 | .seq a b=>a.ek&&b.ek
 | .cond _ a b=>a.ek&&b.ek
 | .blk _ a=>a.ek
 | .loop a=>a.ek
 | .rng _ _ _ _=>false
 | _=>true
def comp (P:Program) [ct P] (nt:Nat):Code->Option SC
 | .skip=>some .skip
 | .region _ ops draw=>HU P nt ops draw
 | .seq a b=>match comp P nt a,comp P nt b with
  |some a,some b=>some (.seq a b)
  | _,_=>none
 | .cond c a b=>match sx P c,comp P nt a,comp P nt b with
  |some c,some a,some b=>some (.cond c a b)
  | _,_,_=>none
 | .block id a=>match comp P nt a with
  |some a=>some (.blk id a)
  |none=>none
 | .loop a=>match comp P nt a with
  |some a=>some (.loop a)
  |none=>none
 | .rangeFunc g ps a b=>match sx P g,comp P nt a,comp P nt b with
  |some g,some a,some b=>if a.ek&&b.ek&&ps.toList.all (fun p=>Nat.blt p nt)then some (.rng g ps.toList a b)else none
  | _,_,_=>none
 | .exit id=>some (.exit id)
 | .ret=>some .ret
 | .refuse _=>some .stop
 | .scope a=>comp P nt a
 | .label _=>some .skip
 | _=>none
