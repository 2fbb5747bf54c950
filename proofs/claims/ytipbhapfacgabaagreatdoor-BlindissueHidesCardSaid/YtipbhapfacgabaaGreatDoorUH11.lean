/- Part of the proof. -/
import Derived.Test.YtipbhapfacgabaaGreatDoorUH10
set_option linter.all false
namespace Go.Dom
open Go.RowKit
section
variable {P:Program} [ct P]
variable {bf ns:List Nat} {hf:Nat->Option aC} {k nx:Nat} {sops:List jV} {tr:List (List Nat×List Nat)} {wr:Nat->Prop}
theorem Mb {nm:Nat} {o:SO} {s:AS} {K:AO->Prop} (h:F8 P nm o s K): ∃ao,Sv P nm o (aO s.t) (hget s.h) ao/\K ao:=by
 unfold F8 at h
 split at h
 ·obtain⟨ao,h1,h2⟩:=h;exact⟨ao,h1,h2⟩
 ·rename_i hne;unfold Kw at h
  split at h
  ·rename_i ao ha;refine⟨ao,?_,h.2⟩;unfold Sv;split
   ·exact aJ rfl (hne _ _)
   ·exact⟨ha,h.1⟩
  ·exact h.elim
theorem Ft {s:AS} {t:Nat} {v:AV} (h:aO s.t t=v):aO (s.set t v).t=aO s.t:=by
 funext k
 simp only[AS.set,lW,oL]
 by_cases e:k=t
 ·subst e;simp[h]
 ·simp[e]
theorem Ma {g:Option (Nat×Bool)} {s:AS} {yes no:AS->Prop} (h:F7 g s yes no): ∃s',aO s'.t=aO s.t/\s'.h=s.h/\s'.nx=s.nx/\((Gs g (aO s.t)=some true/\yes s')\/(Gs g (aO s.t)=some false/\no s')):=by
 cases g with
 |none=>exact⟨s,rfl,rfl,rfl, .inl ⟨rfl,h⟩⟩
 |some p=>
  obtain⟨t,want⟩:=p;simp only[F7,QH]at h;simp only[Gs]
  split at h
  ·rename_i x hx;rw[hx];cases x
   ·refine⟨s.set t (.v (.b false)),Ft hx,rfl,rfl,?_⟩;cases want
    ·exact .inl ⟨rfl,h.2 rfl⟩
    ·exact .inr ⟨rfl,h.2 rfl⟩
   ·refine⟨s.set t (.v (.b true)),Ft hx,rfl,rfl,?_⟩;cases want
    ·exact .inr ⟨rfl,h.1 rfl⟩
    ·exact .inl ⟨rfl,h.1 rfl⟩
  ·rename_i hx;rw[hx];exact⟨s,rfl,rfl,rfl, .inr ⟨rfl,h⟩⟩
  ·exact h.elim
theorem Jw: ∀(ops:List jV) (k:Nat) (s:AS) (K:AS->Prop),(∀j,sops[k+j]?=ops[j]?)->qQ P nx ops k s K->
  ∃s2 tr,vU P nx sops (List.range' k ops.length) (aO s.t) (hget s.h) (aO s2.t) (hget s2.h) tr/\s2.nx=s.nx/\K s2:=by
 intro ops
 induction ops with
 |nil=>intro k s K _ h;exact⟨s,[], .nil _ _,rfl,h⟩
 |cons o r ih=>
  intro k s K hget h;have ho:sops[k]?=some o:=by have:=hget 0;simpa using this
  have hr: ∀j,sops[k+1+j]?=r[j]?:=by intro j;have:=hget (j+1);rw[show k+1+j=k+(j+1) by omega];simpa using this
  simp only[qQ]at h;rw[List.length_cons,List.range'_succ];obtain⟨sg,e1,e2,e3,⟨hg,h⟩|⟨hg,h⟩⟩:=Ma h
  ·obtain⟨ao,hop,h⟩:=Mb h;rw[e1,e2]at hop;obtain⟨s2,tr,h1,h2,h3⟩:=ih (k+1) _ K hr h;refine⟨s2,_, .cons ho (.inr ⟨hg,ao,hop,rfl,rfl,rfl,rfl⟩) (by simpa[AS.s9,lW,j9,e1,e2]using h1),h2.trans e3,h3⟩
  ·obtain⟨s2,tr,h1,h2,h3⟩:=ih (k+1) _ K hr h;refine⟨s2,_, .cons ho (.inl ⟨hg,rfl,rfl,rfl,rfl⟩) (by simpa[AS.s9,lW,j9,fY,e1,e2]using h1),h2.trans e3,h3⟩
def mQ:Nat->List (List Nat×List Nat)->List (Nat×List Nat×List Nat)
 | _,[]=>[]
 |k,t::r=>(k,t.1,t.2)::mQ (k+1) r
theorem D4: ∀(ops:List jV) (k:Nat) (s:AS) (tr0:List (Nat×List Nat×List Nat)) (K:AS->List (Nat×List Nat×List Nat)->Prop),(∀j,sops[k+j]?=ops[j]?)->Ad P nx ops k s tr0 K->
  ∃s2 tr,vU P nx sops (List.range' k ops.length) (aO s.t) (hget s.h) (aO s2.t) (hget s2.h) tr/\s2.nx=s.nx/\K s2 ((mQ k tr).reverse++tr0):=by
 intro ops
 induction ops with
 |nil=>intro k s tr0 K _ h;exact⟨s,[], .nil _ _,rfl,by simpa[mQ,Ad]using h⟩
 |cons o r ih=>
  intro k s tr0 K hget h;have ho:sops[k]?=some o:=by have:=hget 0;simpa using this
  have hr: ∀j,sops[k+1+j]?=r[j]?:=by intro j;have:=hget (j+1);rw[show k+1+j=k+(j+1) by omega];simpa using this
  simp only[Ad]at h;rw[List.length_cons,List.range'_succ];obtain⟨sg,e1,e2,e3,⟨hg,h⟩|⟨hg,h⟩⟩:=Ma h
  ·obtain⟨ao,hop,h⟩:=Mb h;rw[e1,e2]at hop;obtain⟨s2,tr,h1,h2,h3⟩:=ih (k+1) _ _ K hr h;refine⟨s2,_, .cons ho (.inr ⟨hg,ao,hop,rfl,rfl,rfl,rfl⟩) (by simpa[AS.s9,lW,j9,e1,e2]using h1),h2.trans e3,?_⟩
   simpa[mQ]using h3
  ·obtain⟨s2,tr,h1,h2,h3⟩:=ih (k+1) _ _ K hr h;refine⟨s2,_, .cons ho (.inl ⟨hg,rfl,rfl,rfl,rfl⟩) (by simpa[AS.s9,lW,j9,fY,e1,e2]using h1),h2.trans e3,?_⟩
   simpa[mQ]using h3
theorem AQ: ∀(tr:List (List Nat×List Nat)) (k p:Nat) (t:List Nat×List Nat),tr[p]?=some t->(mQ k tr)[p]?=some (k+p,t.1,t.2):=by
 intro tr
 induction tr with
 |nil=>intro k p t h;simp at h
 |cons u tr ih=>
  intro k p t h
  cases p with
  |zero=>simp at h;subst h;simp[mQ]
  |succ p=>simp at h;simp only[mQ,List.getElem?_cons_succ];rw[ih (k+1) p t h];congr 2;omega
theorem JY: ∀(tr:List (List Nat×List Nat)) (k:Nat),(mQ k tr).length=tr.length:=by
 intro tr
 induction tr with
 |nil=>intro k;rfl
 |cons u tr ih=>intro k;simp[mQ,ih]
theorem Ms: ∀{l:List (Nat×List Nat×List Nat)},SA bf l=true-> ∀(x y:Nat) (j i:Nat) (r w r' w':List Nat),x<y->l[x]?=some (j,r,w)->l[y]?=some (i,r',w')->
  (bf.getD j 0).testBit i=true\/um r' w' r w=true:=by
 intro l
 induction l with
 |nil=>intro _ x y j i r w r' w' _ hx;simp at hx
 |cons p l ih=>
  obtain⟨j0,r0,w0⟩:=p;intro h x y j i r w r' w' hxy hx hy;simp only[SA,aV,bJ]at h
  cases x with
  |zero=>
   simp at hx;obtain⟨rfl,rfl,rfl⟩:=hx
   cases y with
   |zero=>omega
   |succ y=>
    simp at hy;have:=h.1 _ (jb hy);simp only[qz,aV,List.isEmpty_iff]at this;rcases this with(⟨h1,h2⟩|h1)|h1
    ·subst h1;subst h2;exact .inr (by simp[um])
    ·exact .inl h1
    ·exact .inr h1
  |succ x=>
   cases y with
   |zero=>omega
   |succ y=>exact ih h.2 x y j i r w r' w' (by omega) (by simpa using hx) (by simpa using hy)
theorem QQ: ∀(R:List Nat) (tr:List (List Nat×List Nat)),(∀(p q:Nat) (i j:Nat) (t u:List Nat×List Nat),p<q->R[p]?=some i->R[q]?=some j->tr[p]?=some t->tr[q]?=some u->may bf sops i j t u)->FY bf sops R tr:=by
 intro R
 induction R with
 |nil=>intro tr _;cases tr<;>trivial
 |cons i R ih=>
  intro tr h
  cases tr with
  |nil=>trivial
  |cons t tr=>
   refine⟨fun p j u hp hu=>h 0 (p+1) i j t u (by omega) rfl (by simpa using hp) rfl (by simpa using hu),ih tr fun p q a b c d hpq h1 h2 h3 h4=>h (p+1) (q+1) a b c d (by omega) (by simpa using h1) (by simpa using h2) (by simpa using h3) (by simpa using h4)⟩
theorem Ez {R:List Nat} {tf tf2:Nat->AV} {hf2:Nat->Option aC} (h:vU P nx sops R tf hf tf2 hf2 tr):tr.length=R.length:=by
 induction h with
 |nil=>rfl
 |cons _ _ _ ih=>simp[ih]
theorem yo (hl:tr.length=sops.length) (hs:stat bf sops=true) (hc:SA bf ((mQ 0 tr).reverse++[])=true):FY bf sops (List.range sops.length) tr:=by
 rw[jr]at hc;apply QQ;intro p q i j t u hpq hp hq ht hu;have hqn:q<sops.length:=by have:=(cv.1 hq).1;simpa using this
 have hpn:p<sops.length:=by omega
 rw[tJ (by omega)]at hp hq
 injection hp with hp;injection hq with hq;subst hp;subst hq
 have e1:=AQ tr 0 p t ht;have e2:=AQ tr 0 q u hu;rw[fG]at e1 e2;have hlen:(mQ 0 tr).length=sops.length:=by rw[JY,hl]
 have r1:(mQ 0 tr).reverse[sops.length-1-p]?=some (p,t.1,t.2):=by
  rw[List.getElem?_reverse (by omega),hlen]
  rw[show sops.length-1-(sops.length-1-p)=p by omega];exact e1
 have r2:(mQ 0 tr).reverse[sops.length-1-q]?=some (q,u.1,u.2):=by
  rw[List.getElem?_reverse (by omega),hlen]
  rw[show sops.length-1-(sops.length-1-q)=q by omega];exact e2
 rcases Ms hc _ _ _ _ _ _ _ _ (show sops.length-1-q<sops.length-1-p by omega) r2 r1 with h|h
 ·exact .inl h
 ·by_cases hb:(bf.getD q 0).testBit p=true
  ·exact .inl hb
  ·refine .inr ⟨h,fun x y hx hy=> ?_⟩
   simp only[stat,bJ,fE]at hs;have:=hs q hqn p hpq;rw[hx,hy]at this;simp only[qz]at this;rcases this with h|h
   ·exact aJ h hb
   ·exact h
theorem AR.restrict {C:Cx} {N:Nat} (cur:Nat->Option Nat) (hcur: ∀n c,cur n=some c->C.cur n=some c) {x:AV} {v:Value} (h:AR C x v):x.bd N=true->AR {C with al:=fun n=>n<N,cur:=cur} x v:=by
 have hall: ∀(l:List AV),AV.bd.bdL N l=true-> ∀(k:Nat) (y:AV),l[k]?=some y->y.bd N=true:=by
  intro l
  induction l with
  |nil=>intro _ k y hy;simp at hy
  |cons x l ih=>
   intro hl k y hy;simp only[AV.bd.bdL,aV]at hl
   cases k with
   |zero=>simp at hy;subst hy;exact hl.1
   |succ k=>exact ih hl.2 k y (by simpa using hy)
 induction h with
 |v h=>intro _;exact .v h
 |mp n b ha hk h=>intro hb;simp only[AV.bd,bc]at hb;exact .mp n b hb hk fun c hc=>h c (hcur n c hc)
 |p n ver o b ha hk h=>intro hb;simp only[AV.bd,bc]at hb;exact .p n ver o b hb hk fun c hc=>h c (hcur n c hc)
 |pp x o vs bk of h1 hl hr h=>intro _;exact .pp x o vs bk of h1 hl hr h
 |rs n ver o len z b o' cap ha hk hc ho h=>intro hb;simp only[AV.bd,bc]at hb;exact .rs n ver o len z b o' cap hb hk hc ho fun c hc'=>h c (hcur n c hc')
 |fs l a h=>intro _;exact .fs l a h
 |sn=>intro _;exact .sn
 |agg l vs hl _ ih=>intro hb;exact .agg l vs hl fun k x v hx hv=>ih k x v hx hv (hall l hb k x hx)
 |tup l vs hl _ ih=>intro hb;exact .tup l vs hl fun k x v hx hv=>ih k x v hx hv (hall l hb k x hx)
 |fn f a c va vc hla hlc _ _ iha ihc=>
  intro hb;simp only[AV.bd,aV]at hb;exact .fn f a c va vc hla hlc (fun k x v hx hv=>iha k x v hx hv (hall a hb.1 k x hx)) (fun k x v hx hv=>ihc k x v hx hv (hall c hb.2 k x hx))
 |ub x=>intro _;exact .ub x
 |u w=>intro _;exact .u w
def Cx.uF (C:Cx) (ns:List Nat):Cx:={C with cur:=fun n=>if n∈ns then none else C.cur n}
theorem Cx.sI (C:Cx) (ns:List Nat):C.Le (C.uF ns):=by
 refine⟨fun _ _ _ h=>h,fun _ h=>h,fun n _ d h=> ?_,fun _ _=>⟨rfl,fun _=>rfl⟩⟩
 simp only[Cx.uF]at h
 split at h
 ·cases h
 ·exact⟨d,h,aB _,fun _=>⟨rfl,rfl⟩⟩
theorem zO (ns:List Nat) (f:Nat->Option aC): ∀(hf:Nat->Option aC) (n:Nat),fY hf (ns.map fun n=>(n,f n)) n=if n∈ns then f n else hf n:=by
 induction ns with
 |nil=>intro hf n;simp
 |cons m ns ih=>
  intro hf n;simp only[br,fY,ih,bV]
  by_cases h1:n∈ns
  ·simp[h1]
  ·by_cases h2:n=m
   ·subst h2;simp
   ·simp[h1,h2]
theorem HR.uF {C:Cx} {wr':Nat->Prop} {w:World} (h:HR C hf wr w) (ns:List Nat) (hwr: ∀n ob,n∉ns->hf n=some ob->wr' (C.mu n)):HR (C.uF ns) (fY hf (ns.map fun n=>(n,none))) wr' w:=by
 have key: ∀n ob,fY hf (ns.map fun n=>(n,none)) n=some ob->n∉ns/\hf n=some ob:=by
  intro n ob hn;rw[jy]at hn
  split at hn
  ·cases hn
  ·rename_i hm;exact⟨hm,hn⟩
 refine⟨h.rdw,?_,?_,?_,?_,?_,?_,?_,fun n ob hn=>h.mp n ob (key n ob hn).2⟩
 ·intro n ob hn;obtain⟨hm,hn⟩:=key n ob hn;obtain⟨h1,h2⟩:=h.live n ob hn;exact⟨h1,by simp only[Cx.uF,hm,ak];exact h2⟩
 ·intro n hn;rw[jy]at hn;simp only[Cx.uF];split
  ·rfl
  ·rename_i hm;rw[af hm]at hn;exact h.dead n hn
 ·intro n ob hn k;exact h.sep n ob (key n ob hn).2 k
 ·intro n m ob oc hn hm he;exact h.inj n m ob oc (key n ob hn).2 (key m oc hm).2 he
 ·intro n ob hn;exact hwr n ob (key n ob hn).1 (key n ob hn).2
 ·intro n ob hn hk;obtain⟨cs,el,h1,h2,h3,h4,h5⟩:=h.obj n ob (key n ob hn).2 hk;exact⟨cs,el,h1,h2,h3,h4,fun k x v hx hv=>(h5 k x v hx hv).mono (C.sI ns)⟩
 ·intro n ob hn hk t ht;exact h.typ n ob (key n ob hn).2 hk t ht
def Cx.back (C D:Cx) (hf:Nat->Option aC) (ns:List Nat):Cx:=⟨D.rd,D.al,fun n=>if n∈ns then(hf n).map (·.ver)else D.cur n,fun n=>if n∈ns then C.mu n else D.mu n,fun n=>if n∈ns then C.sz n else D.sz n,fun n=>if n∈ns then C.mpn n else D.mpn n⟩
theorem AR.off {C D:Cx} {x:AV} {v:Value} (h:AR D x v):x.off ns=true->AR (C.back D hf ns) x v:=by
 have hall: ∀(l:List AV),AV.off.offL ns l=true-> ∀(k:Nat) (y:AV),l[k]?=some y->y.off ns=true:=by
  intro l
  induction l with
  |nil=>intro _ k y hy;simp at hy
  |cons x l ih=>
   intro hl k y hy;simp only[AV.off.offL,aV]at hl
   cases k with
   |zero=>simp at hy;subst hy;exact hl.1
   |succ k=>exact ih hl.2 k y (by simpa using hy)
 induction h with
 |v h=>intro _;exact .v h
 |mp n b ha hk h=>
  intro hb;have hn:n∉ns:=by simpa[AV.off]using hb
  refine .mp n b ha (by simpa[Cx.back,hn]using hk) fun c hc=> ?_
  simp only[Cx.back,af hn]at hc⊢;exact h c hc
 |p n ver o b ha hk h=>
  intro hb;have hn:n∉ns:=by simpa[AV.off]using hb
  refine .p n ver o b ha (by simpa[Cx.back,hn]using hk) fun c hc=> ?_
  simp only[Cx.back,af hn]at hc⊢;exact h c hc
 |pp x o vs bk of h1 hl hr h=>intro _;exact .pp x o vs bk of h1 hl hr h
 |rs n ver o len z b o' cap ha hk hc ho h=>
  intro hb;have hn:n∉ns:=by simpa[AV.off]using hb
  refine .rs n ver o len z b o' cap ha (by simpa[Cx.back,hn]using hk) hc ho fun c hc'=> ?_
  simp only[Cx.back,af hn]at hc'⊢;exact h c hc'
 |fs l a h=>intro _;exact .fs l a h
 |sn=>intro _;exact .sn
 |agg l vs hl _ ih=>intro hb;exact .agg l vs hl fun k x v hx hv=>ih k x v hx hv (hall l hb k x hx)
 |tup l vs hl _ ih=>intro hb;exact .tup l vs hl fun k x v hx hv=>ih k x v hx hv (hall l hb k x hx)
 |fn f a c va vc hla hlc _ _ iha ihc=>
  intro hb;simp only[AV.off,aV]at hb;exact .fn f a c va vc hla hlc (fun k x v hx hv=>iha k x v hx hv (hall a hb.1 k x hx)) (fun k x v hx hv=>ihc k x v hx hv (hall c hb.2 k x hx))
 |ub x=>intro _;exact .ub x
 |u w=>intro _;exact .u w
theorem Cx.Ik {C D:Cx} {w:World} (h:HR C hf wr w) (hle:(C.uF ns).Le D):C.Le (C.back D hf ns):=by
 refine⟨hle.rd,hle.al,fun n ha d hd=> ?_,fun n ha=>by
  by_cases hn:n∈ns
  ·simp[Cx.back,hn]
  ·simp only[Cx.back,af hn];exact hle.mpn n ha⟩
 simp only[Cx.back]at hd⊢
 by_cases hn:n∈ns
 ·simp only[ah hn]at hd⊢;obtain⟨ob,h1,rfl⟩:=dM.1 hd;exact⟨_,(h.live n ob h1).2,aB _,fun _=>by simp⟩
 ·simp only[af hn]at hd⊢;obtain⟨c,h1,h2,h3⟩:=hle.cur n ha d hd;simp only[Cx.uF,af hn]at h1;exact⟨c,h1,h2,h3⟩
theorem HR.back {C D:Cx} {hf1:Nat->Option aC} {wr1 wr2:Nat->Prop} {w w1:World} (h:HR C hf wr w) (hle:(C.uF ns).Le D) (h1:HR D hf1 wr1 w1) (hcells: ∀n ob,hf1 n=some ob-> ∀c∈ob.cells,c.off ns=true)
  (hpin: ∀n ob,n∈ns->hf n=some ob->w1.heap[C.mu n]?=w.heap[C.mu n]?) (hrd: ∀n ob,n∈ns->hf n=some ob->D.rd (C.mu n)=C.rd (C.mu n)) (hnw: ∀n ob,n∈ns->hf n=some ob-> ¬wr1 (C.mu n)) (hw1: ∀b,wr1 b->wr2 b) (hw2: ∀n ob,n∈ns->hf n=some ob->wr2 (C.mu n)):
  HR (C.back D hf ns) (fY hf1 (ns.map fun n=>(n,hf n))) wr2 w1:=by
 have key: ∀n ob,fY hf1 (ns.map fun n=>(n,hf n)) n=some ob->(n∈ns/\hf n=some ob)\/(n∉ns/\hf1 n=some ob):=by
  intro n ob hn;rw[zO]at hn
  split at hn
  ·rename_i hm;exact .inl ⟨hm,hn⟩
  ·rename_i hm;exact .inr ⟨hm,hn⟩
 have hlb:=Cx.Ik h hle;refine⟨h1.rdw,?_,?_,?_,?_,?_,?_,?_,?_⟩
 ·intro n ob hn;rcases key n ob hn with⟨hm,hn⟩|⟨hm,hn⟩
  ·exact⟨hlb.al n (h.live n ob hn).1,by simp[Cx.back,hm,hn]⟩
  ·exact⟨(h1.live n ob hn).1,by simp only[Cx.back,af hm];exact(h1.live n ob hn).2⟩
 ·intro n hn;rw[zO]at hn;simp only[Cx.back];split
  ·rename_i hm;rw[ah hm]at hn;simp[hn]
  ·rename_i hm;rw[af hm]at hn;exact h1.dead n hn
 ·intro n ob hn k;rcases key n ob hn with⟨hm,hn⟩|⟨hm,hn⟩
  ·simp only[Cx.back,ah hm];rw[hrd n ob hm hn];exact h.sep n ob hn k
  ·simp only[Cx.back,af hm];exact h1.sep n ob hn k
 ·intro n m ob oc hn hm he;rcases key n ob hn with⟨a1,a2⟩|⟨a1,a2⟩<;>rcases key m oc hm with⟨b1,b2⟩|⟨b1,b2⟩<;>simp only[Cx.back,a1,b1,aA,ak]at he
  ·exact h.inj n m ob oc a2 b2 he
  ·exact aJ (he▸h1.wr m oc b2) (hnw n ob a1 a2)
  ·exact aJ (he▸h1.wr n ob a2) (hnw m oc b1 b2)
  ·exact h1.inj n m ob oc a2 b2 he
 ·intro n ob hn;rcases key n ob hn with⟨hm,hn⟩|⟨hm,hn⟩
  ·simp only[Cx.back,ah hm];exact hw2 n ob hm hn
  ·simp only[Cx.back,af hm];exact hw1 _ (h1.wr n ob hn)
 ·intro n ob hn hk;rcases key n ob hn with⟨hm,hn⟩|⟨hm,hn⟩
  ·simp only[Cx.back,ah hm]at hk;obtain⟨cs,el,g1,g2,g3,g4,g5⟩:=h.obj n ob hn hk;simp only[Cx.back,ah hm];exact⟨cs,el,(hpin n ob hm hn).trans g1,g2,g3,g4,fun k x v hx hv=>(g5 k x v hx hv).mono hlb⟩
  ·simp only[Cx.back,af hm]at hk;obtain⟨cs,el,g1,g2,g3,g4,g5⟩:=h1.obj n ob hn hk;simp only[Cx.back,af hm];exact⟨cs,el,g1,g2,g3,g4,fun k x v hx hv=>(g5 k x v hx hv).off (hcells n ob hn x (jb hx))⟩
 ·intro n ob hn hk t ht;rcases key n ob hn with⟨hm,hn⟩|⟨hm,hn⟩
  ·simp only[Cx.back,ah hm]at hk;obtain⟨cs,g1⟩:=h.typ n ob hn hk t ht;simp only[Cx.back,ah hm];exact⟨cs,(hpin n ob hm hn).trans g1⟩
  ·simp only[Cx.back,af hm]at hk;obtain⟨cs,g1⟩:=h1.typ n ob hn hk t ht;simp only[Cx.back,af hm];exact⟨cs,g1⟩
 ·intro n ob hn hk;rcases key n ob hn with⟨hm,hn⟩|⟨hm,hn⟩
  ·simp only[Cx.back,ah hm]at hk;obtain⟨es,clk,g1,g2⟩:=h.mp n ob hn hk;simp only[Cx.back,ah hm];exact⟨es,clk,(hpin n ob hm hn).trans g1,g2.mono hlb.rd⟩
  ·simp only[Cx.back,af hm]at hk;obtain⟨es,clk,g1,g2⟩:=h1.mp n ob hn hk;simp only[Cx.back,af hm];exact⟨es,clk,g1,g2⟩
def mK {P:Program} [ct P] (E:Env P) (s:AS) (a:Act) (w:World):Prop:=SR E (fun n=>n<s.nx) (aO s.t) (hget s.h) a w/\ ∀n,E.C0.al n\/E.Ce.al n->n<s.nx
theorem FD {t:List (Nat×AV)}:aO t k= .u\/(k,aO t k)∈t:=by
 induction t with
 |nil=>exact .inl rfl
 |cons p t ih=>
  obtain⟨j,v⟩:=p;simp only[aO]
  by_cases e:k=j
  ·subst e;rw[ah rfl];exact .inr (by simp)
  ·rw[af e];rcases ih with h|h
   ·exact .inl h
   ·exact .inr (by simp[h])
theorem sF {h:List (Nat×aC)} {o:aC} (hk:hget h k=some o):(k,o)∈h:=by
 induction h with
 |nil=>simp[hget]at hk
 |cons p h ih=>
  obtain⟨j,v⟩:=p;simp only[hget]at hk
  by_cases e:k=j
  ·subst e;rw[ah rfl]at hk;injection hk with hk;subst hk;simp
  ·rw[af e]at hk;simp[ih hk]
theorem mK.weaken {E:Env P} {s s':AS} {a:Act} {w:World} (hle:s.Le s') (hN: ∀n,E.C0.al n\/E.Ce.al n->n<s.nx) (h:mK E s' a w):mK E s a w:=by
 refine⟨?_,hN⟩;obtain⟨⟨C0,hal0,hh0,hrd0,⟨hwf,hC00,hst00⟩,hdf,hsz,htm0⟩,-⟩:=h;obtain⟨ns,hns,hlt,hlh⟩:=hle.f;have: ∀b,Decidable (∃n ob,eL (hget s'.h) ns n=some ob/\(C0.only ns).mu n=b):=fun b=>Classical.propDecidable _
 have ho:=hh0.only ns;obtain⟨gle,hh⟩:=hh0.gave (qC w.heap.size w) ns 0;have hrest: ∀n ob,fY (hget s'.h) (ns.map fun n=>(n,none)) n=some ob->hget s'.h n=some ob:=by
  intro n ob hn;rw[jy]at hn
  split at hn
  ·cases hn
  ·exact hn
 have hrdw: ∀b o v,cj (C0.only ns) (eL (hget s'.h) ns) w b o=some v->w.cell? ⟨b,o,none⟩=some v:=by
  intro b o v hv;unfold cj at hv
  split at hv
  ·exact hv
  ·exact hh0.rdw _ _ _ hv
 have hsub: ∀n ob',hget s.h n=some ob'-> ∃ob,hget s'.h n=some ob/\fY (hget s'.h) (ns.map fun n=>(n,none)) n=some ob/\Jq (hget s'.h) ns ob ob':=fun n ob' hn=>by
  obtain⟨ob,h1,h2⟩:=hlh _ (sF hn);refine⟨ob,h1,?_,h2⟩;rw[jy,af (fun hm=>by have:=(hns n hm).2;rw[hn]at this;cases this)]
  exact h1
 have hrd: ∀b,b<E.w0.heap.size\/b∈E.ln->(C0.gave (cj (C0.only ns) (eL (hget s'.h) ns) w) w w ns 0).rd b=E.rd0 b:=by
  intro b hlt;rw[<-hrd0 b hlt]
  funext q
  have h1:b<w.heap.size:=ba (E.EU hlt) hwf.fr;simp only[Cx.gave,fW,h1,aA,cj];split
  ·rename_i hex;obtain⟨m,oc,hmm,hmu⟩:=hex
   exfalso
   simp only[eL]at hmm
   split at hmm
   ·rename_i hmem;have hmu:C0.mu m=b:=hmu;rcases hlt with hlt|hlt
    case inr=>exact(E.lnf b hlt).2 (hmu▸hh0.wr m oc hmm)
    rcases hst00 m oc hmm with⟨h2,-⟩|h2
    ·have:=E.lo m h2;have:=(hns m hmem).1;omega
    ·have hmu:C0.mu m=b:=hmu;omega
   ·cases hmm
  ·rfl
 have hC0:=hC00.trans gle;have hst0: ∀n ob,fY (hget s'.h) (ns.map fun n=>(n,none)) n=some ob->(E.C0.al n/\C0.mu n=E.C0.mu n)\/E.w0.heap.size<=C0.mu n:=fun n ob hn=>hst00 n ob (hrest n ob hn)
 have hmu: ∀n,(C0.gave (cj (C0.only ns) (eL (hget s'.h) ns) w) w w ns 0).mu n=C0.mu n:=fun _=>rfl
 have hfrz: ∀(x:AV) (z:PV) (v:Value),AR C0 x v->view (hget s'.h) 9 x=some z->(∀n∈aX (hget s'.h) 9 x,n∈ns)->AR (C0.gave (cj (C0.only ns) (eL (hget s'.h) ns) w) w w ns 0) (.v z) v:=by
  intro x z v hx hv hvn;refine .v ((qo ho 9 _ z _ (hx.mono (C0.wE ns)) ?_).mono fun b o v hv=> ?_)
  ·rw[(tj (hf:=hget s'.h) (hf':=eL (hget s'.h) ns) 9 _ fun n hn=>by simp only[eL,hvn n hn,aA]).1]
   exact hv
  ·simp only[Cx.gave,fW,jh (hrdw _ _ _ hv),aA];exact hv
 have htm: ∀p∈s.t,AR (C0.gave (cj (C0.only ns) (eL (hget s'.h) ns) w) w w ns 0) p.2 (a.tmps.getD p.1 undef):=by
  intro p hp;rcases hlt p hp with e|⟨y,e,hv,hvn⟩
  ·rw[<-e];exact(htm0 p.1).mono gle
  ·rw[e];exact hfrz _ _ _ (htm0 p.1) hv hvn
 have hob: ∀n ob',hget s.h n=some ob'->(C0.gave (cj (C0.only ns) (eL (hget s'.h) ns) w) w w ns 0).mpn n=false-> ∃cs el,w.heap[(C0.gave (cj (C0.only ns) (eL (hget s'.h) ns) w) w w ns 0).mu n]?=some (.cells cs el (0,0))/\cs.size=(C0.gave (cj (C0.only ns) (eL (hget s'.h) ns) w) w w ns 0).sz n/\ob'.cells.length<=cs.size/\(ob'.gr=false->ob'.cells.length=cs.size)/\ ∀(k:Nat) (x:AV) (v:Value),ob'.cells[k]?=some x->cs[k]?=some v->AR (C0.gave (cj (C0.only ns) (eL (hget s'.h) ns) w) w w ns 0) x v:=by
  intro n ob' hn hk;obtain⟨ob,h1,h2,h3⟩:=hsub n ob' hn;obtain⟨cs,el,g1,g2,g3,g4,g5⟩:=hh0.obj n ob h1 hk;refine⟨cs,el,g1,g2,by rw[h3.len];exact g3,fun e=>by rw[h3.len];exact g4 (h3.gr▸e),fun k y v hy hv=> ?_⟩
  have hlk:k<ob.cells.length:=by rw[<-h3.len];exact(cv.1 hy).1
  have hx:=bG hlk;rcases h3.c k _ y hx hy with e|⟨z,e,hvw,hvn⟩
  ·rw[e];exact(g5 k _ v hx hv).mono gle
  ·rw[e];exact hfrz _ _ _ (g5 k _ v hx hv) hvw hvn
 generalize C0.gave (cj (C0.only ns) (eL (hget s'.h) ns) w) w w ns 0=C at*;generalize hhf:fY (hget s'.h) (ns.map fun n=>(n,none))=hf at*
 let cur:Nat->Option Nat:=fun n=>(hget s.h n).map (·.ver)
 have hcur: ∀n c,cur n=some c->C.cur n=some c:=by
  intro n c hc;simp only[cur,dM]at hc;obtain⟨ob',hn,rfl⟩:=hc;obtain⟨ob,-,h2,h3⟩:=hsub n ob' hn;rw[h3.ver];exact(hh.live n ob h2).2
 refine⟨{C with al:=fun n=>n<s.nx,cur:=cur},fun _=>iN,?_,hrd,⟨hwf,⟨⟨hC0.c0.rd,fun n hn=>hN n (.inl hn),fun n hn d hd=>hC0.c0.cur n hn d (hcur n d hd),hC0.c0.mpn⟩,⟨hC0.ce.rd,fun n hn=>hN n (.inr hn),fun n hn d hd=>hC0.ce.cur n hn d (hcur n d hd),hC0.ce.mpn⟩⟩,fun n ob' hn=>by
  obtain⟨ob,-,h2,-⟩:=hsub n ob' hn;have:=hst0 n ob h2;rw[<-hmu]at this;exact this⟩,hdf,hsz,fun k=> ?_⟩
 ·refine⟨hh.rdw,?_,?_,?_,?_,?_,?_,?_,?_⟩
  ·intro n ob hn;exact⟨(hle.bh _ (sF hn)).1,by simp[cur,hn]⟩
  ·intro n hn;simp[cur,hn]
  ·intro n ob' hn;obtain⟨ob,-,h2,-⟩:=hsub n ob' hn;exact hh.sep n ob h2
  ·intro n m ob' oc' hn hm;obtain⟨ob,-,h2,-⟩:=hsub n ob' hn;obtain⟨oc,-,k2,-⟩:=hsub m oc' hm;exact hh.inj n m ob oc h2 k2
  ·intro n ob' hn;obtain⟨ob,-,h2,-⟩:=hsub n ob' hn;exact hh.wr n ob h2
  ·intro n ob hn hk;obtain⟨cs,el,h1,h2,h3,h4,h5⟩:=hob n ob hn hk;refine⟨cs,el,h1,h2,h3,h4,fun k x v hx hv=>(h5 k x v hx hv).restrict cur hcur ?_⟩
   exact(hle.bh _ (sF hn)).2 x (jb hx)
  ·intro n ob' hn hk t ht;obtain⟨ob,-,h2,h3⟩:=hsub n ob' hn;exact hh.typ n ob h2 hk t (h3.el▸ht)
  ·intro n ob' hn hk;obtain⟨ob,-,h2,h3⟩:=hsub n ob' hn;obtain⟨es,clk,g1,g2⟩:=hh.mp n ob h2 hk;refine⟨es,clk,g1,?_⟩;have hall: ∀{l:List AV} {r:List MapEntry},MR C.rd l r-> ∀x∈l,∃u,x= .v u:=by
    intro l r h
    induction h with
    |nil=>intro x hx;cases hx
    |cons k v l e es _ _ _ ih=>
     intro x hx;rcases bV.1 hx with rfl|hx
     ·exact⟨k,rfl⟩
     rcases bV.1 hx with rfl|hx
     ·exact⟨v,rfl⟩
     exact ih x hx
   have:ob'.cells=ob.cells:=by
    refine DD fun j=> ?_
    by_cases hj:j<ob.cells.length
    ·have hj':j<ob'.cells.length:=by rw[h3.len];exact hj
     rw[bG hj,bG hj'];congr 1;rcases h3.c j _ _ (bG hj) (bG hj')with e|⟨z,e,hv,-⟩
     ·exact e
     ·obtain⟨u,hu⟩:=hall g2 _ (jQ hj);rw[hu]at hv⊢;rw[e];have:view (hget s'.h) 9 (.v u)=some u:=rfl;rw[this]at hv;injection hv with hv
      rw[hv]
    ·rw[tX (by rw[h3.len];omega),tX (by omega)]
   rw[this];exact g2
 ·rcases FD (t:=s.t) (k:=k)with hu|hm
  ·rw[hu];exact .u _
  ·exact(htm _ hm).restrict cur hcur (hle.bt _ hm)
end
