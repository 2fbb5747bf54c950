/- Part of the proof. -/
import Derived.Test.YtipbhapfacgabaaGreatDoorUH12
set_option linter.all false
namespace Go.Dom
open Go.RowKit
variable {f:Nat->Option Nat}
theorem qO.mk' {P:Program} [ct P] {f:FuncId} {fn:Func} {sc:SC} {rs:List pM} (hm:P.follows .mixedOrders=true) (hent:Enters P f f) (hfn:P.funcs[f]?=some fn) (hb:fn.body.isSome=true) (hc:comp P fn.ntmps (fn.body.getD .skip)=some sc) (hr:gT P fn.results.toList=some rs)
  {args:List PV} {r:PV} (hlen:args.length<=fn.ntmps) (h:aw P sc (Jr rs r) ⟨args.mapIdx (fun i x=>(i, .v x)),[],1000⟩):qO P f args r:=by
 obtain⟨code,hcode⟩:=tU.1 hb;rw[hcode]at hc;exact qO.NH hm hent hfn hcode hc hr hlen h
def AV.ren (f:Nat->Option Nat):AV->Option AV
 | .v x=>some (.v x)
 | .p n ver o=>match f n with
  |some m=>some (.p m ver o)
  |none=>none
 | .pp x o=>some (.pp x o)
 | .rs n ver o len z=>match f n with
  |some m=>some (.rs m ver o len z)
  |none=>none
 | .fs l=>some (.fs l)
 | .sn=>some .sn
 | .agg l=>match renL f l with
  |some l=>some (.agg l)
  |none=>none
 | .tup l=>match renL f l with
  |some l=>some (.tup l)
  |none=>none
 | .fn g a c=>match renL f a,renL f c with
  |some a,some c=>some (.fn g a c)
  | _,_=>none
 | .ub=>some .ub
 | .mp _=>none
 | .u=>some .u
where renL (f:Nat->Option Nat):List AV->Option (List AV)
 |[]=>some []
 |x::r=>match x.ren f,renL f r with
  |some y,some s=>some (y::s)
  | _,_=>none
theorem n8: ∀{l l':List AV},AV.ren.renL f l=some l'->l.length=l'.length/\ ∀(k:Nat) (x y:AV),l[k]?=some x->l'[k]?=some y->x.ren f=some y:=by
 intro l
 induction l with
 |nil=>intro l' h;simp only[AV.ren.renL,ai]at h;subst h;simp
 |cons x r ih=>
  intro l' h;simp only[AV.ren.renL]at h
  split at h
  ·rename_i y s hy hs;simp only[ai]at h;subst h;obtain⟨h1,h2⟩:=ih hs;refine⟨by simp[h1],fun k a b ha hb=> ?_⟩
   cases k with
   |zero=>simp at ha hb;subst ha;subst hb;exact hy
   |succ k=>exact h2 k a b (by simpa using ha) (by simpa using hb)
  ·cases h
theorem AR.ren {C D:Cx} (hal: ∀n m,f n=some m->C.al n->D.al m) (hcur: ∀n m,f n=some m-> ∀d,D.cur m=some d->C.cur n=some d/\D.mu m=C.mu n/\D.sz m=C.sz n)
  (hmp: ∀n m,f n=some m->C.al n->D.mpn m=C.mpn n) (hrd: ∀b o v,C.rd b o=some v->D.rd b o=some v) {x:AV} {v:Value} (h:AR C x v): ∀y,x.ren f=some y->AR D y v:=by
 have lst: ∀(l l':List AV) (vs:List Value),l.length=vs.length->(∀(k:Nat) (x:AV) (v:Value),l[k]?=some x->vs[k]?=some v-> ∀y,x.ren f=some y->AR D y v)->AV.ren.renL f l=some l'->
   l'.length=vs.length/\ ∀(k:Nat) (x:AV) (v:Value),l'[k]?=some x->vs[k]?=some v->AR D x v:=by
  intro l l' vs hl ih hr;obtain⟨h1,h2⟩:=n8 hr;refine⟨by omega,fun k y v hy hv=> ?_⟩
  have hk:k<l.length:=by have:=(cv.1 hy).1;omega
  exact ih k l[k] v (by simp[hk]) hv y (h2 k _ y (by simp[hk]) hy)
 induction h with
 |v h=>intro y hy;simp only[AV.ren,ai]at hy;subst hy;exact .v (h.mono hrd)
 |p n ver o b ha hk h=>
  intro y hy;simp only[AV.ren]at hy
  split at hy
  ·rename_i m hm;simp only[ai]at hy;subst hy;refine .p m ver o b (hal n m hm ha) ((hmp n m hm ha).trans hk) fun d hd=> ?_
   obtain⟨h1,h2,-⟩:=hcur n m hm d hd;rw[h2];exact h d h1
  ·cases hy
 |pp x o vs bk of h1 hl hr h=>intro y hy;simp only[AV.ren,ai]at hy;subst hy;exact .pp x o vs bk of h1 hl (fun k v hv=>hrd _ _ _ (hr k v hv)) (fun k y v hy hv=>(h k y v hy hv).mono hrd)
 |rs n ver o len z b o' cap ha hk hc ho h=>
  intro y hy;simp only[AV.ren]at hy
  split at hy
  ·rename_i m hm;simp only[ai]at hy;subst hy;refine .rs m ver o len z b o' cap (hal n m hm ha) ((hmp n m hm ha).trans hk) hc ho fun d hd=> ?_
   obtain⟨h1,h2,h3⟩:=hcur n m hm d hd;rw[h2,h3];exact h d h1
  ·cases hy
 |fs l a h=>intro y hy;simp only[AV.ren,ai]at hy;subst hy;exact .fs l a (h.mono hrd)
 |sn=>intro y hy;simp only[AV.ren,ai]at hy;subst hy;exact .sn
 |agg l vs hl _ ih=>
  intro y hy;simp only[AV.ren]at hy
  split at hy
  ·rename_i l' hl';simp only[ai]at hy;subst hy;obtain⟨h1,h2⟩:=lst l l' vs hl ih hl';exact .agg l' vs h1 h2
  ·cases hy
 |tup l vs hl _ ih=>
  intro y hy;simp only[AV.ren]at hy
  split at hy
  ·rename_i l' hl';simp only[ai]at hy;subst hy;obtain⟨h1,h2⟩:=lst l l' vs hl ih hl';exact .tup l' vs h1 h2
  ·cases hy
 |fn g a c va vc hla hlc _ _ iha ihc=>
  intro y hy;simp only[AV.ren]at hy
  split at hy
  ·rename_i a' c' ha' hc';simp only[ai]at hy;subst hy;obtain⟨h1,h2⟩:=lst a a' va hla iha ha';obtain⟨h3,h4⟩:=lst c c' vc hlc ihc hc';exact .fn g a' c' va vc h1 h3 h2 h4
  ·cases hy
 |ub x=>intro y hy;simp only[AV.ren,ai]at hy;subst hy;exact .ub x
 |mp n b ha hk h=>intro y hy;simp[AV.ren]at hy
 |u w=>intro y hy;simp only[AV.ren,ai]at hy;subst hy;exact .u w
theorem Bt: ∀{l l':List AV},(∀x∈l,∃y,x= .v y)->AV.ren.renL f l=some l'->l'=l:=by
 intro l
 induction l with
 |nil=>intro l' _ h;simp only[AV.ren.renL,ai]at h;exact h.symm
 |cons x r ih=>
  intro l' hp h;obtain⟨y,rfl⟩:=hp x (by simp)
  simp only[AV.ren.renL,AV.ren]at h
  split at h
  ·rename_i y' s hy hs;simp only[ai]at hy h;subst hy;subst h;rw[ih (fun x hx=>hp x (by simp[hx])) hs]
  ·cases h
theorem MR.pure {rd:Rd} {l:List AV} {es:List MapEntry} (h:MR rd l es): ∀x∈l,∃y,x=AV.v y:=by
 induction h with
 |nil=>intro x hx;simp at hx
 |cons k v l e es _ _ _ ih=>
  intro x hx;simp only[bV]at hx;rcases hx with rfl|rfl|hx
  ·exact⟨_,rfl⟩
  ·exact⟨_,rfl⟩
  ·exact ih x hx
def aC.ren (f:Nat->Option Nat) (o:aC):Option aC:=
 match AV.ren.renL f o.cells with
 |some cs=>some {o with cells:=cs}
 |none=>none
def cT:List Nat->Nat->Option Nat
 |[],_=>none
 |m::r,n=>if n=m then some 0 else match cT r n with
  |some i=>some (i+1)
  |none=>none
theorem dn: ∀{ns:List Nat} {n i:Nat},cT ns n=some i->ns[i]?=some n:=by
 intro ns
 induction ns with
 |nil=>intro n i h;simp[cT]at h
 |cons m r ih=>
  intro n i h;simp only[cT]at h
  by_cases e:n=m
  ·rw[ah e]at h;injection h with h;subst h;simp[e]
  ·rw[af e]at h
   split at h
   ·rename_i j hj;injection h with h;subst h;simpa using ih hj
   ·cases h
theorem pT: ∀{ns:List Nat} {n i:Nat},ns.Nodup->ns[i]?=some n->cT ns n=some i:=by
 intro ns
 induction ns with
 |nil=>intro n i _ h;simp at h
 |cons m r ih=>
  intro n i hnd h;obtain⟨h1,h2⟩:=tP.1 hnd
  cases i with
  |zero=>simp at h;subst h;simp[cT]
  |succ i=>
   simp at h;have hne:n≠m:=fun e=>h1 (e▸jb h)
   simp[cT,hne,ih h2 h]
theorem Kd {ns:List Nat} {n:Nat} (h:n∉ns):cT ns n=none:=by
 cases hx:cT ns n with
 |none=>rfl
 |some i=>exact aJ (jb (dn hx)) h
theorem yu {ns:List Nat} {n:Nat} (hnd:ns.Nodup) (h:cT ns n=none):n∉ns:=by
 intro hm;obtain⟨i,hi,e⟩:=iv hm;have:=pT (i:=i) (n:=n) hnd (by rw[bG hi,e])
 rw[h]at this;cases this
theorem pS (l:List aC) (n:Nat):hget (l.mapIdx fun i x=>(i,x)) n=l[n]?:=by
 have key: ∀(l:List aC) (m k:Nat),hget (l.mapIdx (fun i x=>(i+m,x))) (k+m)=l[k]?:=by
  intro l
  induction l with
  |nil=>intro m k;rfl
  |cons x l ih=>
   intro m k;rw[nr];simp only[hget]
   cases k with
   |zero=>simp
   |succ k=>
    rw[af (by omega)]
    have:=ih (m+1) k;rw[show k+1+m=k+(m+1) by omega]
    have e:(l.mapIdx fun i x=>(i+1+m,x))=l.mapIdx fun i x=>(i+(m+1),x):=by
     congr 1;funext i x;congr 1;omega
    rw[e,this];simp
 simpa using key l 0 n
theorem FC (l:List AV) (n:Nat):aO (l.mapIdx fun i x=>(i,x)) n=l.getD n .u:=by
 have key: ∀(l:List AV) (m k:Nat),aO (l.mapIdx (fun i x=>(i+m,x))) (k+m)=l.getD k .u:=by
  intro l
  induction l with
  |nil=>intro m k;rfl
  |cons x l ih=>
   intro m k;rw[nr];simp only[aO]
   cases k with
   |zero=>simp
   |succ k=>
    rw[af (by omega)]
    have:=ih (m+1) k;rw[show k+1+m=k+(m+1) by omega]
    have e:(l.mapIdx fun i x=>(i+1+m,x))=l.mapIdx fun i x=>(i+(m+1),x):=by
     congr 1;funext i x;congr 1;omega
    rw[e,this];simp
 simpa using key l 0 n
def pz (k:Nat) (j:Option Nat) (s:AS) (n:Nat):Option aC:=if n<k\/j=some n then none else hget s.h n
def pI (k:Nat) (j:Option Nat) (n:Nat):Option Nat:=if n<k then some n else if j=some n then some k else none
def eN (hf:Nat->Option aC) (x:AV):Option PV:=
 match x with
 | .sn=>none
 |x=>view hf 9 x
theorem Hq {hf:Nat->Option aC} {x:AV} {y:PV} (h:eN hf x=some y):view hf 9 x=some y:=by
 unfold eN at h
 split at h
 ·cases h
 ·exact h
def fN (k:Nat) (j:Option Nat) (s:AS) (x:AV):Option AV:=
 match eN (pz k j s) x with
 |some y=>some (.v y)
 |none=>x.ren (pI k j)
def iA (k:Nat) (j:Option Nat) (s:AS) (x:AV):Option AV:=
 match view (pz k j s) 9 x with
 |some y=>some (.v y)
 |none=>match x with
  | .agg l=>match aU (fN k j s) l with
   |some l=>some (.agg l)
   |none=>none
  | .fn g a c=>match aU (fN k j s) a,aU (fN k j s) c with
   |some a,some c=>some (.fn g a c)
   | _,_=>none
  |x=>x.ren (pI k j)
def gn (k:Nat) (j:Option Nat) (s:AS) (o:aC):Option aC:=
 match aU (fN k j s) o.cells with
 |some cs=>some {o with cells:=cs}
 |none=>none
def e7 (s:AS):List pM->Option (List AV×Prop)
 |[]=>some ([],True)
 |r::rs=>match G9 s r,e7 s rs with
  |some (v,p),some (l,q)=>some (v::l,p/\q)
  | _,_=>none
def dr:List AV->AV
 |[y]=>y
 |l=> .tup l
def gU (k:Nat) (j:Option Nat) (s:AS):Nat->List aC->List (Option (Option aC))->Prop
 | _,[],[]=>True
 |i,o::os,none::fs=>(match hget s.h i with
  |some p=>gn k j s p=some o
  |none=>False)/\gU k j s (i+1) os fs
 |i,_::os,some none::fs=>hget s.h i=none/\gU k j s (i+1) os fs
 |i,_::os,some (some o')::fs=>(match hget s.h i with
  |some p=>gn k j s p=some o'
  |none=>False)/\gU k j s (i+1) os fs
 | _,_,_=>False
def iF (k:Nat) (j:Option Nat) (s:AS) (nw:Option aC):Prop:=
 match j,nw with
 |none,none=>True
 |some n,some o'=>k<=n/\match hget s.h n with
  |some p=>gn k j s p=some o'
  |none=>False
 | _,_=>False
def iU (rs:List pM) (obs:List aC) (fs:List (Option (Option aC))) (j:Option Nat) (nw:Option aC) (v:AV) (x:AX) (s:AS):Prop:=
 (match x with
  | .exit _=>False
  | _=>True)/\(match e7 s rs with
  |some (l,p)=>p/\(match aU (iA obs.length j s) l with
   |some l=>dr l=v
   |none=>False)
  |none=>False)/\gU obs.length j s 0 obs fs/\iF obs.length j s nw
def gO (ns:List Nat) (nm:Nat) (i:Nat):Option Nat:=
 match ns[i]? with
 |some n=>some n
 |none=>if i=ns.length then some nm else none
def outs (g:Nat->Option Nat):List Nat->List (Option (Option aC))->Option (List (Nat×Option aC))
 |[],[]=>some []
 | _::ns,none::fs=>outs g ns fs
 |n::ns,some none::fs=>match outs g ns fs with
  |some l=>some ((n,none)::l)
  |none=>none
 |n::ns,some (some o)::fs=>match o.ren g,outs g ns fs with
  |some o',some l=>some ((n,some o')::l)
  | _,_=>none
 | _,_=>none
def fT (ns:List Nat) (nm:Nat) (fs:List (Option (Option aC))) (nw:Option aC):Option (List (Nat×Option aC)):=
 match outs (gO ns nm) ns fs,nw with
 |some l,none=>some l
 |some l,some o=>match o.ren (gO ns nm)with
  |some o'=>some ((nm,some o')::l)
  |none=>none
 |none,_=>none
mutual
theorem CI {g:Nat->Option Nat} (h: ∀n m,f n=some m->g m=some n): ∀(x y:AV),x.ren f=some y->y.ren g=some x
 | .v _,y,e=>by simp only[AV.ren,ai]at e;subst e;rfl
 | .p n ver o,y,e=>by
  simp only[AV.ren]at e
  split at e
  ·rename_i m hm;simp only[ai]at e;subst e;simp only[AV.ren,h n m hm]
  ·cases e
 | .pp _ _,y,e=>by simp only[AV.ren,ai]at e;subst e;rfl
 | .rs n ver o len z,y,e=>by
  simp only[AV.ren]at e
  split at e
  ·rename_i m hm;simp only[ai]at e;subst e;simp only[AV.ren,h n m hm]
  ·cases e
 | .fs _,y,e=>by simp only[AV.ren,ai]at e;subst e;rfl
 | .sn,y,e=>by simp only[AV.ren,ai]at e;subst e;rfl
 | .agg l,y,e=>by
  simp only[AV.ren]at e
  split at e
  ·rename_i l' hl;simp only[ai]at e;subst e;simp only[AV.ren,nZ h l l' hl]
  ·cases e
 | .tup l,y,e=>by
  simp only[AV.ren]at e
  split at e
  ·rename_i l' hl;simp only[ai]at e;subst e;simp only[AV.ren,nZ h l l' hl]
  ·cases e
 | .fn _ a c,y,e=>by
  simp only[AV.ren]at e
  split at e
  ·rename_i a' c' ha hc;simp only[ai]at e;subst e;simp only[AV.ren,nZ h a a' ha,nZ h c c' hc]
  ·cases e
 | .ub,y,e=>by simp only[AV.ren,ai]at e;subst e;rfl
 | .mp _,y,e=>by simp[AV.ren]at e
 | .u,y,e=>by simp only[AV.ren,ai]at e;subst e;rfl
theorem nZ {g:Nat->Option Nat} (h: ∀n m,f n=some m->g m=some n): ∀(l l':List AV),AV.ren.renL f l=some l'->AV.ren.renL g l'=some l
 |[],l',e=>by simp only[AV.ren.renL,ai]at e;subst e;rfl
 |x::r,l',e=>by
  simp only[AV.ren.renL]at e
  split at e
  ·rename_i y s hy hs;simp only[ai]at e;subst e;simp only[AV.ren.renL,CI h x y hy,nZ h r s hs]
  ·cases e
end
variable {o o':aC}
theorem aC.oe (h:o.ren f=some o'):o'.ver=o.ver/\o'.gr=o.gr/\o'.el=o.el/\AV.ren.renL f o.cells=some o'.cells:=by
 unfold aC.ren at h
 split at h
 ·rename_i cs hcs;simp only[ai]at h;subst h;exact⟨rfl,rfl,rfl,hcs⟩
 ·cases h
theorem aC.CI {g:Nat->Option Nat} (hfg: ∀n m,f n=some m->g m=some n) (h:o.ren f=some o'):o'.ren g=some o:=by
 obtain⟨h1,h2,h3,h4⟩:=aC.oe h;unfold aC.ren;rw[nZ hfg _ _ h4]
 cases o;cases o';simp_all
theorem Ky {k:Nat} {j:Option Nat} {s:AS} (h:gn k j s o=some o'):o'.ver=o.ver/\o'.gr=o.gr/\o'.el=o.el/\aU (fN k j s) o.cells=some o'.cells:=by
 unfold gn at h
 split at h
 ·rename_i cs hcs;simp only[ai]at h;subst h;exact⟨rfl,rfl,rfl,hcs⟩
 ·cases h
theorem Kz {g:Nat->Option Nat}: ∀{ns:List Nat} {fs:List (Option (Option aC))} {l:List (Nat×Option aC)},ns.Nodup->outs g ns fs=some l->ns.length=fs.length/\(∀n,n∉ns->fL l n=none)/\
  ∀(i n:Nat) (f:Option (Option aC)),ns[i]?=some n->fs[i]?=some f->match f with
   |none=>fL l n=none
   |some none=>fL l n=some none
   |some (some o)=> ∃o',o.ren g=some o'/\fL l n=some (some o'):=by
 intro ns
 induction ns with
 |nil=>
  intro fs l _ h
  cases fs with
  |nil=>simp only[outs,ai]at h;subst h;simp[fL]
  |cons=>simp[outs]at h
 |cons m ns ih=>
  intro fs l hnd h;obtain⟨hm,hnd'⟩:=tP.1 hnd;have mem: ∀(i n:Nat),ns[i]?=some n->n≠m:=fun i n hi e=>hm (e▸jb hi)
  cases fs with
  |nil=>simp[outs]at h
  |cons f fs=>
   cases f with
   |none=>
    simp only[outs]at h;obtain⟨h1,h2,h3⟩:=ih hnd' h;refine⟨by simp[h1],fun n hn=>h2 n fun hm=>hn (by simp[hm]),fun i n f hn hf=> ?_⟩
    cases i with
    |zero=>simp at hn hf;subst hn;subst hf;exact h2 _ hm
    |succ i=>exact h3 i n f (by simpa using hn) (by simpa using hf)
   |some f=>
    cases f with
    |none=>
     simp only[outs]at h
     split at h
     ·rename_i l' hl';simp only[ai]at h;subst h;obtain⟨h1,h2,h3⟩:=ih hnd' hl';refine⟨by simp[h1],fun n hn=> ?_,fun i n f hn hf=> ?_⟩
      ·have hne:n≠m:=fun e=>hn (by simp[e])
       simp only[fL,h2 n fun h=>hn (by simp[h]),hne,ak]
      ·cases i with
       |zero=>simp at hn hf;subst hn;subst hf;simp[fL,h2 _ hm]
       |succ i=>
        have hn':ns[i]?=some n:=by simpa using hn
        have hne:=mem i n hn';have:=h3 i n f hn' (by simpa using hf)
        match f,this with
        |none,this=>simp only at this⊢;simp only[fL,this,hne,ak]
        |some none,this=>simp only at this⊢;simp only[fL,this]
        |some (some o),this=>simp only at this⊢;obtain⟨o',e1,e2⟩:=this;exact⟨o',e1,by simp only[fL,e2]⟩
     ·cases h
    |some o=>
     simp only[outs]at h
     split at h
     ·rename_i o' l' ho' hl';simp only[ai]at h;subst h;obtain⟨h1,h2,h3⟩:=ih hnd' hl';refine⟨by simp[h1],fun n hn=> ?_,fun i n f hn hf=> ?_⟩
      ·have hne:n≠m:=fun e=>hn (by simp[e])
       simp only[fL,h2 n fun h=>hn (by simp[h]),hne,ak]
      ·cases i with
       |zero=>simp at hn hf;subst hn;subst hf;exact⟨o',ho',by simp[fL,h2 _ hm]⟩
       |succ i=>
        have hn':ns[i]?=some n:=by simpa using hn
        have hne:=mem i n hn';have:=h3 i n f hn' (by simpa using hf)
        match f,this with
        |none,this=>simp only at this⊢;simp only[fL,this,hne,ak]
        |some none,this=>simp only at this⊢;simp only[fL,this]
        |some (some o),this=>simp only at this⊢;obtain⟨o',e1,e2⟩:=this;exact⟨o',e1,by simp only[fL,e2]⟩
     ·cases h
theorem MM {k:Nat} {j:Option Nat} {s:AS}: ∀{obs:List aC} {fs:List (Option (Option aC))} {m:Nat},gU k j s m obs fs->obs.length=fs.length/\ ∀(i:Nat) (o:aC) (f:Option (Option aC)),obs[i]?=some o->fs[i]?=some f->match f with
   |none=> ∃p,hget s.h (m+i)=some p/\gn k j s p=some o
   |some none=>hget s.h (m+i)=none
   |some (some o')=> ∃p,hget s.h (m+i)=some p/\gn k j s p=some o':=by
 intro obs
 induction obs with
 |nil=>
  intro fs m h
  cases fs with
  |nil=>simp
  |cons f fs=>simp[gU]at h
 |cons o obs ih=>
  intro fs m h
  cases fs with
  |nil=>simp[gU]at h
  |cons f fs=>
   have fin: ∀(tl:gU k j s (m+1) obs fs) (hd:match f with
     |none=> ∃p,hget s.h m=some p/\gn k j s p=some o
     |some none=>hget s.h m=none
     |some (some o')=> ∃p,hget s.h m=some p/\gn k j s p=some o'),(o::obs).length=(f::fs).length/\ ∀(i:Nat) (o':aC) (f':Option (Option aC)),(o::obs)[i]?=some o'->(f::fs)[i]?=some f'->match f' with
      |none=> ∃p,hget s.h (m+i)=some p/\gn k j s p=some o'
      |some none=>hget s.h (m+i)=none
      |some (some o')=> ∃p,hget s.h (m+i)=some p/\gn k j s p=some o':=by
    intro tl hd;obtain⟨h1,h2⟩:=ih tl;refine⟨by simp[h1],fun i o' f' ho hf=> ?_⟩
    cases i with
    |zero=>simp at ho hf;subst ho;subst hf;exact hd
    |succ i=>
     have:=h2 i o' f' (by simpa using ho) (by simpa using hf)
     rw[show m+(i+1)=m+1+i by omega];exact this
   cases f with
   |none=>
    obtain⟨h1,h2⟩:=h;refine fin h2 ?_
    split at h1
    ·rename_i p hp;exact⟨p,hp,h1⟩
    ·exact h1.elim
   |some f=>
    cases f with
    |none=>exact fin h.2 h.1
    |some o'=>
     obtain⟨h1,h2⟩:=h;refine fin h2 ?_
     split at h1
     ·rename_i p hp;exact⟨p,hp,h1⟩
     ·exact h1.elim
section
variable {P:Program} [ct P]
theorem RJ {C:Cx} {s:AS} {wr:Nat->Prop} {a:Act} {w:World} (h:HR C (hget s.h) wr w) (htm: ∀k,AR C (aO s.t k) (a.tmps.getD k undef)): ∀(vs:List ResultVar) (rs:List pM),gT P vs=some rs-> ∀(l:List AV) (p:Prop),e7 s rs=some (l,p)->p->
  ∃us:List Value,(vs.mapM (fun
   | .tmp t=>pure (a.tmps.getD t undef)
   | .cell q ty=>do loadVar ty (<-asAddr (a.tmps.getD q undef)):ResultVar->Sem Value)).run P w= .ok us w/\bC (AR C) l us:=by
 intro vs
 induction vs with
 |nil=>
  intro rs hr l p hl hp;simp only[gT,aU,ai]at hr;subst hr;simp only[e7,ai,dJ]at hl;obtain⟨rfl,-⟩:=hl;exact⟨[],by simp, .nil⟩
 |cons v vs ih=>
  intro rs hr l p hl hp;simp only[gT,aU]at hr
  split at hr
  ·rename_i y ys hy hys;simp only[ai]at hr;subst hr;simp only[e7]at hl
   split at hl
   ·rename_i av q l' q' hav hl';simp only[ai,dJ]at hl;obtain⟨rfl,rfl⟩:=hl;obtain⟨us,hus,hrel⟩:=ih ys hys l' q' hl' hp.2;have hone: ∃val,(match v with
      | .tmp t=>pure (a.tmps.getD t undef)
      | .cell q ty=>do loadVar ty (<-asAddr (a.tmps.getD q undef)):Sem Value).run P w= .ok val w/\AR C av val:=by
     cases v with
     |tmp t=>
      simp only[ai]at hy;subst hy;simp only[G9,ai,dJ]at hav;obtain⟨rfl,-⟩:=hav;exact⟨_,rfl,htm t⟩
     |cell qq ty=>
      simp only at hy
      split at hy
      ·rename_i ag zz hag hzz
       split at hy
       ·rename_i hcond;simp only[ai]at hy;subst hy;simp only[G9]at hav;have hq:=htm qq
        split at hav
        ·rename_i m ver o hm;rw[hm]at hq
         split at hav
         ·rename_i ob hob;simp only[ai,dJ]at hav;obtain⟨rfl,rfl⟩:=hav;exact yC h hag hzz (by simpa using hcond) hq hob hp.1.1 hp.1.2
         ·cases hav
        ·cases hav
       ·cases hy
      ·cases hy
    obtain⟨val,hval,har⟩:=hone;refine⟨val::us,?_, .cons har hrel⟩;rw[xh];simp only[bT,hval,Result.andThen,hus,Sem.run_pure]
   ·cases hl
  ·cases hr
end
end Go.Dom
namespace Go.Dom
open Go.RowKit
def Cx.enter (C:Cx) (ns:List Nat):Cx:=
 {rd:=C.rd,al:=fun i=>i<ns.length,cur:=fun i=>(ns[i]?).bind C.cur,mu:=fun i=>C.mu (ns.getD i 0),sz:=fun i=>C.sz (ns.getD i 0),mpn:=fun i=>C.mpn (ns.getD i 0)}
open Classical in
noncomputable def Cx.leave (C D:Cx) (ns:List Nat) (nm:Nat) (j:Option Nat) (hf:Nat->Option aC) (w w':World):Cx:=
 {rd:=fun b o=>if b<w.heap.size then C.rd b o else if∃n ob,(n<ns.length\/j=some n)/\hf n=some ob/\D.mu n=b then none else w'.cell? ⟨b,o,none⟩,
  al:=fun n=>C.al n\/n=nm,
  cur:=fun n=>match cT ns n with
   |some i=>D.cur i
   |none=>if n=nm then j.bind D.cur else C.cur n,
  mu:=fun n=>match cT ns n with
   |some i=>D.mu i
   |none=>if n=nm then D.mu (j.getD 0)else C.mu n,
  sz:=fun n=>match cT ns n with
   |some i=>D.sz i
   |none=>if n=nm then D.sz (j.getD 0)else C.sz n,
  mpn:=fun n=>match cT ns n with
   |some i=>D.mpn i
   |none=>if n=nm then D.mpn (j.getD 0)else C.mpn n}
def Cx.mid (D:Cx) (k:Nat) (j:Option Nat) (rd:Rd):Cx:=
 {rd:=rd,al:=fun n=>n<=k,cur:=fun n=>if n<k then D.cur n else if n=k then j.bind D.cur else none,
  mu:=fun n=>if n<k then D.mu n else D.mu (j.getD 0),sz:=fun n=>if n<k then D.sz n else D.sz (j.getD 0),mpn:=fun n=>if n<k then D.mpn n else D.mpn (j.getD 0)}
section
variable {C D:Cx} {hf hs:Nat->Option aC} {wr:Nat->Prop} {w w':World} {ns:List Nat} {nm:Nat} {j:Option Nat} {s:AS}
def C2 (C:Cx) (ns:List Nat) (w:World) (b:Nat):Prop:=w.heap.size<=b\/ ∃n∈ns,b=C.mu n
theorem HR.enter (h:HR C hf wr w) (hnd:ns.Nodup) {obsA obs:List aC} (hln:ns.length=obsA.length) (hlive: ∀(i n:Nat) (o:aC),ns[i]?=some n->obsA[i]?=some o->hf n=some o) (hob:aU (aC.ren (cT ns)) obsA=some obs):
  HR (C.enter ns) (hget (obs.mapIdx fun i x=>(i,x))) (C2 C ns w) w:=by
 obtain⟨m1,m2⟩:=cC hob;have get: ∀(i:Nat) (o:aC),hget (obs.mapIdx fun i x=>(i,x)) i=some o-> ∃n oA,ns[i]?=some n/\obsA[i]?=some oA/\oA.ren (cT ns)=some o/\hf n=some oA:=by
  intro i o hi;rw[pS]at hi;have hl:=(cv.1 hi).1;have e1:ns[i]?=some (ns[i]'(by omega)):=bG _
  have e2:obsA[i]?=some (obsA[i]'(by omega)):=bG _
  exact⟨_,_,e1,e2,m2 i _ _ e2 hi,hlive i _ _ e1 e2⟩
 have gd: ∀{i n:Nat},ns[i]?=some n->ns.getD i 0=n:=by
  intro i n hi;simp[bR,hi]
 have har: ∀{x y:AV} {v:Value},AR C x v->x.ren (cT ns)=some y->AR (C.enter ns) y v:=by
  intro x y v hx hy;refine AR.ren (C:=C) (D:=C.enter ns) (fun n m hnm _=> ?_) (fun n m hnm d hd=> ?_) (fun n m hnm _=>by simp only[Cx.enter,gd (dn hnm)]) (fun _ _ _ h=>h) hx y hy
  ·exact(cv.1 (dn hnm)).1
  ·have hi:=dn hnm;simp only[Cx.enter,hi,Option.bind_some]at hd;exact⟨hd,by simp only[Cx.enter,gd hi],by simp only[Cx.enter,gd hi]⟩
 refine⟨h.rdw,?_,?_,?_,?_,?_,?_,?_,?_⟩
 ·intro i o hi;obtain⟨n,oA,h1,h2,h3,h4⟩:=get i o hi;refine⟨(cv.1 h1).1,?_⟩;simp only[Cx.enter,h1,Option.bind_some];rw[(h.live n oA h4).2,(aC.oe h3).1]
 ·intro i hi;rw[pS]at hi;have hl:=List.getElem?_eq_none_iff.1 hi;have:ns[i]?=none:=List.getElem?_eq_none_iff.2 (by omega)
  simp[Cx.enter,this]
 ·intro i o hi k;obtain⟨n,oA,h1,h2,h3,h4⟩:=get i o hi;simp only[Cx.enter,gd h1];exact h.sep n oA h4 k
 ·intro i i' o o' hi hi' hmu;obtain⟨n,oA,h1,h2,h3,h4⟩:=get i o hi;obtain⟨n',oA',h1',h2',h3',h4'⟩:=get i' o' hi';simp only[Cx.enter,gd h1,gd h1']at hmu;have:=h.inj n n' oA oA' h4 h4' hmu;subst this;have e1:=pT hnd h1;have e2:=pT hnd h1';rw[e1]at e2;injection e2
 ·intro i o hi;obtain⟨n,oA,h1,h2,h3,h4⟩:=get i o hi;simp only[Cx.enter,gd h1];exact .inr ⟨n,jb h1,rfl⟩
 ·intro i o hi hk;obtain⟨n,oA,h1,h2,h3,h4⟩:=get i o hi;simp only[Cx.enter,gd h1]at hk;obtain⟨cs,el,g1,g2,g3,g4,g5⟩:=h.obj n oA h4 hk;obtain⟨r1,r2,r3,r4⟩:=aC.oe h3;obtain⟨q1,q2⟩:=n8 r4;simp only[Cx.enter,gd h1];refine⟨cs,el,g1,g2,by omega,fun hg=>by rw[<-q1];exact g4 (r2▸hg),fun k x v hx hv=> ?_⟩
  have hk:k<oA.cells.length:=by have:=(cv.1 hx).1;omega
  have e:oA.cells[k]?=some oA.cells[k]:=by simp[hk]
  exact har (g5 k _ v e hv) (q2 k _ x e hx)
 ·intro i o hi hk t ht;obtain⟨n,oA,h1,h2,h3,h4⟩:=get i o hi;simp only[Cx.enter,gd h1]at hk⊢;exact h.typ n oA h4 hk t (by rw[<-(aC.oe h3).2.2.1];exact ht)
 ·intro i o hi hk;obtain⟨n,oA,h1,h2,h3,h4⟩:=get i o hi;simp only[Cx.enter,gd h1]at hk⊢;obtain⟨es,clk,g1,g2⟩:=h.mp n oA h4 hk;refine⟨es,clk,g1,?_⟩;rw[Bt g2.pure (aC.oe h3).2.2.2];exact g2
structure Left (C D:Cx) (hf hs:Nat->Option aC) (wr:Nat->Prop) (w w':World) (ns:List Nat) (nm:Nat) (j:Option Nat):Prop where
 hC:HR C hf wr w
 hD:HR D hs (C2 C ns w) w'
 nd:ns.Nodup
 live: ∀n∈ns,∃ob,hf n=some ob
 nm: ¬C.al nm
 rd: ∀b,b<w.heap.size->D.rd b=C.rd b
 wf:Wf (C2 C ns w) w w'
 le:(C.enter ns).Le D
 st: ∀n ob,hs n=some ob->(n<ns.length/\D.mu n=(C.enter ns).mu n)\/w.heap.size<=D.mu n
 jk: ∀n,j=some n->ns.length<=n
theorem Left.U8 (L:Left C D hf hs wr w w' ns nm j):cT ns nm=none:=by
 refine Kd fun hm=> ?_
 obtain⟨ob,hob⟩:=L.live nm hm;exact L.nm (L.hC.live nm ob hob).1
theorem Left.leC (L:Left C D hf hs wr w w' ns nm j):C.Le (C.leave D ns nm j hs w w'):=by
 refine⟨fun b o v hv=> ?_,fun _ h=> .inl h,fun n hn d hd=> ?_,fun n hn=> ?_⟩
 ·have:=jh (L.hC.rdw _ _ _ hv);simp[Cx.leave,this,hv]
 ·simp only[Cx.leave]at hd⊢
  cases hi:cT ns n with
  |some i=>
   simp only[hi]at hd⊢;have h1:=dn hi;have hlt:=(cv.1 h1).1;obtain⟨c,e1,e2,e3⟩:=L.le.cur i hlt d hd;simp only[Cx.enter,h1,Option.bind_some]at e1;refine⟨c,e1,e2,fun he=> ?_⟩
   obtain⟨e4,e5⟩:=e3 he;have gd:ns.getD i 0=n:=by simp[bR,h1]
   simp only[Cx.enter,gd]at e4 e5;exact⟨e4,e5⟩
  |none=>
   simp only[hi]at hd⊢
   by_cases e:n=nm
   ·subst e;exact aJ hn L.nm
   ·simp only[e,ak]at hd⊢;exact⟨d,hd,aB _,fun _=>⟨trivial,trivial⟩⟩
 ·simp only[Cx.leave]
  cases hi:cT ns n with
  |some i=>
   have h1:=dn hi;have gd:ns.getD i 0=n:=by simp[bR,h1]
   have e:=L.le.mpn i (cv.1 h1).1;simp only[Cx.enter,gd]at e;exact e
  |none=>
   have e:n≠nm:=fun e=>L.nm (e▸hn)
   simp[e]
theorem Left.back (L:Left C D hf hs wr w w' ns nm j) {x y:AV} {v:Value} (hx:AR (D.mid ns.length j (C.leave D ns nm j hs w w').rd) x v) (hy:x.ren (gO ns nm)=some y):AR (C.leave D ns nm j hs w w') y v:=by
 refine AR.ren (C:=D.mid ns.length j (C.leave D ns nm j hs w w').rd) (D:=C.leave D ns nm j hs w w') (fun n m hnm _=> ?_) (fun n m hnm d hd=> ?_) (fun n m hnm _=> ?_) (fun _ _ _ h=>h) hx y hy
 ·unfold gO at hnm
  split at hnm
  ·rename_i n' hn';injection hnm with hnm;subst hnm
   obtain⟨ob,hob⟩:=L.live _ (jb hn');exact .inl (L.hC.live _ ob hob).1
  ·split at hnm
   ·injection hnm with hnm;exact .inr hnm.symm
   ·cases hnm
 ·unfold gO at hnm
  split at hnm
  ·rename_i n' hn';injection hnm with hnm;subst hnm
   have hlt:=(cv.1 hn').1;have hi:=pT L.nd hn';simp only[Cx.leave,hi]at hd⊢;simp only[Cx.mid,hlt,aA];exact⟨hd,trivial,trivial⟩
  ·split at hnm
   ·rename_i hk;injection hnm with hnm;subst hnm
    subst hk;simp only[Cx.leave,L.U8,aA]at hd⊢;simp only[Cx.mid,ni,ak,aA];exact⟨hd,trivial,trivial⟩
   ·cases hnm
 ·unfold gO at hnm
  split at hnm
  ·rename_i n' hn';injection hnm with hnm;subst hnm
   have hlt:=(cv.1 hn').1;have hi:=pT L.nd hn';simp only[Cx.leave,hi,Cx.mid,hlt,aA]
  ·split at hnm
   ·rename_i hk;injection hnm with hnm;subst hnm
    subst hk;simp only[Cx.leave,L.U8,aA,Cx.mid,ni,ak]
   ·cases hnm
theorem Left.VU (L:Left C D hf hs wr w w' ns nm j): ∀b o v,D.rd b o=some v->(C.leave D ns nm j hs w w').rd b o=some v:=by
 intro b o v hv;simp only[Cx.leave]
 by_cases hb:b<w.heap.size
 ·rw[ah hb,<-L.rd b hb];exact hv
 ·rw[af hb,af,L.hD.rdw _ _ _ hv];rintro⟨n,ob,-,h1,rfl⟩;rw[L.hD.sep n ob h1 o]at hv;cases hv
theorem Left.Ta (L:Left C D hf hs wr w w' ns nm j) {x y:AV} {v:Value} (hx:AR D x v) (hy:x.ren (pI ns.length j)=some y):AR (D.mid ns.length j (C.leave D ns nm j hs w w').rd) y v:=by
 refine AR.ren (C:=D) (D:=D.mid ns.length j (C.leave D ns nm j hs w w').rd) (fun n m hnm _=> ?_) (fun n m hnm d hd=> ?_) (fun n m hnm _=> ?_) L.VU hx y hy
 ·unfold pI at hnm
  split at hnm
  ·injection hnm with hnm;subst hnm;simp only[Cx.mid];omega
  ·split at hnm
   ·injection hnm with hnm;subst hnm;simp[Cx.mid]
   ·cases hnm
 ·unfold pI at hnm
  split at hnm
  ·rename_i hlt;injection hnm with hnm;subst hnm
   simp only[Cx.mid,hlt,aA]at hd⊢;exact⟨hd,trivial,trivial⟩
  ·split at hnm
   ·rename_i hj;injection hnm with hnm;subst hnm
    simp only[Cx.mid,ni,ak,aA,hj,Option.bind_some,Option.getD_some]at hd⊢;exact⟨hd,trivial,trivial⟩
   ·cases hnm
 ·unfold pI at hnm
  split at hnm
  ·rename_i hlt;injection hnm with hnm;subst hnm
   simp only[Cx.mid,hlt,aA]
  ·split at hnm
   ·rename_i hj;injection hnm with hnm;subst hnm
    simp only[Cx.mid,ni,ak,hj,Option.getD_some]
   ·cases hnm
end
