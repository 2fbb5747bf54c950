/-
  Part of the proof, part KC15. Own work.
-/
import Derived.IntWalk
import Derived.Attr
import Derived.Test.YtmobkhegihemeaaGreatDoorKC14
set_option linter.all false
namespace Go.Dom
open Go.RowKit
inductive Fr where
 |seq (b:SC)
 |blk (id:Nat)
 |lp (R:AS→Prop)
 |asg (b:SC)
 |rg (t0:List (Nat×AV)) (R:AS→Prop)
 |bk (ns:List Nat) (t0:List (Nat×AV)) (obs:List (Nat×Option ax))
def KW (P:Program) [bT P] (Q:AX→AS→Prop):List Fr→AX→AS→Prop
 |[],e,s=>Q e s
 | .seq b::K, .normal,s=>aw P b (KW P Q K) s
 | .seq _::K, .exit j,s=>KW P Q K (.exit j) s
 | .seq _::K, .ret,s=>KW P Q K .ret s
 | .blk _::K, .normal,s=>KW P Q K .normal s
 | .blk id::K, .exit j,s=>if j=id then KW P Q K .normal s else KW P Q K (.exit j) s
 | .blk _::K, .ret,s=>KW P Q K .ret s
 | .lp R:: _, .normal,s=>R s
 | .lp _::K, .exit j,s=>KW P Q K (.exit j) s
 | .lp _::K, .ret,s=>KW P Q K .ret s
 | .asg b::K, .normal,s=>aw P b (KW P Q K) s
 | .asg _:: _, .exit _,_=>False
 | .asg _:: _, .ret,_=>False
 | .bk ns t0 obs::K,e,s=>(∀p∈s.h,∀c∈p.2.cells,c.off ns=true)∧KW P Q K e ⟨t0,jZ s.h obs,s.nx⟩
 | .rg t0 R:: _, .normal,s=>R {s with t:=t0}
 | .rg t0 _::K, .exit j,s=>KW P Q K (.exit j) {s with t:=t0}
 | .rg t0 _::K, .ret,s=>KW P Q K .ret {s with t:=t0}
section
variable (P:Program) [bT P] (Q:AX→AS→Prop)
def CW (sc:SC) (K:List Fr) (s:AS):Prop:=aw P sc (KW P Q K) s
def MK (bf:Option (List Nat)) (tr:List (Nat×List Nat×List Nat)):Prop:=
 match bf with
 |none=>True
 |some b=>O7 b tr=true
def yY (bf:Option (List Nat)) (k:Nat) (rs:List Nat) (up:List (Nat×Option ax)) (tr:List (Nat×List Nat×List Nat)):List (Nat×List Nat×List Nat):=
 match bf with
 |none=>[]
 |some _=>(k,rs,up.map (·.1))::tr
def RW (nx:Nat) (bf:Option (List Nat)) (n:Nat) (ops:List iK) (k:Nat) (s:AS) (tr:List (Nat×List Nat×List Nat)) (K:List Fr):Prop:=
 match bf with
 |none=>oZ P nx ops k s fun s'=>KW P Q K .normal {s' with nx:=n}
 |some b=>xN P nx ops k s tr fun s' tr=>O7 b tr=true∧KW P Q K .normal {s' with nx:=n}
def OW (nx:Nat) (bf:Option (List Nat)) (n:Nat) (x:Option AO) (d:Option Nat) (ops:List iK) (k:Nat) (s:AS) (tr:List (Nat×List Nat×List Nat)) (K:List Fr):Prop:=
 Hs x fun ao=>RW P Q nx bf n ops (k+1) (s.sM d ao.v ao.up) (yY bf k ao.rs ao.up tr) K
def CR (nx:Nat) (bf:Option (List Nat)) (n:Nat) (nm:Nat) (fv:AV) (avs:List AV) (d:Option Nat) (ops:List iK) (k:Nat) (s:AS) (tr:List (Nat×List Nat×List Nat)) (K:List Fr):Prop:=
 EC P nm s.h fv avs fun ao=>RW P Q nx bf n ops (k+1) (s.sM d ao.v ao.up) (yY bf k ao.rs ao.up tr) K
def GR (nx:Nat) (bf:Option (List Nat)) (n:Nat) (v:AV) (t:Nat) (want:Bool) (d:Option Nat) (o:SO) (ops:List iK) (k:Nat) (s:AS) (tr:List (Nat×List Nat×List Nat)) (K:List Fr):Prop:=
 Nl v t want s (fun s=>RW P Q nx bf n (⟨d,o,none⟩::ops) k s tr K) (fun s=>RW P Q nx bf n ops (k+1) (s.sM d (.v (.tup [])) []) (yY bf k [] [] tr) K)
def CV (v:AV) (a b:SC) (K:List Fr) (s:AS):Prop:=E4 v (CW P Q a K s) (CW P Q b K s)
inductive BK where
 |cw (a b:SC) (K:List Fr) (s:AS)
 |gd (nx:Nat) (bf:Option (List Nat)) (n:Nat) (t:Nat) (want:Bool) (d:Option Nat) (o:SO) (ops:List iK) (k:Nat) (s:AS) (tr:List (Nat×List Nat×List Nat)) (K:List Fr)
 |ng (κ:BK)
def BX (c:Bool):BK→Prop
 | .cw a b K s=>uX c (CW P Q a K s) (CW P Q b K s)
 | .gd nx bf n t want d o ops k s tr K=>GR P Q nx bf n (.v (.b c)) t want d o ops k s tr K
 | .ng κ=>BX (!c) κ
def PX (p:Prop) (κ:BK):Prop:=(p→BX P Q true κ)∧(¬p→BX P Q false κ)
def LI (ps:List Nat) (a b:SC) (K:List Fr) (t0:List (Nat×AV)) (N:Nat) (fin:Bool) (xs:List (List PV)) (s:AS):Prop:=
 Td (fun y Qx s1=>aw P a (fun e s2=>match e with
  | .normal=>aw P b Qx s2
  | _=>False) {s1 with t:=oh s1.t ps y}) (KW P Q K) t0 N fin xs s
def Bc (a:SC) (K:List Fr) (N:Nat) (s:AS):Prop:=sP (aw P a) (KW P Q K) N s
variable {P Q}
theorem CW.start {sc:SC} {s:AS} (h:CW P Q sc [] s):aw P sc Q s:=by
 have:KW P Q []=Q:=by funext e s;rfl
 unfold CW at h;rw[this]at h;exact h
theorem ik.mk' {f:FuncId} {fn:Func} {sc:SC} {rs:List nS} (hm:P.follows .mixedOrders=true) (hent:Enters P f f) (hfn:P.funcs[f]?=some fn) (hb:fn.body.isSome=true) (hc:comp P fn.ntmps (fn.body.getD .skip)=some sc) (hr:fB P fn.results.toList=some rs)
  {obs:List ax} {args:List AV} {fs:List (Option (Option ax))} {j:Option Nat} {nw:Option ax} {v:AV} (hlen:args.length≤fn.ntmps) (h:CW P (fU rs obs fs j nw v) sc [] ⟨args.mapIdx (fun i x=>(i,x)),obs.mapIdx (fun i x=>(i,x)),1000⟩)
  {ns:List Nat} {nm:Nat} {obsA:List ax} {avs:List AV} {v':AV} {up:List (Nat×Option ax)} (hns:ns.length≤1000) (hnd:ns.Nodup) (hln:ns.length=obsA.length) (hob:aQ (ax.aI (cf ns)) obsA=some obs) (hav:aQ (AV.aI (cf ns)) avs=some args)
  (hv:v.aI (fV ns nm)=some v') (hup:eH ns nm fs nw=some up):ik P f nm (ns.zip obsA) avs v' up:=by
 obtain⟨code,hcode⟩:=rj.1 hb;rw[hcode]at hc;exact ik.Kh hm hent hfn hcode hc hr hlen (CW.start h) hns hnd hln hob hav hv hup
theorem LU (K:List Fr) (s:AS):CW P Q .skip K s=KW P Q K .normal s:=rfl
theorem PZ (a b:SC) (K:List Fr) (s:AS):CW P Q (.seq a b) K s=CW P Q a (.seq b::K) s:=by
 simp only[CW,aw];congr 1
 funext e s'
 cases e<;>rfl
theorem PT (id:Nat) (a:SC) (K:List Fr) (s:AS):CW P Q (.blk id a) K s=CW P Q a (.blk id::K) s:=by
 simp only[CW,aw];congr 1
 funext e s'
 cases e<;>rfl
theorem LQ (x:SX) (a b:SC) (K:List Fr) (s:AS):CW P Q (.cond x a b) K s=CV P Q (x.ev (aF s.t)) a b K s:=rfl
theorem U4 (c:Bool) (a b:SC) (K:List Fr) (s:AS):CV P Q (.v (.b c)) a b K s=BX P Q c (.cw a b K s):=rfl
theorem S1 (a b:SC) (K:List Fr) (s:AS):BX P Q true (.cw a b K s)=CW P Q a K s:=by simp only[BX,pj]
theorem SV (a b:SC) (K:List Fr) (s:AS):BX P Q false (.cw a b K s)=CW P Q b K s:=by simp only[BX,nU]
theorem OZ (κ:BK):BX P Q true (.ng κ)=BX P Q false κ:=by simp only[BX,bu]
theorem OY (κ:BK):BX P Q false (.ng κ)=BX P Q true κ:=by simp only[BX,bR]
theorem PO (c:Bool) (κ:BK):BX P Q (!c) κ=BX P Q c (.ng κ):=by simp only[BX]
theorem LO {c:Bool} {κ:BK} (h:c=true):BX P Q c κ=BX P Q true κ:=by rw[h]
theorem LM {c:Bool} {κ:BK} (h:c=false):BX P Q c κ=BX P Q false κ:=by rw[h]
theorem Il {p:Prop} {κ:BK} (h:p):PX P Q p κ=BX P Q true κ:=by simp only[PX,h,true_implies,not_true_eq_false,false_implies,and_true]
theorem Ik {p:Prop} {κ:BK} (h: ¬p):PX P Q p κ=BX P Q false κ:=by simp only[PX,h,false_implies,not_false_eq_true,true_implies,true_and]
theorem Ve (κ:BK):PX P Q True κ=BX P Q true κ:=Il trivial
theorem Vd (κ:BK):PX P Q False κ=BX P Q false κ:=Ik id
theorem U1 (p:Prop) [Decidable p] (κ:BK):BX P Q (decide p) κ=PX P Q p κ:=by
 by_cases h:p
 ·rw[LO (decide_eq_true h),Il h]
 ·rw[LM (decide_eq_false h),Ik h]
theorem U2 (x y:Int) (κ:BK):BX P Q (x==y) κ=PX P Q (x=y) κ:=by
 by_cases h:x=y
 ·rw[LO (by simpa using h),Il h]
 ·rw[LM (by simpa using h),Ik h]
theorem SW (x y:Int) (κ:BK):BX P Q (x !=y) κ=PX P Q (x=y) (.ng κ):=by
 by_cases h:x=y
 ·rw[LM (by simpa using h),Il h,OZ]
 ·rw[LO (by simpa using h),Ik h,OY]
theorem BX.mk {c:Bool} {κ:BK} (h1:c=true→BX P Q true κ) (h2:c=false→BX P Q false κ):BX P Q c κ:=by
 cases c
 ·exact h2 rfl
 ·exact h1 rfl
theorem PX.mk {p:Prop} {κ:BK} (h1:p→BX P Q true κ) (h2: ¬p→BX P Q false κ):PX P Q p κ:=⟨h1,h2⟩
theorem S7 (a b:SC) (K:List Fr) (s:AS):CV P Q .ub a b K s=(CW P Q a K s∧CW P Q b K s):=rfl
theorem LS (a:SC) (K:List Fr) (s:AS):CW P Q (.loop a) K s=Bc P Q a K s.nx s:=rfl
theorem LR (id:Nat) (K:List Fr) (s:AS):CW P Q (.exit id) K s=KW P Q K (.exit id) s:=rfl
theorem PW (K:List Fr) (s:AS):CW P Q .ret K s=KW P Q K .ret s:=rfl
theorem PU (bf:Option (List Nat)) (ops:List iK) (K:List Fr) (s:AS):CW P Q (.reg bf ops) K s=RW P Q s.nx bf (s.nx+ops.length) ops 0 s [] K:=by
 cases bf<;>rfl
theorem P5 (e:AX) (s:AS):KW P Q [] e s=Q e s:=rfl
theorem L4 (b:SC) (K:List Fr) (s:AS):KW P Q (.seq b::K) .normal s=CW P Q b K s:=rfl
theorem L3 (b:SC) (K:List Fr) (j:Nat) (s:AS):KW P Q (.seq b::K) (.exit j) s=KW P Q K (.exit j) s:=rfl
theorem L5 (b:SC) (K:List Fr) (s:AS):KW P Q (.seq b::K) .ret s=KW P Q K .ret s:=rfl
theorem L1 (i:Nat) (K:List Fr) (s:AS):KW P Q (.blk i::K) .normal s=KW P Q K .normal s:=rfl
theorem L0 (i:Nat) (K:List Fr) (j:Nat) (s:AS):KW P Q (.blk i::K) (.exit j) s=if j=i then KW P Q K .normal s else KW P Q K (.exit j) s:=rfl
theorem L2 (i:Nat) (K:List Fr) (s:AS):KW P Q (.blk i::K) .ret s=KW P Q K .ret s:=rfl
theorem Ie {x:SX} {ps:List Nat} {a b:SC} {K:List Fr} {s:AS} {g:FuncId} {caps:List PV} {fin:Bool} {xs:List (List PV)} (hi:UU P g caps fin xs) (hx:x.ev (aF s.t)= .v (.fc g [] caps)) (hl: ∀y∈xs,y.length=ps.length) (h:LI P Q ps a b K s.t s.nx fin xs s):CW P Q (.rng x ps a b) K s:=by
 have e:o5 [] s (KW P Q K)=KW P Q K:=by funext e s';simp[o5]
 refine⟨g,caps,fin,xs,[],by rw[hx];rfl,by rw[hx];simp[aN],by simp,hi,fun y hy=>⟨hl y hy, .inl rfl⟩,?_⟩
 rw[e];exact h
section
variable {ps:List Nat} {a b:SC} {K:List Fr} {t0:List (Nat×AV)} {N:Nat} {s:AS} {fin:Bool}
theorem Sp (h:KW P Q K .normal s):LI P Q ps a b K t0 N true [] s:=fun X h1 _ _=>h1 _ rfl h
theorem FZ {s':AS} {ys:List (List PV)} (hN:N≤s'.nx) (hle:s'.Le s) (h:LI P Q ps a b K t0 N fin ys s'):LI P Q ps a b K t0 N fin ys s:=fun X h1 h2 h3=>h3 ys s' s hN hle (h X h1 h2 h3)
theorem Oj {y:List PV} {ys:List (List PV)} (h:CW P Q a (.asg b:: .rg t0 (LI P Q ps a b K t0 N fin ys)::K) {s with t:=oh s.t ps y}):LI P Q ps a b K t0 N fin (y::ys) s:=by
 intro X h1 h2 h3;refine h2 y ys s (ou (fun e s2 hs=> ?_) h)
 cases e with
 |normal=>
  refine ou (fun e s3 hs3=> ?_) hs
  cases e with
  |normal=>exact hs3 X h1 h2 h3
  |exit j=>exact hs3
  |ret=>exact hs3
 |exit j=>exact hs
 |ret=>exact hs
theorem FY {xs:List (List PV)} {α:Type} (st:α→AS) (ok:List (List PV)→α→Prop) (a0:α) (hN: ∀x,N≤(st x).nx) (h0:ok xs a0) (hle:(st a0).Le s) (hnil: ∀x,ok [] x→fin=true∧KW P Q K .normal (st x))
  (hcons: ∀y ys x,ok (y::ys) x→ ∀R:AS→Prop,(∀x',ok ys x'→ ∀s',(st x').Le s'→R s')→CW P Q a (.asg b:: .rg t0 R::K) {st x with t:=oh (st x).t ps y}):LI P Q ps a b K t0 N fin xs s:=by
 refine FZ (hN a0) hle ?_;clear hle
 induction xs generalizing a0 with
 |nil=>
  obtain⟨rfl,h⟩:=hnil a0 h0;exact Sp h
 |cons y ys ih=>exact Oj (hcons y ys a0 h0 _ fun x' hx' s' hs'=>FZ (hN x') hs' (ih x' hx'))
theorem Sq {xs:List (List PV)} {α:Type} (st:α→AS) (ok:List (List PV)→α→Prop) (a0:α) (hN: ∀x,N≤(st x).nx) (h0:ok xs a0) (hle:(st a0).Le s) (hnil: ∀x,ok [] x→KW P Q K .normal (st x))
  (hcons: ∀y ys x,ok (y::ys) x→ ∀R:AS→Prop,(∀x',ok ys x'→ ∀s',(st x').Le s'→R s')→CW P Q a (.asg b:: .rg t0 R::K) {st x with t:=oh (st x).t ps y}):LI P Q ps a b K t0 N true xs s:=
 FY st ok a0 hN h0 hle (fun x h=>⟨rfl,hnil x h⟩) hcons
theorem Ok {xs:List (List PV)} {α:Type} (st:α→AS) (ok:List (List PV)→α→Prop) (a0:α) (hN: ∀x,N≤(st x).nx) (h0:ok xs a0) (hle:(st a0).Le s) (hnil: ∀x,¬ok [] x)
  (hcons: ∀y ys x,ok (y::ys) x→ ∀R:AS→Prop,(∀x',ok ys x'→ ∀s',(st x').Le s'→R s')→CW P Q a (.asg b:: .rg t0 R::K) {st x with t:=oh (st x).t ps y}):LI P Q ps a b K t0 N false xs s:=
 FY st ok a0 hN h0 hle (fun x h=>(hnil x h).elim) hcons
end
theorem LZ (b:SC) (K:List Fr) (s:AS):KW P Q (.asg b::K) .normal s=CW P Q b K s:=rfl
theorem S9 (ns:List Nat) (t0:List (Nat×AV)) (obs:List (Nat×Option ax)) (K:List Fr) (e:AX) (s:AS):KW P Q (.bk ns t0 obs::K) e s=((∀p∈s.h,∀c∈p.2.cells,c.off ns=true)∧KW P Q K e ⟨t0,jZ s.h obs,s.nx⟩):=rfl
theorem P7 (t0:List (Nat×AV)) (R:AS→Prop) (K:List Fr) (s:AS):KW P Q (.rg t0 R::K) .normal s=R ⟨t0,s.h,s.nx⟩:=rfl
theorem P6 (t0:List (Nat×AV)) (R:AS→Prop) (K:List Fr) (j:Nat) (s:AS):KW P Q (.rg t0 R::K) (.exit j) s=KW P Q K (.exit j) ⟨t0,s.h,s.nx⟩:=rfl
theorem P8 (t0:List (Nat×AV)) (R:AS→Prop) (K:List Fr) (s:AS):KW P Q (.rg t0 R::K) .ret s=KW P Q K .ret ⟨t0,s.h,s.nx⟩:=rfl
theorem P3 (R:AS→Prop) (K:List Fr) (s:AS):KW P Q (.lp R::K) .normal s=R s:=rfl
theorem P2 (R:AS→Prop) (K:List Fr) (j:Nat) (s:AS):KW P Q (.lp R::K) (.exit j) s=KW P Q K (.exit j) s:=rfl
theorem P4 (R:AS→Prop) (K:List Fr) (s:AS):KW P Q (.lp R::K) .ret s=KW P Q K .ret s:=rfl
section
variable (nx:Nat) (bf:Option (List Nat)) (n:Nat) (d:Option Nat) (ops:List iK) (k:Nat) (s:AS) (tr:List (Nat×List Nat×List Nat)) (K:List Fr)
theorem Qe:RW P Q nx bf n [] k s tr K=(MK bf tr∧KW P Q K .normal {s with nx:=n}):=by
 cases bf
 ·simp only[RW,oZ,MK,true_and]
 ·rfl
def XW (P:Program) [bT P] (Q:AX→AS→Prop) (nx:Nat) (bf:Option (List Nat)) (n:Nat) (o:SO) (d:Option Nat) (ops:List iK) (k:Nat) (s:AS) (tr:List (Nat×List Nat×List Nat)) (K:List Fr):Prop:=
 match o with
 | .call f args=>CR P Q nx bf n (nx+k) (f.ev (aF s.t)) (args.map (SX.ev (aF s.t))) d ops k s tr K
 |o=>OW P Q nx bf n (dU (nx+k) o (aF s.t) (ar s.h)) d ops k s tr K
theorem Tc (o:SO):RW P Q nx bf n (⟨d,o,none⟩::ops) k s tr K=XW P Q nx bf n o d ops k s tr K:=by
 cases o<;>cases bf<;>rfl
theorem Tb (o:SO) (t:Nat) (want:Bool):RW P Q nx bf n (⟨d,o,some (t,want)⟩::ops) k s tr K=GR P Q nx bf n (aF s.t t) t want d o ops k s tr K:=by
 cases bf<;>rfl
theorem L7 (v:AV) (p:Prop) (rs:List Nat) (up:List (Nat×Option ax)):OW P Q nx bf n (some ⟨v,p,rs,up⟩) d ops k s tr K=(p∧RW P Q nx bf n ops (k+1) (s.sM d v up) (yY bf k rs up tr) K):=rfl
theorem L6:OW P Q nx bf n none d ops k s tr K=False:=rfl
theorem U8 (x:Bool) (t:Nat) (want:Bool) (o:SO):GR P Q nx bf n (.v (.b x)) t want d o ops k s tr K=BX P Q x (.gd nx bf n t want d o ops k s tr K):=rfl
theorem SZ (t:Nat) (o:SO):BX P Q true (.gd nx bf n t true d o ops k s tr K)=RW P Q nx bf n (⟨d,o,none⟩::ops) k (s.set t (.v (.b true))) tr K:=by simp only[BX,GR,Nl,pj]
theorem SU (t:Nat) (o:SO):BX P Q false (.gd nx bf n t true d o ops k s tr K)=RW P Q nx bf n ops (k+1) ((s.set t (.v (.b false))).sM d (.v (.tup [])) []) (yY bf k [] [] tr) K:=by simp only[BX,GR,Nl,nU]
theorem SY (t:Nat) (o:SO):BX P Q true (.gd nx bf n t false d o ops k s tr K)=RW P Q nx bf n ops (k+1) ((s.set t (.v (.b true))).sM d (.v (.tup [])) []) (yY bf k [] [] tr) K:=by simp only[BX,GR,Nl,pj]
theorem SS (t:Nat) (o:SO):BX P Q false (.gd nx bf n t false d o ops k s tr K)=RW P Q nx bf n (⟨d,o,none⟩::ops) k (s.set t (.v (.b false))) tr K:=by simp only[BX,GR,Nl,nU]
theorem Ig (t:Nat) (want:Bool) (o:SO):GR P Q nx bf n (.v (.tup [])) t want d o ops k s tr K=RW P Q nx bf n ops (k+1) (s.sM d (.v (.tup [])) []) (yY bf k [] [] tr) K:=by simp only[GR,Nl]
theorem GD:MK none tr=True:=rfl
theorem GF (b:List Nat):MK (some b) tr=(O7 b tr=true):=rfl
theorem Lq (rs:List Nat) (up:List (Nat×Option ax)):yY none k rs up tr=[]:=rfl
theorem Lr (b:List Nat) (rs:List Nat) (up:List (Nat×Option ax)):yY (some b) k rs up tr=(k,rs,up.map (·.1))::tr:=rfl
theorem dF {nx:Nat} {bf:Option (List Nat)} {n:Nat} {d:Option Nat} {ops:List iK} {k:Nat} {s:AS} {tr:List (Nat×List Nat×List Nat)} {K:List Fr} {nm:Nat} {f:FuncId} {avs:List AV} {pvs:List PV} {r:PV} (he:aD P f pvs r) (ha:mz avs=some pvs) (hK:RW P Q nx bf n ops (k+1) (s.sM d (.v r) []) (yY bf k [] [] tr) K):
  CR P Q nx bf n nm (.v (.fn (.func f))) avs d ops k s tr K:=⟨_, .pure f avs pvs r rfl ha he,hK⟩
theorem S6 {nx:Nat} {bf:Option (List Nat)} {n:Nat} {d:Option Nat} {ops:List iK} {k:Nat} {s:AS} {tr:List (Nat×List Nat×List Nat)} {K:List Fr} {nm:Nat} {f:FuncId} {a c avs:List AV}:
  CR P Q nx bf n nm (.fn (.func f) a c) avs d ops k s tr K=CR P Q nx bf n nm (.v (.fn (.func f))) (a++(avs++c)) d ops k s tr K:=by
 have h: ∀ao,kp P nm (ar s.h) (.fn (.func f) a c) avs ao↔kp P nm (ar s.h) (.v (.fn (.func f))) (a++(avs++c)) ao:=by
  intro ao;constructor
  ·intro h
   cases h with
   |pure f avs pvs r hfv hargs he=>exact .pure f avs pvs r hfv hargs he
   |view f avs pvs r hfv hargs hr he=>exact .view f avs pvs r hfv hargs hr he
   |jo f avs pvs r hfv hargs hlo he=>exact .jo f avs pvs r hfv hargs hlo he
   |eff f avs hs v up hfv hhs he=>exact .eff f avs hs v up hfv hhs he
   |same f v hfv he=>exact .same f v hfv he
   |ext f avs pvs r hfv hargs he=>exact .ext f avs pvs r hfv hargs he
  ·intro h
   cases h with
   |pure f avs pvs r hfv hargs he=>exact .pure f avs pvs r hfv hargs he
   |view f avs pvs r hfv hargs hr he=>exact .view f avs pvs r hfv hargs hr he
   |jo f avs pvs r hfv hargs hlo he=>exact .jo f avs pvs r hfv hargs hlo he
   |eff f avs hs v up hfv hhs he=>exact .eff f avs hs v up hfv hhs he
   |same f v hfv he=>exact .same f v hfv he
   |ext f avs pvs r hfv hargs he=>exact .ext f avs pvs r hfv hargs he
 unfold CR EC;simp only[h]
theorem S5 {nx:Nat} {bf:Option (List Nat)} {n:Nat} {d:Option Nat} {ops:List iK} {k:Nat} {s:AS} {tr:List (Nat×List Nat×List Nat)} {K:List Fr} {nm:Nat} {f:FuncId} {a c:List PV} {avs:List AV}:
  CR P Q nx bf n nm (.v (.fc f a c)) avs d ops k s tr K=CR P Q nx bf n nm (.v (.fn (.func f))) (a.map .v++(avs++c.map .v)) d ops k s tr K:=by
 have h: ∀ao,kp P nm (ar s.h) (.v (.fc f a c)) avs ao↔kp P nm (ar s.h) (.v (.fn (.func f))) (a.map .v++(avs++c.map .v)) ao:=by
  intro ao;constructor
  ·intro h
   cases h with
   |pure f avs pvs r hfv hargs he=>exact .pure f avs pvs r hfv hargs he
   |view f avs pvs r hfv hargs hr he=>exact .view f avs pvs r hfv hargs hr he
   |jo f avs pvs r hfv hargs hlo he=>exact .jo f avs pvs r hfv hargs hlo he
   |eff f avs hs v up hfv hhs he=>exact .eff f avs hs v up hfv hhs he
   |same f v hfv he=>exact .same f v hfv he
   |ext f avs pvs r hfv hargs he=>exact .ext f avs pvs r hfv hargs he
  ·intro h
   cases h with
   |pure f avs pvs r hfv hargs he=>exact .pure f avs pvs r hfv hargs he
   |view f avs pvs r hfv hargs hr he=>exact .view f avs pvs r hfv hargs hr he
   |jo f avs pvs r hfv hargs hlo he=>exact .jo f avs pvs r hfv hargs hlo he
   |eff f avs hs v up hfv hhs he=>exact .eff f avs hs v up hfv hhs he
   |same f v hfv he=>exact .same f v hfv he
   |ext f avs pvs r hfv hargs he=>exact .ext f avs pvs r hfv hargs he
 unfold CR EC;simp only[h]
theorem tJ {nx:Nat} {bf:Option (List Nat)} {n:Nat} {d:Option Nat} {ops:List iK} {k:Nat} {s:AS} {tr:List (Nat×List Nat×List Nat)} {K:List Fr} {nm:Nat} {f:FuncId} {avs:List AV} {pvs:List PV} {r:PV} (he:aD P f pvs r) (ha:aQ (view (ar s.h) 9) avs=some pvs) (hr:r.flat=true) (hK:RW P Q nx bf n ops (k+1) (s.sM d (.v r) []) (yY bf k (avs.flatMap (aN (ar s.h) 9)) [] tr) K):
  CR P Q nx bf n nm (.v (.fn (.func f))) avs d ops k s tr K:=⟨_, .view f avs pvs r rfl ha hr he,hK⟩
theorem mS {nx:Nat} {bf:Option (List Nat)} {n:Nat} {d:Option Nat} {ops:List iK} {k:Nat} {s:AS} {tr:List (Nat×List Nat×List Nat)} {K:List Fr} {nm:Nat} {f:FuncId} {avs:List AV} {pvs:List PV} {r:PV} (ns:List Nat) (he:aD P f pvs r) (hlo:ns.all (fun n=>decide (1000≤n))=true) (hv:avs.flatMap (aN (ar s.h) 9)=ns) (ha:aQ (view (ar s.h) 9) avs=some pvs)
  (hK:RW P Q nx bf n ops (k+1) (s.sM d (.v r) (ns.map fun n=>(n,none))) (yY bf k ns (ns.map fun n=>(n,none)) tr) K):
  CR P Q nx bf n nm (.v (.fn (.func f))) avs d ops k s tr K:=by
 subst hv;exact⟨_, .jo f avs pvs r rfl ha (fun n hn=>of_decide_eq_true (bc.1 hlo n hn)) he,hK⟩
theorem br {nx:Nat} {bf:Option (List Nat)} {n:Nat} {d:Option Nat} {ops:List iK} {k:Nat} {s:AS} {tr:List (Nat×List Nat×List Nat)} {K:List Fr} {nm:Nat} {f:FuncId} {avs:List AV} {hs:List (Nat×ax)} {v:AV} {up:List (Nat×Option ax)} (he:ik P f nm hs avs v up) (hh: ∀p∈hs,ar s.h p.1=some p.2) (hK:RW P Q nx bf n ops (k+1) (s.sM d v up) (yY bf k (hs.map (·.1)) up tr) K):
  CR P Q nx bf n nm (.v (.fn (.func f))) avs d ops k s tr K:=⟨_, .eff f avs hs v up rfl hh he,hK⟩
theorem LP {nx:Nat} {bf:Option (List Nat)} {n:Nat} {d:Option Nat} {ops:List iK} {k:Nat} {s:AS} {tr:List (Nat×List Nat×List Nat)} {K:List Fr} {nm:Nat} {f:FuncId} {v:AV} (he:U6 P f) (hK:RW P Q nx bf n ops (k+1) (s.sM d v []) (yY bf k [] [] tr) K):
  CR P Q nx bf n nm (.v (.fn (.func f))) [v] d ops k s tr K:=⟨_, .same f v rfl he,hK⟩
end
theorem PS {nx:Nat} {bf:Option (List Nat)} {n:Nat} {d:Option Nat} {ops:List iK} {k:Nat} {s:AS} {tr:List (Nat×List Nat×List Nat)} {K:List Fr} {nm:Nat} {f:FuncId} {avs:List AV} {pvs:List PV} {r:PV} (he:U7 P f pvs r) (ha:mz avs=some pvs) (hK:RW P Q nx bf n ops (k+1) (s.sM d (.v r) []) (yY bf k [] [] tr) K):
  CR P Q nx bf n nm (.v (.fn (.func f))) avs d ops k s tr K:=⟨_, .ext f avs pvs r rfl ha he,hK⟩
theorem ae {a:SC} {K:List Fr} {N:Nat} {s:AS} (h:CW P Q a (.lp (Bc P Q a K N)::K) s):Bc P Q a K N s:=by
 refine sY (ou (fun e s' hs=> ?_) h)
 cases e<;>exact hs
theorem aj {a:SC} {K:List Fr} {N:Nat} {s:AS} {α:Type} (m:α→Nat) (st:α→AS) (ok:α→Prop) (a0:α) (hN: ∀x,N≤(st x).nx) (h0:ok a0) (hle:(st a0).Le s)
  (hr: ∀x,ok x→ ∀R:AS→Prop,(∀y,ok y→m y<m x→ ∀s',(st y).Le s'→R s')→CW P Q a (.lp R::K) (st x)):Bc P Q a K N s:=by
 refine Hg m st ok a0 hN h0 hle fun x hx=> ?_
 refine ou (fun e s' hs=> ?_) (hr x hx (fun s'=> ∃y,ok y∧m y<m x∧(st y).Le s') fun y h1 h2 s' h3=>⟨y,h1,h2,h3⟩)
 cases e<;>exact hs
def cl (t:List (Nat×AV)) (n:Nat):List (Nat×AV)→Prop
 |[]=>True
 |(k,v)::r=>aF t k=v∧v.bd n=true∧cl t n r
def cj (h:List (Nat×ax)) (n:Nat):List (Nat×ax)→Prop
 |[]=>True
 |(k,v)::r=>ar h k=some v∧k<n∧(∀c∈v.cells,c.bd n=true)∧cj h n r
theorem AS.Le.Kg {t t':List (Nat×AV)} {h h':List (Nat×ax)} {n n':Nat} (z:List (Nat×PV)) (ns:List Nat) (hns: ∀m∈ns,1000≤m∧ar h m=none) (hz: ∀q∈z,view (ar h') 9 (aF t' q.1)=some q.2∧ ∀m∈aN (ar h') 9 (aF t' q.1),m∈ns) (hn:n≤n') (ht:cl t' n t) (hh:cj h' n h):(AS.mk (z.map (fun q=>(q.1,AV.v q.2))++t) h n).Le ⟨t',h',n'⟩:=by
 have h1: ∀(t:List (Nat×AV)),cl t' n t→ ∀p∈t,aF t' p.1=p.2∧p.2.bd n=true:=by
  intro t
  induction t with
  |nil=>intro _ p hp;cases hp
  |cons q t ih=>
   obtain⟨k,v⟩:=q;intro hq p hp;rcases bL.1 hp with rfl|hp
   ·exact⟨hq.1,hq.2.1⟩
   ·exact ih hq.2.2 p hp
 have h2: ∀(h:List (Nat×ax)),cj h' n h→ ∀p∈h,ar h' p.1=some p.2∧p.1<n∧ ∀c∈p.2.cells,c.bd n=true:=by
  intro h
  induction h with
  |nil=>intro _ p hp;cases hp
  |cons q h ih=>
   obtain⟨k,v⟩:=q;intro hq p hp;rcases bL.1 hp with rfl|hp
   ·exact⟨hq.1,hq.2.1,hq.2.2.1⟩
   ·exact ih hq.2.2.2 p hp
 refine⟨⟨ns,hns,fun p hp=> ?_⟩,fun p hp=>(h2 h hh p hp).1,hn,fun p hp=> ?_,fun p hp=>(h2 h hh p hp).2⟩<;>rcases fM.1 hp with hp|hp
 ·obtain⟨q,hq,rfl⟩:=a5.1 hp;exact .inr ⟨q.2,rfl,(hz q hq).1,(hz q hq).2⟩
 ·exact .inl (h1 t ht p hp).1
 ·obtain⟨q,hq,rfl⟩:=a5.1 hp;rfl
 ·exact(h1 t ht p hp).2
theorem AS.Le.of {t t':List (Nat×AV)} {h h':List (Nat×ax)} {n n':Nat} (hn:n≤n') (ht:cl t' n t) (hh:cj h' n h):(AS.mk t h n).Le ⟨t',h',n'⟩:=AS.Le.Kg [] [] (fun _ h=>by cases h) (fun _ h=>by cases h) hn ht hh
end
theorem allM_nil {α:Type} (p:α→Prop):(∀x,x∈([]:List α)→p x)=True:=by simp
theorem allM_cons {α:Type} (a:α) (l:List α) (p:α→Prop):(∀x,x∈a::l→p x)=(p a∧ ∀x,x∈l→p x):=by simp
theorem QR (k:IntKind) (n:Int):PV.byte (.i k n)=UInt8.ofNat n.toNat:=rfl
theorem vX (n:Int):PV.isByte (.i .u8 n)=True:=rfl
theorem Mf (x:PV):AV.byte (.v x)=x.byte:=rfl
theorem Gs (x:PV):AV.isByte (.v x)=x.isByte:=rfl
theorem DO (c:UInt8):UInt8.ofNat c.toNat=c:=by simp
def aC (l:Bytes):List AV:=l.map fun c=> .v (u8 c)
theorem O4 (l:Bytes):List.map (fun c:UInt8=>AV.v (PV.i IntKind.u8 (c.toNat:Int))) l=aC l:=rfl
theorem kO (l:Bytes):(aC l).length=l.length:=by simp[aC]
theorem iD (l:Bytes):List.take l.length (aC l)=aC l:=bM (by simp[aC])
theorem jj (l m:Bytes):aC l++aC m=aC (l++m):=by simp[aC]
theorem Dp (l:Bytes):(∀y,y∈aC l→y.one=true)=True:=by
 simp only[eq_iff_iff,iff_true];intro y hy;obtain⟨c,-,rfl⟩:=a5.1 hy;rfl
theorem ai (l:Bytes) (n:Nat):(∀y,y∈aC l→y.bd n=true)=True:=by
 simp only[eq_iff_iff,iff_true];intro y hy;obtain⟨c,-,rfl⟩:=a5.1 hy;rfl
theorem jV (l:Bytes):(aC l).map AV.byte=l:=by
 induction l with
 |nil=>rfl
 |cons c l ih=>simp_all[aC,AV.byte,PV.byte,u8]
theorem Gv (l:Bytes):(∀y,y∈aC l→y= .v (u8 y.byte))=True:=by
 simp only[eq_iff_iff,iff_true];intro y hy;obtain⟨c,-,rfl⟩:=a5.1 hy;simp[AV.byte,PV.byte,u8]
theorem aA (f:Nat→Option Nat) (l:Bytes):AV.aI.renL f (aC l)=some (aC l):=by
 induction l with
 |nil=>rfl
 |cons c l ih=>
  have:AV.aI.renL f (AV.v (u8 c)::aC l)=some (AV.v (u8 c)::aC l):=by simp[AV.aI.renL,AV.aI,ih]
  exact this
theorem aE (k:Nat) (j:Option Nat) (s:AS) (l:Bytes):aQ (eY k j s) (aC l)=some (aC l):=by
 induction l with
 |nil=>rfl
 |cons c l ih=>
  have:aQ (eY k j s) (AV.v (u8 c)::aC l)=some (AV.v (u8 c)::aC l):=by simp[aQ,eY,dJ,view,ih]
  exact this
theorem Tt:((0:Nat):Int)=0:=rfl
theorem Tu:((1:Nat):Int)=1:=rfl
theorem Ai {α β:Type} (l:List α) (f:α→β):List.take l.length (l.map f)=l.map f:=by rw[←aH (f:=f),cM]
def cellsOf (l:List PV):List AV:=(l.flatMap PV.cells).map .v
theorem ah (l:List PV) (n:Nat):(∀c,c∈cellsOf l→c.bd n=true)=True:=by
 simp only[eq_iff_iff,iff_true];intro c hc;simp only[cellsOf,a5]at hc;obtain⟨y,-,rfl⟩:=hc;rfl
theorem eF (hf:Nat→Option ax) (f:Nat) (l:List PV):aQ (view hf (f+1)) (l.map .v)=some l:=by
 induction l with
 |nil=>rfl
 |cons x l ih=>simp[aQ,view,ih]
theorem N1 (l:List PV):PV.cells (.agg l)=l:=rfl
theorem TZ (x:Bool):PV.cells (.b x)=[.b x]:=rfl
theorem Qt (x:Bool):AV.cells (.v (.b x))=[.v (.b x)]:=rfl
theorem T2 (x:Bool):PV.one (.b x)=true:=rfl
theorem QE (x:Bool):AV.mB (.v (.b x))=true:=rfl
theorem T0 (k:IntKind) (n:Int):PV.cells (.i k n)=[.i k n]:=rfl
theorem Qu (k:IntKind) (n:Int):AV.cells (.v (.i k n))=[.v (.i k n)]:=rfl
theorem T3 (k:IntKind) (n:Int):PV.one (.i k n)=true:=rfl
theorem QF (k:IntKind) (n:Int):AV.mB (.v (.i k n))=true:=rfl
theorem T1 (x:Bytes):PV.cells (.s x)=[.s x]:=rfl
theorem Qv (x:Bytes):AV.cells (.v (.s x))=[.v (.s x)]:=rfl
theorem T4 (x:Bytes):PV.one (.s x)=true:=rfl
theorem QG (x:Bytes):AV.mB (.v (.s x))=true:=rfl
theorem N5 (l:List PV):PV.cells (.tup l)=[.tup l]:=rfl
theorem ID (l:List PV):AV.cells (.v (.tup l))=[.v (.tup l)]:=rfl
theorem Oa (l:List PV):PV.one (.tup l)=false:=rfl
theorem IJ (l:List PV):AV.mB (.v (.tup l))=false:=rfl
theorem R9 (l:List PV):PV.cells (.sl l)=[.sl l]:=rfl
theorem Mr (l:List PV):AV.cells (.v (.sl l))=[.v (.sl l)]:=rfl
theorem Se (l:List PV):PV.one (.sl l)=true:=rfl
theorem Mz (l:List PV):AV.mB (.v (.sl l))=true:=rfl
theorem R6 (f:Fn):PV.cells (.fn f)=[.fn f]:=rfl
theorem Mo (f:Fn):AV.cells (.v (.fn f))=[.v (.fn f)]:=rfl
theorem Sb (f:Fn):PV.one (.fn f)=true:=rfl
theorem Mw (f:Fn):AV.mB (.v (.fn f))=true:=rfl
theorem N2:PV.cells (.fn0)=[.fn0]:=rfl
theorem IA:AV.cells (.v (.fn0))=[.v (.fn0)]:=rfl
theorem N7:PV.one (.fn0)=true:=rfl
theorem IG:AV.mB (.v (.fn0))=true:=rfl
theorem R7:PV.cells (.p0)=[.p0]:=rfl
theorem Mp:AV.cells (.v (.p0))=[.v (.p0)]:=rfl
theorem Sc:PV.one (.p0)=true:=rfl
theorem Mx:AV.mB (.v (.p0))=true:=rfl
theorem N3:PV.cells (.if0)=[.if0]:=rfl
theorem IB:AV.cells (.v (.if0))=[.v (.if0)]:=rfl
theorem N8:PV.one (.if0)=true:=rfl
theorem IH:AV.mB (.v (.if0))=true:=rfl
theorem N4 (t:TypeId) (v:PV):PV.cells (.ifc t v)=[.ifc t v]:=rfl
theorem IC (t:TypeId) (v:PV):AV.cells (.v (.ifc t v))=[.v (.ifc t v)]:=rfl
theorem N9 (t:TypeId) (v:PV):PV.one (.ifc t v)=true:=rfl
theorem II (t:TypeId) (v:PV):AV.mB (.v (.ifc t v))=true:=rfl
theorem N6 (l:List PV):PV.one (.agg l)=false:=rfl
theorem Iz (l:List PV):AV.cells (.v (.agg l))=l.map .v:=rfl
theorem IE (l:List PV):AV.mB (.v (.agg l))=true:=rfl
theorem Th (n v o:Nat):AV.cells (.p n v o)=[.p n v o]:=rfl
theorem Tk (n v o:Nat):AV.mB (.p n v o)=true:=rfl
theorem Tm (n v o:Nat):AV.one (.p n v o)=true:=rfl
theorem Qp (x:PV) (o:Nat):AV.cells (.pp x o)=[.pp x o]:=rfl
theorem QA (x:PV) (o:Nat):AV.mB (.pp x o)=true:=rfl
theorem QK (x:PV) (o:Nat):AV.one (.pp x o)=true:=rfl
theorem Qq (n v o l z:Nat):AV.cells (.rs n v o l z)=[.rs n v o l z]:=rfl
theorem QB (n v o l z:Nat):AV.mB (.rs n v o l z)=true:=rfl
theorem QL (n v o l z:Nat):AV.one (.rs n v o l z)=true:=rfl
theorem Qn (l:List PV):AV.cells (.fs l)=[.fs l]:=rfl
theorem Qy (l:List PV):AV.mB (.fs l)=true:=rfl
theorem QI (l:List PV):AV.one (.fs l)=true:=rfl
theorem Qr:AV.cells (.sn)=[.sn]:=rfl
theorem QC:AV.mB (.sn)=true:=rfl
theorem QM:AV.one (.sn)=true:=rfl
theorem Qm (f:Fn) (a c:List AV):AV.cells (.fn f a c)=[.fn f a c]:=rfl
theorem Qw (f:Fn) (a c:List AV):AV.mB (.fn f a c)=true:=rfl
theorem QH (f:Fn) (a c:List AV):AV.one (.fn f a c)=true:=rfl
theorem R8 (x:PV) (o:Nat):PV.cells (.pt x o)=[.pt x o]:=rfl
theorem Mq (x:PV) (o:Nat):AV.cells (.v (.pt x o))=[.v (.pt x o)]:=rfl
theorem Sd (x:PV) (o:Nat):PV.one (.pt x o)=true:=rfl
theorem My (x:PV) (o:Nat):AV.mB (.v (.pt x o))=true:=rfl
theorem R5 (f:FuncId) (a c:List PV):PV.cells (.fc f a c)=[.fc f a c]:=rfl
theorem Mn (f:FuncId) (a c:List PV):AV.cells (.v (.fc f a c))=[.v (.fc f a c)]:=rfl
theorem Sa (f:FuncId) (a c:List PV):PV.one (.fc f a c)=true:=rfl
theorem Mv (f:FuncId) (a c:List PV):AV.mB (.v (.fc f a c))=true:=rfl
theorem Qs:AV.cells (.ub)=[.ub]:=rfl
theorem QD:AV.mB (.ub)=true:=rfl
theorem QO:AV.one (.ub)=true:=rfl
theorem Qo (n:Nat):AV.cells (.mp n)=[.mp n]:=rfl
theorem Qz (n:Nat):AV.mB (.mp n)=true:=rfl
theorem QJ (n:Nat):AV.one (.mp n)=true:=rfl
theorem Ti:AV.cells (.u)=[.u]:=rfl
theorem Tl:AV.mB (.u)=false:=rfl
theorem Tn:AV.one (.u)=false:=rfl
theorem Mm (l:List AV):AV.cells (.tup l)=[.tup l]:=rfl
theorem Mu (l:List AV):AV.mB (.tup l)=false:=rfl
theorem MB (l:List AV):AV.one (.tup l)=false:=rfl
theorem Ml (l:List AV):AV.cells (.agg l)=l:=rfl
theorem Mt (l:List AV):AV.mB (.agg l)=l.all AV.one:=rfl
theorem MA (l:List AV):AV.one (.agg l)=false:=rfl
theorem To (x:PV):AV.one (.v x)=x.one:=rfl
theorem Ms (l:List AV):AV.isAgg (.agg l)=True:=rfl
theorem Tj (l:List PV):AV.isAgg (.v (.agg l))=True:=rfl
attribute [irreducible] KW CW RW OW CR GR BX PX CV Bc LI
def Q0:Nat→List PV→List (Nat×AV)
 | _,[]=>[]
 |i,x::l=>(i, .v x)::Q0 (i+1) l
def GV:Nat→List AV→List (Nat×AV)
 | _,[]=>[]
 |i,x::l=>(i,x)::GV (i+1) l
def GW:Nat→List ax→List (Nat×ax)
 | _,[]=>[]
 |i,x::l=>(i,x)::GW (i+1) l
theorem Q1 (l:List PV):l.mapIdx (fun i x=>(i,AV.v x))=Q0 0 l:=by
 have: ∀(l:List PV) (k:Nat),l.mapIdx (fun i x=>(i+k,AV.v x))=Q0 k l:=by
  intro l
  induction l with
  |nil=>intro k;rfl
  |cons x l ih=>
   intro k;rw[l8,Q0,←ih (k+1)];have e:(fun i (x:PV)=>(i+1+k,AV.v x))=fun i x=>(i+(k+1),AV.v x):=by funext i x;congr 1;omega
   rw[e];simp
 exact this l 0
theorem MZ (l:List AV):l.mapIdx (fun i x=>(i,x))=GV 0 l:=by
 have: ∀(l:List AV) (k:Nat),l.mapIdx (fun i x=>(i+k,x))=GV k l:=by
  intro l
  induction l with
  |nil=>intro k;rfl
  |cons x l ih=>
   intro k;rw[l8,GV,←ih (k+1)];have e:(fun i (x:AV)=>(i+1+k,x))=fun i x=>(i+(k+1),x):=by funext i x;congr 1;omega
   rw[e];simp
 exact this l 0
theorem M9 (l:List ax):l.mapIdx (fun i x=>(i,x))=GW 0 l:=by
 have: ∀(l:List ax) (k:Nat),l.mapIdx (fun i x=>(i+k,x))=GW k l:=by
  intro l
  induction l with
  |nil=>intro k;rfl
  |cons x l ih=>
   intro k;rw[l8,GW,←ih (k+1)];have e:(fun i (x:ax)=>(i+1+k,x))=fun i x=>(i+(k+1),x):=by funext i x;congr 1;omega
   rw[e];simp
 exact this l 0
theorem aD.w {P:Program} [bT P] (hm:P.follows .mixedOrders=true) {f:FuncId} {fn:Func} {sc:SC} {rs:List nS} (hent:Enters P f f) (hfn:P.funcs[f]?=some fn) (hb:fn.body.isSome=true) (hc:comp P fn.ntmps (fn.body.getD .skip)=some sc) (hr:fB P fn.results.toList=some rs)
  {args:List PV} {r:PV} (hlen:Nat.ble args.length fn.ntmps=true) (h:CW P (Gq rs r) sc [] ⟨Q0 0 args,[],1000⟩):aD P f args r:=
 aD.mk' hm hent hfn hb hc hr (bQ hlen) (by rw[Q1];exact CW.start h)
theorem ik.w {P:Program} [bT P] (hm:P.follows .mixedOrders=true) {f:FuncId} {fn:Func} {sc:SC} {rs:List nS} (hent:Enters P f f) (hfn:P.funcs[f]?=some fn) (hb:fn.body.isSome=true) (hc:comp P fn.ntmps (fn.body.getD .skip)=some sc) (hr:fB P fn.results.toList=some rs)
  {obs:List ax} {args:List AV} {fs:List (Option (Option ax))} {j:Option Nat} {nw:Option ax} {v:AV} (hlen:Nat.ble args.length fn.ntmps=true) (h:CW P (fU rs obs fs j nw v) sc [] ⟨GV 0 args,GW 0 obs,1000⟩)
  {ns:List Nat} {nm:Nat} {obsA:List ax} {avs:List AV} {v':AV} {up:List (Nat×Option ax)} (hns:ns.length≤1000) (hnd:ns.Nodup) (hln:ns.length=obsA.length) (hob:aQ (ax.aI (cf ns)) obsA=some obs) (hav:aQ (AV.aI (cf ns)) avs=some args)
  (hv:v.aI (fV ns nm)=some v') (hup:eH ns nm fs nw=some up):ik P f nm (ns.zip obsA) avs v' up:=
 ik.mk' hm hent hfn hb hc hr (bQ hlen) (by rw[MZ,M9];exact h) hns hnd hln hob hav hv hup
attribute [go_sem] Bool.not_true Bool.not_false eq_self implies_true imp_false not_false_eq_true LU PZ PT LQ LS LR PW PU P5 L4 L3 L5 L1 L0 L2 P3 P2 P4 LZ S9 AV.off AV.off.offL P7 P6 P8 oh Qe Tc XW Tb L7 L6 U8 SZ SU SY SS Ig U4 S7 S1 SV OZ OY PO U1 U2 SW Ve Vd GD GF Lq Lr dU cv cR SX.ev aF CU Eo ar JL BN jZ AS.sM AS.set Nr Ox L8 UX Tg Ma Mc Mb L9 Md lenOf bounds oi qn AV.TY AV.A8 AV.Py DJ iF aQ N1 TZ Qt T2 QE T0 Qu T3 QF T1 Qv T4 QG N5 ID Oa IJ R9 Mr Se Mz R6 Mo Sb Mw N2 IA N7 IG R7 Mp Sc Mx N3 IB N8 IH N4 IC N9 II N6 Iz IE Th Tk Tm Qp QA QK Qq QB QL Qn Qy QI Qr QC QM Qm Qw QH Ti Tl Tn Qo Qz QJ Mm Mu MB Ml Mt MA To Ms Tj u8 allM_nil allM_cons QR vX Mf Gs DO ne_eq Int.cast_ofNat_Int Tt Tu List.flatten_cons List.flatten_nil List.flatMap_cons List.flatMap_nil IntKind.bits Nat.min_def List.take_length Ai List.length_map IntWalk.i64_in IntWalk.u8_in IntWalk.u64_in decide_true decide_false Int.toNat_natCast Int.toNat_zero Int.toNat_one ite_true ite_false List.length_cons List.length_nil List.map_cons List.map_nil List.all_cons List.all_nil Bool.and_true Bool.true_and Bool.and_self Option.map_some Option.map_none List.take_succ_cons List.take_zero List.drop_succ_cons List.drop_zero List.take_nil List.drop_nil List.getD_cons_zero List.getD_cons_succ List.nil_append List.cons_append List.append_nil Nat.zero_add Nat.add_zero Nat.le_refl true_and and_true and_self true_implies forall_const Nat.mul_one Nat.one_mul O4 kO iD jj Dp List.isEmpty_cons List.isEmpty_nil Bool.or_true Bool.true_or Bool.false_or Bool.or_false Bool.and_false Bool.false_and Gq HM Eb view wD Ir Iq Me Is Q0 GV GW AV.nz PV.nz R8 Mq Sd My R5 Mn Sa Mv Qs QD QO S5 S6
end Go.Dom
