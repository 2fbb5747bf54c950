/-
  Part of the proof, part KR15. Own work.
-/
import Derived.IntWalk
import Derived.Attr
import Derived.Test.YtmobkhegihemeaaGreatDoorKR14
set_option linter.all false
namespace Go.Dom
open Go.RowKit
inductive Fr where
 |seq (b:SC)
 |blk (id:Nat)
 |lp (R:AS→Prop)
 |asg (b:SC)
 |rg (t0:List (Nat×AV)) (R:AS→Prop)
 |bk (ns:List Nat) (t0:List (Nat×AV)) (obs:List (Nat×Option aq))
def KW (P:Program) [aV P] (Q:AX→AS→Prop):List Fr→AX→AS→Prop
 |[],e,s=>Q e s
 | .seq b::K, .normal,s=>aw P b (KW P Q K) s
 | .seq _::K, .exit j,s=>KW P Q K (.exit j) s
 | .seq _::K, .ret,s=>KW P Q K .ret s
 | .blk _::K, .normal,s=>KW P Q K .normal s
 | .blk id::K, .exit j,s=>if j=id then KW P Q K .normal s else KW P Q K (.exit j) s
 | .blk _::K, .ret,s=>KW P Q K .ret s
 | .lp R:: _, .normal,s=>R s
 | .lp _::K, .exit j,s=>KW P Q K (.exit j) s
 | .lp _::K, .ret,s=>KW P Q K .ret s
 | .asg b::K, .normal,s=>aw P b (KW P Q K) s
 | .asg _:: _, .exit _,_=>False
 | .asg _:: _, .ret,_=>False
 | .bk ns t0 obs::K,e,s=>(∀p∈s.h,∀c∈p.2.cells,c.off ns=true)∧KW P Q K e ⟨t0,fO s.h obs,s.nx⟩
 | .rg t0 R:: _, .normal,s=>R {s with t:=t0}
 | .rg t0 _::K, .exit j,s=>KW P Q K (.exit j) {s with t:=t0}
 | .rg t0 _::K, .ret,s=>KW P Q K .ret {s with t:=t0}
section
variable (P:Program) [aV P] (Q:AX→AS→Prop)
def CW (sc:SC) (K:List Fr) (s:AS):Prop:=aw P sc (KW P Q K) s
def H0 (bf:Option (List Nat)) (tr:List (Nat×List Nat×List Nat)):Prop:=
 match bf with
 |none=>True
 |some b=>Km b tr=true
def th (bf:Option (List Nat)) (k:Nat) (rs:List Nat) (up:List (Nat×Option aq)) (tr:List (Nat×List Nat×List Nat)):List (Nat×List Nat×List Nat):=
 match bf with
 |none=>[]
 |some _=>(k,rs,up.map (·.1))::tr
def RW (nx:Nat) (bf:Option (List Nat)) (n:Nat) (ops:List eR) (k:Nat) (s:AS) (tr:List (Nat×List Nat×List Nat)) (K:List Fr):Prop:=
 match bf with
 |none=>kH P nx ops k s fun s'=>KW P Q K .normal {s' with nx:=n}
 |some b=>rI P nx ops k s tr fun s' tr=>Km b tr=true∧KW P Q K .normal {s' with nx:=n}
def OW (nx:Nat) (bf:Option (List Nat)) (n:Nat) (x:Option AO) (d:Option Nat) (ops:List eR) (k:Nat) (s:AS) (tr:List (Nat×List Nat×List Nat)) (K:List Fr):Prop:=
 CH x fun ao=>RW P Q nx bf n ops (k+1) (s.nW d ao.v ao.up) (th bf k ao.rs ao.up tr) K
def CR (nx:Nat) (bf:Option (List Nat)) (n:Nat) (nm:Nat) (fv:AV) (avs:List AV) (d:Option Nat) (ops:List eR) (k:Nat) (s:AS) (tr:List (Nat×List Nat×List Nat)) (K:List Fr):Prop:=
 zU P nm s.h fv avs fun ao=>RW P Q nx bf n ops (k+1) (s.nW d ao.v ao.up) (th bf k ao.rs ao.up tr) K
def GR (nx:Nat) (bf:Option (List Nat)) (n:Nat) (v:AV) (t:Nat) (want:Bool) (d:Option Nat) (o:SO) (ops:List eR) (k:Nat) (s:AS) (tr:List (Nat×List Nat×List Nat)) (K:List Fr):Prop:=
 IA v t want s (fun s=>RW P Q nx bf n (⟨d,o,none⟩::ops) k s tr K) (fun s=>RW P Q nx bf n ops (k+1) (s.nW d (.v (.tup [])) []) (th bf k [] [] tr) K)
def CV (v:AV) (a b:SC) (K:List Fr) (s:AS):Prop:=Ao v (CW P Q a K s) (CW P Q b K s)
inductive BK where
 |cw (a b:SC) (K:List Fr) (s:AS)
 |gd (nx:Nat) (bf:Option (List Nat)) (n:Nat) (t:Nat) (want:Bool) (d:Option Nat) (o:SO) (ops:List eR) (k:Nat) (s:AS) (tr:List (Nat×List Nat×List Nat)) (K:List Fr)
 |ng (κ:BK)
def BX (c:Bool):BK→Prop
 | .cw a b K s=>pA c (CW P Q a K s) (CW P Q b K s)
 | .gd nx bf n t want d o ops k s tr K=>GR P Q nx bf n (.v (.b c)) t want d o ops k s tr K
 | .ng κ=>BX (!c) κ
def PX (p:Prop) (κ:BK):Prop:=(p→BX P Q true κ)∧(¬p→BX P Q false κ)
def G5 (ps:List Nat) (a b:SC) (K:List Fr) (t0:List (Nat×AV)) (N:Nat) (fin:Bool) (xs:List (List PV)) (s:AS):Prop:=
 Og (fun y Qx s1=>aw P a (fun e s2=>match e with
  | .normal=>aw P b Qx s2
  | _=>False) {s1 with t:=jZ s1.t ps y}) (KW P Q K) t0 N fin xs s
def vF (a:SC) (K:List Fr) (N:Nat) (s:AS):Prop:=nY (aw P a) (KW P Q K) N s
variable {P Q}
theorem CW.start {sc:SC} {s:AS} (h:CW P Q sc [] s):aw P sc Q s:=by
 have:KW P Q []=Q:=by funext e s;rfl
 unfold CW at h;rw[this]at h;exact h
theorem ew.mk' {f:FuncId} {fn:Func} {sc:SC} {rs:List jM} (hm:P.follows .mixedOrders=true) (hent:Enters P f f) (hfn:P.funcs[f]?=some fn) (hb:fn.body.isSome=true) (hc:comp P fn.ntmps (fn.body.getD .skip)=some sc) (hr:dC P fn.results.toList=some rs)
  {obs:List aq} {args:List AV} {fs:List (Option (Option aq))} {j:Option Nat} {nw:Option aq} {v:AV} (hlen:args.length≤fn.ntmps) (h:CW P (dN rs obs fs j nw v) sc [] ⟨args.mapIdx (fun i x=>(i,x)),obs.mapIdx (fun i x=>(i,x)),1000⟩)
  {ns:List Nat} {nm:Nat} {obsA:List aq} {avs:List AV} {v':AV} {up:List (Nat×Option aq)} (hns:ns.length≤1000) (hnd:ns.Nodup) (hln:ns.length=obsA.length) (hob:aI (aq.aC (aY ns)) obsA=some obs) (hav:aI (AV.aC (aY ns)) avs=some args)
  (hv:v.aC (dO ns nm)=some v') (hup:cI ns nm fs nw=some up):ew P f nm (ns.zip obsA) avs v' up:=by
 obtain⟨code,hcode⟩:=Option.isSome_iff_exists.1 hb;rw[hcode]at hc;exact ew.FK hm hent hfn hcode hc hr hlen (CW.start h) hns hnd hln hob hav hv hup
theorem Hd (K:List Fr) (s:AS):CW P Q .skip K s=KW P Q K .normal s:=rfl
theorem KZ (a b:SC) (K:List Fr) (s:AS):CW P Q (.seq a b) K s=CW P Q a (.seq b::K) s:=by
 simp only[CW,aw];congr 1
 funext e s'
 cases e<;>rfl
theorem KV (id:Nat) (a:SC) (K:List Fr) (s:AS):CW P Q (.blk id a) K s=CW P Q a (.blk id::K) s:=by
 simp only[CW,aw];congr 1
 funext e s'
 cases e<;>rfl
theorem Ha (x:SX) (a b:SC) (K:List Fr) (s:AS):CW P Q (.cond x a b) K s=CV P Q (x.ev (aD s.t)) a b K s:=rfl
theorem Qd (c:Bool) (a b:SC) (K:List Fr) (s:AS):CV P Q (.v (.b c)) a b K s=BX P Q c (.cw a b K s):=rfl
theorem N1 (a b:SC) (K:List Fr) (s:AS):BX P Q true (.cw a b K s)=CW P Q a K s:=by simp only[BX,kS]
theorem NX (a b:SC) (K:List Fr) (s:AS):BX P Q false (.cw a b K s)=CW P Q b K s:=by simp only[BX,jO]
theorem Kd (κ:BK):BX P Q true (.ng κ)=BX P Q false κ:=by simp only[BX,Bool.not_true]
theorem Kc (κ:BK):BX P Q false (.ng κ)=BX P Q true κ:=by simp only[BX,Bool.not_false]
theorem KS (c:Bool) (κ:BK):BX P Q (!c) κ=BX P Q c (.ng κ):=by simp only[BX]
theorem G8 {c:Bool} {κ:BK} (h:c=true):BX P Q c κ=BX P Q true κ:=by rw[h]
theorem G7 {c:Bool} {κ:BK} (h:c=false):BX P Q c κ=BX P Q false κ:=by rw[h]
theorem Dw {p:Prop} {κ:BK} (h:p):PX P Q p κ=BX P Q true κ:=by simp only[PX,h,true_implies,not_true_eq_false,false_implies,and_true]
theorem Dv {p:Prop} {κ:BK} (h: ¬p):PX P Q p κ=BX P Q false κ:=by simp only[PX,h,false_implies,not_false_eq_true,true_implies,true_and]
theorem Qn (κ:BK):PX P Q True κ=BX P Q true κ:=Dw trivial
theorem Qm (κ:BK):PX P Q False κ=BX P Q false κ:=Dv id
theorem Qa (p:Prop) [Decidable p] (κ:BK):BX P Q (decide p) κ=PX P Q p κ:=by
 by_cases h:p
 ·rw[G8 (decide_eq_true h),Dw h]
 ·rw[G7 (decide_eq_false h),Dv h]
theorem Qb (x y:Int) (κ:BK):BX P Q (x==y) κ=PX P Q (x=y) κ:=by
 by_cases h:x=y
 ·rw[G8 (by simpa using h),Dw h]
 ·rw[G7 (by simpa using h),Dv h]
theorem NY (x y:Int) (κ:BK):BX P Q (x !=y) κ=PX P Q (x=y) (.ng κ):=by
 by_cases h:x=y
 ·rw[G7 (by simpa using h),Dw h,Kd]
 ·rw[G8 (by simpa using h),Dv h,Kc]
theorem BX.mk {c:Bool} {κ:BK} (h1:c=true→BX P Q true κ) (h2:c=false→BX P Q false κ):BX P Q c κ:=by
 cases c
 ·exact h2 rfl
 ·exact h1 rfl
theorem PX.mk {p:Prop} {κ:BK} (h1:p→BX P Q true κ) (h2: ¬p→BX P Q false κ):PX P Q p κ:=⟨h1,h2⟩
theorem N7 (a b:SC) (K:List Fr) (s:AS):CV P Q .ub a b K s=(CW P Q a K s∧CW P Q b K s):=rfl
theorem Hc (a:SC) (K:List Fr) (s:AS):CW P Q (.loop a) K s=vF P Q a K s.nx s:=rfl
theorem Hb (id:Nat) (K:List Fr) (s:AS):CW P Q (.exit id) K s=KW P Q K (.exit id) s:=rfl
theorem KY (K:List Fr) (s:AS):CW P Q .ret K s=KW P Q K .ret s:=rfl
theorem KX (bf:Option (List Nat)) (ops:List eR) (K:List Fr) (s:AS):CW P Q (.reg bf ops) K s=RW P Q s.nx bf (s.nx+ops.length) ops 0 s [] K:=by
 cases bf<;>rfl
theorem K6 (e:AX) (s:AS):KW P Q [] e s=Q e s:=rfl
theorem Hn (b:SC) (K:List Fr) (s:AS):KW P Q (.seq b::K) .normal s=CW P Q b K s:=rfl
theorem Hm (b:SC) (K:List Fr) (j:Nat) (s:AS):KW P Q (.seq b::K) (.exit j) s=KW P Q K (.exit j) s:=rfl
theorem Ho (b:SC) (K:List Fr) (s:AS):KW P Q (.seq b::K) .ret s=KW P Q K .ret s:=rfl
theorem Hk (i:Nat) (K:List Fr) (s:AS):KW P Q (.blk i::K) .normal s=KW P Q K .normal s:=rfl
theorem Hj (i:Nat) (K:List Fr) (j:Nat) (s:AS):KW P Q (.blk i::K) (.exit j) s=if j=i then KW P Q K .normal s else KW P Q K (.exit j) s:=rfl
theorem Hl (i:Nat) (K:List Fr) (s:AS):KW P Q (.blk i::K) .ret s=KW P Q K .ret s:=rfl
theorem Dq {x:SX} {ps:List Nat} {a b:SC} {K:List Fr} {s:AS} {g:FuncId} {caps:List PV} {fin:Bool} {xs:List (List PV)} (hi:P5 P g caps fin xs) (hx:x.ev (aD s.t)= .v (.fc g [] caps)) (hl: ∀y∈xs,y.length=ps.length) (h:G5 P Q ps a b K s.t s.nx fin xs s):CW P Q (.rng x ps a b) K s:=by
 have e:kI [] s (KW P Q K)=KW P Q K:=by funext e s';simp[kI]
 refine⟨g,caps,fin,xs,[],by rw[hx];rfl,by rw[hx];simp[aH],by simp,hi,fun y hy=>⟨hl y hy, .inl rfl⟩,?_⟩
 rw[e];exact h
section
variable {ps:List Nat} {a b:SC} {K:List Fr} {t0:List (Nat×AV)} {N:Nat} {s:AS} {fin:Bool}
theorem Nv (h:KW P Q K .normal s):G5 P Q ps a b K t0 N true [] s:=fun X h1 _ _=>h1 _ rfl h
theorem Bh {s':AS} {ys:List (List PV)} (hN:N≤s'.nx) (hle:s'.Le s) (h:G5 P Q ps a b K t0 N fin ys s'):G5 P Q ps a b K t0 N fin ys s:=fun X h1 h2 h3=>h3 ys s' s hN hle (h X h1 h2 h3)
theorem JC {y:List PV} {ys:List (List PV)} (h:CW P Q a (.asg b:: .rg t0 (G5 P Q ps a b K t0 N fin ys)::K) {s with t:=jZ s.t ps y}):G5 P Q ps a b K t0 N fin (y::ys) s:=by
 intro X h1 h2 h3;refine h2 y ys s (ka (fun e s2 hs=> ?_) h)
 cases e with
 |normal=>
  refine ka (fun e s3 hs3=> ?_) hs
  cases e with
  |normal=>exact hs3 X h1 h2 h3
  |exit j=>exact hs3
  |ret=>exact hs3
 |exit j=>exact hs
 |ret=>exact hs
theorem Bg {xs:List (List PV)} {α:Type} (st:α→AS) (ok:List (List PV)→α→Prop) (a0:α) (hN: ∀x,N≤(st x).nx) (h0:ok xs a0) (hle:(st a0).Le s) (hnil: ∀x,ok [] x→fin=true∧KW P Q K .normal (st x))
  (hcons: ∀y ys x,ok (y::ys) x→ ∀R:AS→Prop,(∀x',ok ys x'→ ∀s',(st x').Le s'→R s')→CW P Q a (.asg b:: .rg t0 R::K) {st x with t:=jZ (st x).t ps y}):G5 P Q ps a b K t0 N fin xs s:=by
 refine Bh (hN a0) hle ?_;clear hle
 induction xs generalizing a0 with
 |nil=>
  obtain⟨rfl,h⟩:=hnil a0 h0;exact Nv h
 |cons y ys ih=>exact JC (hcons y ys a0 h0 _ fun x' hx' s' hs'=>Bh (hN x') hs' (ih x' hx'))
theorem Nw {xs:List (List PV)} {α:Type} (st:α→AS) (ok:List (List PV)→α→Prop) (a0:α) (hN: ∀x,N≤(st x).nx) (h0:ok xs a0) (hle:(st a0).Le s) (hnil: ∀x,ok [] x→KW P Q K .normal (st x))
  (hcons: ∀y ys x,ok (y::ys) x→ ∀R:AS→Prop,(∀x',ok ys x'→ ∀s',(st x').Le s'→R s')→CW P Q a (.asg b:: .rg t0 R::K) {st x with t:=jZ (st x).t ps y}):G5 P Q ps a b K t0 N true xs s:=
 Bg st ok a0 hN h0 hle (fun x h=>⟨rfl,hnil x h⟩) hcons
theorem JD {xs:List (List PV)} {α:Type} (st:α→AS) (ok:List (List PV)→α→Prop) (a0:α) (hN: ∀x,N≤(st x).nx) (h0:ok xs a0) (hle:(st a0).Le s) (hnil: ∀x,¬ok [] x)
  (hcons: ∀y ys x,ok (y::ys) x→ ∀R:AS→Prop,(∀x',ok ys x'→ ∀s',(st x').Le s'→R s')→CW P Q a (.asg b:: .rg t0 R::K) {st x with t:=jZ (st x).t ps y}):G5 P Q ps a b K t0 N false xs s:=
 Bg st ok a0 hN h0 hle (fun x h=>(hnil x h).elim) hcons
end
theorem Hi (b:SC) (K:List Fr) (s:AS):KW P Q (.asg b::K) .normal s=CW P Q b K s:=rfl
theorem Ob (ns:List Nat) (t0:List (Nat×AV)) (obs:List (Nat×Option aq)) (K:List Fr) (e:AX) (s:AS):KW P Q (.bk ns t0 obs::K) e s=((∀p∈s.h,∀c∈p.2.cells,c.off ns=true)∧KW P Q K e ⟨t0,fO s.h obs,s.nx⟩):=rfl
theorem K8 (t0:List (Nat×AV)) (R:AS→Prop) (K:List Fr) (s:AS):KW P Q (.rg t0 R::K) .normal s=R ⟨t0,s.h,s.nx⟩:=rfl
theorem K7 (t0:List (Nat×AV)) (R:AS→Prop) (K:List Fr) (j:Nat) (s:AS):KW P Q (.rg t0 R::K) (.exit j) s=KW P Q K (.exit j) ⟨t0,s.h,s.nx⟩:=rfl
theorem K9 (t0:List (Nat×AV)) (R:AS→Prop) (K:List Fr) (s:AS):KW P Q (.rg t0 R::K) .ret s=KW P Q K .ret ⟨t0,s.h,s.nx⟩:=rfl
theorem K4 (R:AS→Prop) (K:List Fr) (s:AS):KW P Q (.lp R::K) .normal s=R s:=rfl
theorem K3 (R:AS→Prop) (K:List Fr) (j:Nat) (s:AS):KW P Q (.lp R::K) (.exit j) s=KW P Q K (.exit j) s:=rfl
theorem K5 (R:AS→Prop) (K:List Fr) (s:AS):KW P Q (.lp R::K) .ret s=KW P Q K .ret s:=rfl
section
variable (nx:Nat) (bf:Option (List Nat)) (n:Nat) (d:Option Nat) (ops:List eR) (k:Nat) (s:AS) (tr:List (Nat×List Nat×List Nat)) (K:List Fr)
theorem Lf:RW P Q nx bf n [] k s tr K=(H0 bf tr∧KW P Q K .normal {s with nx:=n}):=by
 cases bf
 ·simp only[RW,kH,H0,true_and]
 ·rfl
def XW (P:Program) [aV P] (Q:AX→AS→Prop) (nx:Nat) (bf:Option (List Nat)) (n:Nat) (o:SO) (d:Option Nat) (ops:List eR) (k:Nat) (s:AS) (tr:List (Nat×List Nat×List Nat)) (K:List Fr):Prop:=
 match o with
 | .call f args=>CR P Q nx bf n (nx+k) (f.ev (aD s.t)) (args.map (SX.ev (aD s.t))) d ops k s tr K
 |o=>OW P Q nx bf n (cz (nx+k) o (aD s.t) (ai s.h)) d ops k s tr K
theorem Of (o:SO):RW P Q nx bf n (⟨d,o,none⟩::ops) k s tr K=XW P Q nx bf n o d ops k s tr K:=by
 cases o<;>cases bf<;>rfl
theorem Oe (o:SO) (t:Nat) (want:Bool):RW P Q nx bf n (⟨d,o,some (t,want)⟩::ops) k s tr K=GR P Q nx bf n (aD s.t t) t want d o ops k s tr K:=by
 cases bf<;>rfl
theorem Hq (v:AV) (p:Prop) (rs:List Nat) (up:List (Nat×Option aq)):OW P Q nx bf n (some ⟨v,p,rs,up⟩) d ops k s tr K=(p∧RW P Q nx bf n ops (k+1) (s.nW d v up) (th bf k rs up tr) K):=rfl
theorem Hp:OW P Q nx bf n none d ops k s tr K=False:=rfl
theorem Qh (x:Bool) (t:Nat) (want:Bool) (o:SO):GR P Q nx bf n (.v (.b x)) t want d o ops k s tr K=BX P Q x (.gd nx bf n t want d o ops k s tr K):=rfl
theorem N0 (t:Nat) (o:SO):BX P Q true (.gd nx bf n t true d o ops k s tr K)=RW P Q nx bf n (⟨d,o,none⟩::ops) k (s.set t (.v (.b true))) tr K:=by simp only[BX,GR,IA,kS]
theorem NW (t:Nat) (o:SO):BX P Q false (.gd nx bf n t true d o ops k s tr K)=RW P Q nx bf n ops (k+1) ((s.set t (.v (.b false))).nW d (.v (.tup [])) []) (th bf k [] [] tr) K:=by simp only[BX,GR,IA,jO]
theorem NZ (t:Nat) (o:SO):BX P Q true (.gd nx bf n t false d o ops k s tr K)=RW P Q nx bf n ops (k+1) ((s.set t (.v (.b true))).nW d (.v (.tup [])) []) (th bf k [] [] tr) K:=by simp only[BX,GR,IA,kS]
theorem NV (t:Nat) (o:SO):BX P Q false (.gd nx bf n t false d o ops k s tr K)=RW P Q nx bf n (⟨d,o,none⟩::ops) k (s.set t (.v (.b false))) tr K:=by simp only[BX,GR,IA,jO]
theorem Dr (t:Nat) (want:Bool) (o:SO):GR P Q nx bf n (.v (.tup [])) t want d o ops k s tr K=RW P Q nx bf n ops (k+1) (s.nW d (.v (.tup [])) []) (th bf k [] [] tr) K:=by simp only[GR,IA]
theorem BN:H0 none tr=True:=rfl
theorem BO (b:List Nat):H0 (some b) tr=(Km b tr=true):=rfl
theorem GM (rs:List Nat) (up:List (Nat×Option aq)):th none k rs up tr=[]:=rfl
theorem GN (b:List Nat) (rs:List Nat) (up:List (Nat×Option aq)):th (some b) k rs up tr=(k,rs,up.map (·.1))::tr:=rfl
theorem cW {nx:Nat} {bf:Option (List Nat)} {n:Nat} {d:Option Nat} {ops:List eR} {k:Nat} {s:AS} {tr:List (Nat×List Nat×List Nat)} {K:List Fr} {nm:Nat} {f:FuncId} {avs:List AV} {pvs:List PV} {r:PV} (he:aB P f pvs r) (ha:iS avs=some pvs) (hK:RW P Q nx bf n ops (k+1) (s.nW d (.v r) []) (th bf k [] [] tr) K):
  CR P Q nx bf n nm (.v (.fn (.func f))) avs d ops k s tr K:=⟨_, .pure f avs pvs r rfl ha he,hK⟩
theorem N6 {nx:Nat} {bf:Option (List Nat)} {n:Nat} {d:Option Nat} {ops:List eR} {k:Nat} {s:AS} {tr:List (Nat×List Nat×List Nat)} {K:List Fr} {nm:Nat} {f:FuncId} {a c avs:List AV}:
  CR P Q nx bf n nm (.fn (.func f) a c) avs d ops k s tr K=CR P Q nx bf n nm (.v (.fn (.func f))) (a++(avs++c)) d ops k s tr K:=by
 have h: ∀ao,ga P nm (ai s.h) (.fn (.func f) a c) avs ao↔ga P nm (ai s.h) (.v (.fn (.func f))) (a++(avs++c)) ao:=by
  intro ao;constructor
  ·intro h
   cases h with
   |pure f avs pvs r hfv hargs he=>exact .pure f avs pvs r hfv hargs he
   |view f avs pvs r hfv hargs hr he=>exact .view f avs pvs r hfv hargs hr he
   |fq f avs pvs r hfv hargs hlo he=>exact .fq f avs pvs r hfv hargs hlo he
   |eff f avs hs v up hfv hhs he=>exact .eff f avs hs v up hfv hhs he
   |same f v hfv he=>exact .same f v hfv he
   |ext f avs pvs r hfv hargs he=>exact .ext f avs pvs r hfv hargs he
  ·intro h
   cases h with
   |pure f avs pvs r hfv hargs he=>exact .pure f avs pvs r hfv hargs he
   |view f avs pvs r hfv hargs hr he=>exact .view f avs pvs r hfv hargs hr he
   |fq f avs pvs r hfv hargs hlo he=>exact .fq f avs pvs r hfv hargs hlo he
   |eff f avs hs v up hfv hhs he=>exact .eff f avs hs v up hfv hhs he
   |same f v hfv he=>exact .same f v hfv he
   |ext f avs pvs r hfv hargs he=>exact .ext f avs pvs r hfv hargs he
 unfold CR zU;simp only[h]
theorem N5 {nx:Nat} {bf:Option (List Nat)} {n:Nat} {d:Option Nat} {ops:List eR} {k:Nat} {s:AS} {tr:List (Nat×List Nat×List Nat)} {K:List Fr} {nm:Nat} {f:FuncId} {a c:List PV} {avs:List AV}:
  CR P Q nx bf n nm (.v (.fc f a c)) avs d ops k s tr K=CR P Q nx bf n nm (.v (.fn (.func f))) (a.map .v++(avs++c.map .v)) d ops k s tr K:=by
 have h: ∀ao,ga P nm (ai s.h) (.v (.fc f a c)) avs ao↔ga P nm (ai s.h) (.v (.fn (.func f))) (a.map .v++(avs++c.map .v)) ao:=by
  intro ao;constructor
  ·intro h
   cases h with
   |pure f avs pvs r hfv hargs he=>exact .pure f avs pvs r hfv hargs he
   |view f avs pvs r hfv hargs hr he=>exact .view f avs pvs r hfv hargs hr he
   |fq f avs pvs r hfv hargs hlo he=>exact .fq f avs pvs r hfv hargs hlo he
   |eff f avs hs v up hfv hhs he=>exact .eff f avs hs v up hfv hhs he
   |same f v hfv he=>exact .same f v hfv he
   |ext f avs pvs r hfv hargs he=>exact .ext f avs pvs r hfv hargs he
  ·intro h
   cases h with
   |pure f avs pvs r hfv hargs he=>exact .pure f avs pvs r hfv hargs he
   |view f avs pvs r hfv hargs hr he=>exact .view f avs pvs r hfv hargs hr he
   |fq f avs pvs r hfv hargs hlo he=>exact .fq f avs pvs r hfv hargs hlo he
   |eff f avs hs v up hfv hhs he=>exact .eff f avs hs v up hfv hhs he
   |same f v hfv he=>exact .same f v hfv he
   |ext f avs pvs r hfv hargs he=>exact .ext f avs pvs r hfv hargs he
 unfold CR zU;simp only[h]
theorem ij {nx:Nat} {bf:Option (List Nat)} {n:Nat} {d:Option Nat} {ops:List eR} {k:Nat} {s:AS} {tr:List (Nat×List Nat×List Nat)} {K:List Fr} {nm:Nat} {f:FuncId} {avs:List AV} {pvs:List PV} {r:PV} (he:aB P f pvs r) (ha:aI (view (ai s.h) 9) avs=some pvs) (hr:r.flat=true) (hK:RW P Q nx bf n ops (k+1) (s.nW d (.v r) []) (th bf k (avs.flatMap (aH (ai s.h) 9)) [] tr) K):
  CR P Q nx bf n nm (.v (.fn (.func f))) avs d ops k s tr K:=⟨_, .view f avs pvs r rfl ha hr he,hK⟩
theorem gD {nx:Nat} {bf:Option (List Nat)} {n:Nat} {d:Option Nat} {ops:List eR} {k:Nat} {s:AS} {tr:List (Nat×List Nat×List Nat)} {K:List Fr} {nm:Nat} {f:FuncId} {avs:List AV} {pvs:List PV} {r:PV} (ns:List Nat) (he:aB P f pvs r) (hlo:ns.all (fun n=>decide (1000≤n))=true) (hv:avs.flatMap (aH (ai s.h) 9)=ns) (ha:aI (view (ai s.h) 9) avs=some pvs)
  (hK:RW P Q nx bf n ops (k+1) (s.nW d (.v r) (ns.map fun n=>(n,none))) (th bf k ns (ns.map fun n=>(n,none)) tr) K):
  CR P Q nx bf n nm (.v (.fn (.func f))) avs d ops k s tr K:=by
 subst hv;exact⟨_, .fq f avs pvs r rfl ha (fun n hn=>of_decide_eq_true (List.all_eq_true.1 hlo n hn)) he,hK⟩
theorem aP {nx:Nat} {bf:Option (List Nat)} {n:Nat} {d:Option Nat} {ops:List eR} {k:Nat} {s:AS} {tr:List (Nat×List Nat×List Nat)} {K:List Fr} {nm:Nat} {f:FuncId} {avs:List AV} {hs:List (Nat×aq)} {v:AV} {up:List (Nat×Option aq)} (he:ew P f nm hs avs v up) (hh: ∀p∈hs,ai s.h p.1=some p.2) (hK:RW P Q nx bf n ops (k+1) (s.nW d v up) (th bf k (hs.map (·.1)) up tr) K):
  CR P Q nx bf n nm (.v (.fn (.func f))) avs d ops k s tr K:=⟨_, .eff f avs hs v up rfl hh he,hK⟩
theorem G9 {nx:Nat} {bf:Option (List Nat)} {n:Nat} {d:Option Nat} {ops:List eR} {k:Nat} {s:AS} {tr:List (Nat×List Nat×List Nat)} {K:List Fr} {nm:Nat} {f:FuncId} {v:AV} (he:Qe P f) (hK:RW P Q nx bf n ops (k+1) (s.nW d v []) (th bf k [] [] tr) K):
  CR P Q nx bf n nm (.v (.fn (.func f))) [v] d ops k s tr K:=⟨_, .same f v rfl he,hK⟩
end
theorem KU {nx:Nat} {bf:Option (List Nat)} {n:Nat} {d:Option Nat} {ops:List eR} {k:Nat} {s:AS} {tr:List (Nat×List Nat×List Nat)} {K:List Fr} {nm:Nat} {f:FuncId} {avs:List AV} {pvs:List PV} {r:PV} (he:Qg P f pvs r) (ha:iS avs=some pvs) (hK:RW P Q nx bf n ops (k+1) (s.nW d (.v r) []) (th bf k [] [] tr) K):
  CR P Q nx bf n nm (.v (.fn (.func f))) avs d ops k s tr K:=⟨_, .ext f avs pvs r rfl ha he,hK⟩
theorem ae {a:SC} {K:List Fr} {N:Nat} {s:AS} (h:CW P Q a (.lp (vF P Q a K N)::K) s):vF P Q a K N s:=by
 refine oi (ka (fun e s' hs=> ?_) h)
 cases e<;>exact hs
theorem aj {a:SC} {K:List Fr} {N:Nat} {s:AS} {α:Type} (m:α→Nat) (st:α→AS) (ok:α→Prop) (a0:α) (hN: ∀x,N≤(st x).nx) (h0:ok a0) (hle:(st a0).Le s)
  (hr: ∀x,ok x→ ∀R:AS→Prop,(∀y,ok y→m y<m x→ ∀s',(st y).Le s'→R s')→CW P Q a (.lp R::K) (st x)):vF P Q a K N s:=by
 refine Ct m st ok a0 hN h0 hle fun x hx=> ?_
 refine ka (fun e s' hs=> ?_) (hr x hx (fun s'=> ∃y,ok y∧m y<m x∧(st y).Le s') fun y h1 h2 s' h3=>⟨y,h1,h2,h3⟩)
 cases e<;>exact hs
def bL (t:List (Nat×AV)) (n:Nat):List (Nat×AV)→Prop
 |[]=>True
 |(k,v)::r=>aD t k=v∧v.bd n=true∧bL t n r
def bK (h:List (Nat×aq)) (n:Nat):List (Nat×aq)→Prop
 |[]=>True
 |(k,v)::r=>ai h k=some v∧k<n∧(∀c∈v.cells,c.bd n=true)∧bK h n r
theorem AS.Le.OY {t t':List (Nat×AV)} {h h':List (Nat×aq)} {n n':Nat} (z:List (Nat×PV)) (ns:List Nat) (hns: ∀m∈ns,1000≤m∧ai h m=none) (hz: ∀q∈z,view (ai h') 9 (aD t' q.1)=some q.2∧ ∀m∈aH (ai h') 9 (aD t' q.1),m∈ns) (hn:n≤n') (ht:bL t' n t) (hh:bK h' n h):(AS.mk (z.map (fun q=>(q.1,AV.v q.2))++t) h n).Le ⟨t',h',n'⟩:=by
 have h1: ∀(t:List (Nat×AV)),bL t' n t→ ∀p∈t,aD t' p.1=p.2∧p.2.bd n=true:=by
  intro t
  induction t with
  |nil=>intro _ p hp;cases hp
  |cons q t ih=>
   obtain⟨k,v⟩:=q;intro hq p hp;rcases List.mem_cons.1 hp with rfl|hp
   ·exact⟨hq.1,hq.2.1⟩
   ·exact ih hq.2.2 p hp
 have h2: ∀(h:List (Nat×aq)),bK h' n h→ ∀p∈h,ai h' p.1=some p.2∧p.1<n∧ ∀c∈p.2.cells,c.bd n=true:=by
  intro h
  induction h with
  |nil=>intro _ p hp;cases hp
  |cons q h ih=>
   obtain⟨k,v⟩:=q;intro hq p hp;rcases List.mem_cons.1 hp with rfl|hp
   ·exact⟨hq.1,hq.2.1,hq.2.2.1⟩
   ·exact ih hq.2.2.2 p hp
 refine⟨⟨ns,hns,fun p hp=> ?_⟩,fun p hp=>(h2 h hh p hp).1,hn,fun p hp=> ?_,fun p hp=>(h2 h hh p hp).2⟩<;>rcases List.mem_append.1 hp with hp|hp
 ·obtain⟨q,hq,rfl⟩:=List.mem_map.1 hp;exact .inr ⟨q.2,rfl,(hz q hq).1,(hz q hq).2⟩
 ·exact .inl (h1 t ht p hp).1
 ·obtain⟨q,hq,rfl⟩:=List.mem_map.1 hp;rfl
 ·exact(h1 t ht p hp).2
theorem AS.Le.of {t t':List (Nat×AV)} {h h':List (Nat×aq)} {n n':Nat} (hn:n≤n') (ht:bL t' n t) (hh:bK h' n h):(AS.mk t h n).Le ⟨t',h',n'⟩:=AS.Le.OY [] [] (fun _ h=>by cases h) (fun _ h=>by cases h) hn ht hh
end
theorem allM_nil {α:Type} (p:α→Prop):(∀x,x∈([]:List α)→p x)=True:=by simp
theorem allM_cons {α:Type} (a:α) (l:List α) (p:α→Prop):(∀x,x∈a::l→p x)=(p a∧ ∀x,x∈l→p x):=by simp
theorem LQ (k:IntKind) (n:Int):PV.byte (.i k n)=UInt8.ofNat n.toNat:=rfl
theorem qe (n:Int):PV.isByte (.i .u8 n)=True:=rfl
theorem Hz (x:PV):AV.byte (.v x)=x.byte:=rfl
theorem BC (x:PV):AV.isByte (.v x)=x.isByte:=rfl
theorem y3 (c:UInt8):UInt8.ofNat c.toNat=c:=by simp
def ay (l:Bytes):List AV:=l.map fun c=> .v (u8 c)
theorem Kj (l:Bytes):List.map (fun c:UInt8=>AV.v (PV.i IntKind.u8 (c.toNat:Int))) l=ay l:=rfl
theorem fk (l:Bytes):(ay l).length=l.length:=by simp[ay]
theorem eK (l:Bytes):List.take l.length (ay l)=ay l:=List.take_of_length_le (by simp[ay])
theorem fj (l m:Bytes):ay l++ay m=ay (l++m):=by simp[ay]
theorem yA (l:Bytes):(∀y,y∈ay l→y.one=true)=True:=by
 simp only[eq_iff_iff,iff_true];intro y hy;obtain⟨c,-,rfl⟩:=List.mem_map.1 hy;rfl
theorem ah (l:Bytes) (n:Nat):(∀y,y∈ay l→y.bd n=true)=True:=by
 simp only[eq_iff_iff,iff_true];intro y hy;obtain⟨c,-,rfl⟩:=List.mem_map.1 hy;rfl
theorem fK (l:Bytes):(ay l).map AV.byte=l:=by
 induction l with
 |nil=>rfl
 |cons c l ih=>simp_all[ay,AV.byte,PV.byte,u8]
theorem BG (l:Bytes):(∀y,y∈ay l→y= .v (u8 y.byte))=True:=by
 simp only[eq_iff_iff,iff_true];intro y hy;obtain⟨c,-,rfl⟩:=List.mem_map.1 hy;simp[AV.byte,PV.byte,u8]
theorem ar (f:Nat→Option Nat) (l:Bytes):AV.aC.renL f (ay l)=some (ay l):=by
 induction l with
 |nil=>rfl
 |cons c l ih=>
  have:AV.aC.renL f (AV.v (u8 c)::ay l)=some (AV.v (u8 c)::ay l):=by simp[AV.aC.renL,AV.aC,ih]
  exact this
theorem az (k:Nat) (j:Option Nat) (s:AS) (l:Bytes):aI (c9 k j s) (ay l)=some (ay l):=by
 induction l with
 |nil=>rfl
 |cons c l ih=>
  have:aI (c9 k j s) (AV.v (u8 c)::ay l)=some (AV.v (u8 c)::ay l):=by simp[aI,c9,ca,view,ih]
  exact this
theorem OA:((0:Nat):Int)=0:=rfl
theorem OB:((1:Nat):Int)=1:=rfl
theorem uZ {α β:Type} (l:List α) (f:α→β):List.take l.length (l.map f)=l.map f:=by rw[←List.length_map (f:=f),List.take_length]
def cellsOf (l:List PV):List AV:=(l.flatMap PV.cells).map .v
theorem af (l:List PV) (n:Nat):(∀c,c∈cellsOf l→c.bd n=true)=True:=by
 simp only[eq_iff_iff,iff_true];intro c hc;simp only[cellsOf,List.mem_map]at hc;obtain⟨y,-,rfl⟩:=hc;rfl
theorem dx (hf:Nat→Option aq) (f:Nat) (l:List PV):aI (view hf (f+1)) (l.map .v)=some l:=by
 induction l with
 |nil=>rfl
 |cons x l ih=>simp[aI,view,ih]
theorem Jp (l:List PV):PV.cells (.agg l)=l:=rfl
theorem O8 (x:Bool):PV.cells (.b x)=[.b x]:=rfl
theorem Ls (x:Bool):AV.cells (.v (.b x))=[.v (.b x)]:=rfl
theorem Pb (x:Bool):PV.one (.b x)=true:=rfl
theorem LC (x:Bool):AV.iU (.v (.b x))=true:=rfl
theorem O9 (k:IntKind) (n:Int):PV.cells (.i k n)=[.i k n]:=rfl
theorem Lt (k:IntKind) (n:Int):AV.cells (.v (.i k n))=[.v (.i k n)]:=rfl
theorem Pc (k:IntKind) (n:Int):PV.one (.i k n)=true:=rfl
theorem LF (k:IntKind) (n:Int):AV.iU (.v (.i k n))=true:=rfl
theorem Pa (x:Bytes):PV.cells (.s x)=[.s x]:=rfl
theorem Lu (x:Bytes):AV.cells (.v (.s x))=[.v (.s x)]:=rfl
theorem Pf (x:Bytes):PV.one (.s x)=true:=rfl
theorem LG (x:Bytes):AV.iU (.v (.s x))=true:=rfl
theorem Jt (l:List PV):PV.cells (.tup l)=[.tup l]:=rfl
theorem DP (l:List PV):AV.cells (.v (.tup l))=[.v (.tup l)]:=rfl
theorem Jz (l:List PV):PV.one (.tup l)=false:=rfl
theorem DU (l:List PV):AV.iU (.v (.tup l))=false:=rfl
theorem Nk (l:List PV):PV.cells (.sl l)=[.sl l]:=rfl
theorem HJ (l:List PV):AV.cells (.v (.sl l))=[.v (.sl l)]:=rfl
theorem Nq (l:List PV):PV.one (.sl l)=true:=rfl
theorem HS (l:List PV):AV.iU (.v (.sl l))=true:=rfl
theorem Nh (f:Fn):PV.cells (.fn f)=[.fn f]:=rfl
theorem HG (f:Fn):AV.cells (.v (.fn f))=[.v (.fn f)]:=rfl
theorem Nm (f:Fn):PV.one (.fn f)=true:=rfl
theorem HO (f:Fn):AV.iU (.v (.fn f))=true:=rfl
theorem Jq:PV.cells (.fn0)=[.fn0]:=rfl
theorem DM:AV.cells (.v (.fn0))=[.v (.fn0)]:=rfl
theorem Jv:PV.one (.fn0)=true:=rfl
theorem DR:AV.iU (.v (.fn0))=true:=rfl
theorem Ni:PV.cells (.p0)=[.p0]:=rfl
theorem HH:AV.cells (.v (.p0))=[.v (.p0)]:=rfl
theorem Nn:PV.one (.p0)=true:=rfl
theorem HP:AV.iU (.v (.p0))=true:=rfl
theorem Jr:PV.cells (.if0)=[.if0]:=rfl
theorem DN:AV.cells (.v (.if0))=[.v (.if0)]:=rfl
theorem Jw:PV.one (.if0)=true:=rfl
theorem DS:AV.iU (.v (.if0))=true:=rfl
theorem Js (t:TypeId) (v:PV):PV.cells (.ifc t v)=[.ifc t v]:=rfl
theorem DO (t:TypeId) (v:PV):AV.cells (.v (.ifc t v))=[.v (.ifc t v)]:=rfl
theorem Jy (t:TypeId) (v:PV):PV.one (.ifc t v)=true:=rfl
theorem DT (t:TypeId) (v:PV):AV.iU (.v (.ifc t v))=true:=rfl
theorem Ju (l:List PV):PV.one (.agg l)=false:=rfl
theorem DL (l:List PV):AV.cells (.v (.agg l))=l.map .v:=rfl
theorem DQ (l:List PV):AV.iU (.v (.agg l))=true:=rfl
theorem Ok (n v o:Nat):AV.cells (.p n v o)=[.p n v o]:=rfl
theorem On (n v o:Nat):AV.iU (.p n v o)=true:=rfl
theorem Oq (n v o:Nat):AV.one (.p n v o)=true:=rfl
theorem Lo (x:PV) (o:Nat):AV.cells (.pp x o)=[.pp x o]:=rfl
theorem Ly (x:PV) (o:Nat):AV.iU (.pp x o)=true:=rfl
theorem LK (x:PV) (o:Nat):AV.one (.pp x o)=true:=rfl
theorem Lp (n v o l z:Nat):AV.cells (.rs n v o l z)=[.rs n v o l z]:=rfl
theorem Lz (n v o l z:Nat):AV.iU (.rs n v o l z)=true:=rfl
theorem LL (n v o l z:Nat):AV.one (.rs n v o l z)=true:=rfl
theorem Lm (l:List PV):AV.cells (.fs l)=[.fs l]:=rfl
theorem Lw (l:List PV):AV.iU (.fs l)=true:=rfl
theorem LI (l:List PV):AV.one (.fs l)=true:=rfl
theorem Lq:AV.cells (.sn)=[.sn]:=rfl
theorem LA:AV.iU (.sn)=true:=rfl
theorem LM:AV.one (.sn)=true:=rfl
theorem Ll (f:Fn) (a c:List AV):AV.cells (.fn f a c)=[.fn f a c]:=rfl
theorem Lv (f:Fn) (a c:List AV):AV.iU (.fn f a c)=true:=rfl
theorem LH (f:Fn) (a c:List AV):AV.one (.fn f a c)=true:=rfl
theorem Nj (x:PV) (o:Nat):PV.cells (.pt x o)=[.pt x o]:=rfl
theorem HI (x:PV) (o:Nat):AV.cells (.v (.pt x o))=[.v (.pt x o)]:=rfl
theorem Np (x:PV) (o:Nat):PV.one (.pt x o)=true:=rfl
theorem HQ (x:PV) (o:Nat):AV.iU (.v (.pt x o))=true:=rfl
theorem Ng (f:FuncId) (a c:List PV):PV.cells (.fc f a c)=[.fc f a c]:=rfl
theorem HF (f:FuncId) (a c:List PV):AV.cells (.v (.fc f a c))=[.v (.fc f a c)]:=rfl
theorem Nl (f:FuncId) (a c:List PV):PV.one (.fc f a c)=true:=rfl
theorem HN (f:FuncId) (a c:List PV):AV.iU (.v (.fc f a c))=true:=rfl
theorem Lr:AV.cells (.ub)=[.ub]:=rfl
theorem LB:AV.iU (.ub)=true:=rfl
theorem LO:AV.one (.ub)=true:=rfl
theorem Ln (n:Nat):AV.cells (.mp n)=[.mp n]:=rfl
theorem Lx (n:Nat):AV.iU (.mp n)=true:=rfl
theorem LJ (n:Nat):AV.one (.mp n)=true:=rfl
theorem Ol:AV.cells (.u)=[.u]:=rfl
theorem Oo:AV.iU (.u)=false:=rfl
theorem Ot:AV.one (.u)=false:=rfl
theorem HE (l:List AV):AV.cells (.tup l)=[.tup l]:=rfl
theorem HM (l:List AV):AV.iU (.tup l)=false:=rfl
theorem HU (l:List AV):AV.one (.tup l)=false:=rfl
theorem HD (l:List AV):AV.cells (.agg l)=l:=rfl
theorem HL (l:List AV):AV.iU (.agg l)=l.all AV.one:=rfl
theorem HT (l:List AV):AV.one (.agg l)=false:=rfl
theorem Ou (x:PV):AV.one (.v x)=x.one:=rfl
theorem HK (l:List AV):AV.isAgg (.agg l)=True:=rfl
theorem Om (l:List PV):AV.isAgg (.v (.agg l))=True:=rfl
attribute [irreducible] KW CW RW OW CR GR BX PX CV vF G5
def L3:Nat→List PV→List (Nat×AV)
 | _,[]=>[]
 |i,x::l=>(i, .v x)::L3 (i+1) l
def B7:Nat→List AV→List (Nat×AV)
 | _,[]=>[]
 |i,x::l=>(i,x)::B7 (i+1) l
def B8:Nat→List aq→List (Nat×aq)
 | _,[]=>[]
 |i,x::l=>(i,x)::B8 (i+1) l
theorem L4 (l:List PV):l.mapIdx (fun i x=>(i,AV.v x))=L3 0 l:=by
 have: ∀(l:List PV) (k:Nat),l.mapIdx (fun i x=>(i+k,AV.v x))=L3 k l:=by
  intro l
  induction l with
  |nil=>intro k;rfl
  |cons x l ih=>
   intro k;rw[List.mapIdx_cons,L3,←ih (k+1)];have e:(fun i (x:PV)=>(i+1+k,AV.v x))=fun i x=>(i+(k+1),AV.v x):=by funext i x;congr 1;omega
   rw[e];simp
 exact this l 0
theorem Il (l:List AV):l.mapIdx (fun i x=>(i,x))=B7 0 l:=by
 have: ∀(l:List AV) (k:Nat),l.mapIdx (fun i x=>(i+k,x))=B7 k l:=by
  intro l
  induction l with
  |nil=>intro k;rfl
  |cons x l ih=>
   intro k;rw[List.mapIdx_cons,B7,←ih (k+1)];have e:(fun i (x:AV)=>(i+1+k,x))=fun i x=>(i+(k+1),x):=by funext i x;congr 1;omega
   rw[e];simp
 exact this l 0
theorem Im (l:List aq):l.mapIdx (fun i x=>(i,x))=B8 0 l:=by
 have: ∀(l:List aq) (k:Nat),l.mapIdx (fun i x=>(i+k,x))=B8 k l:=by
  intro l
  induction l with
  |nil=>intro k;rfl
  |cons x l ih=>
   intro k;rw[List.mapIdx_cons,B8,←ih (k+1)];have e:(fun i (x:aq)=>(i+1+k,x))=fun i x=>(i+(k+1),x):=by funext i x;congr 1;omega
   rw[e];simp
 exact this l 0
theorem aB.w {P:Program} [aV P] (hm:P.follows .mixedOrders=true) {f:FuncId} {fn:Func} {sc:SC} {rs:List jM} (hent:Enters P f f) (hfn:P.funcs[f]?=some fn) (hb:fn.body.isSome=true) (hc:comp P fn.ntmps (fn.body.getD .skip)=some sc) (hr:dC P fn.results.toList=some rs)
  {args:List PV} {r:PV} (hlen:Nat.ble args.length fn.ntmps=true) (h:CW P (BB rs r) sc [] ⟨L3 0 args,[],1000⟩):aB P f args r:=
 aB.mk' hm hent hfn hb hc hr (Nat.le_of_ble_eq_true hlen) (by rw[L4];exact CW.start h)
theorem ew.w {P:Program} [aV P] (hm:P.follows .mixedOrders=true) {f:FuncId} {fn:Func} {sc:SC} {rs:List jM} (hent:Enters P f f) (hfn:P.funcs[f]?=some fn) (hb:fn.body.isSome=true) (hc:comp P fn.ntmps (fn.body.getD .skip)=some sc) (hr:dC P fn.results.toList=some rs)
  {obs:List aq} {args:List AV} {fs:List (Option (Option aq))} {j:Option Nat} {nw:Option aq} {v:AV} (hlen:Nat.ble args.length fn.ntmps=true) (h:CW P (dN rs obs fs j nw v) sc [] ⟨B7 0 args,B8 0 obs,1000⟩)
  {ns:List Nat} {nm:Nat} {obsA:List aq} {avs:List AV} {v':AV} {up:List (Nat×Option aq)} (hns:ns.length≤1000) (hnd:ns.Nodup) (hln:ns.length=obsA.length) (hob:aI (aq.aC (aY ns)) obsA=some obs) (hav:aI (AV.aC (aY ns)) avs=some args)
  (hv:v.aC (dO ns nm)=some v') (hup:cI ns nm fs nw=some up):ew P f nm (ns.zip obsA) avs v' up:=
 ew.mk' hm hent hfn hb hc hr (Nat.le_of_ble_eq_true hlen) (by rw[Il,Im];exact h) hns hnd hln hob hav hv hup
attribute [go_sem] Bool.not_true Bool.not_false eq_self implies_true imp_false not_false_eq_true Hd KZ KV Ha Hc Hb KY KX K6 Hn Hm Ho Hk Hj Hl K4 K3 K5 Hi Ob AV.off AV.off.offL K8 K7 K9 jZ Lf Of XW Oe Hq Hp Qh N0 NW NZ NV Dr Qd N7 N1 NX Kd Kc KS Qa Qb NY Qn Qm BN BO GM GN cz a6 bu SX.ev aD xZ zG ai EV wL fO AS.nW AS.set IG JO Hs P7 Oj Hu Hw Hv Ht Hx lenOf bounds j4 l9 AV.O7 AV.uJ AV.KI rQ eL aI Jp O8 Ls Pb LC O9 Lt Pc LF Pa Lu Pf LG Jt DP Jz DU Nk HJ Nq HS Nh HG Nm HO Jq DM Jv DR Ni HH Nn HP Jr DN Jw DS Js DO Jy DT Ju DL DQ Ok On Oq Lo Ly LK Lp Lz LL Lm Lw LI Lq LA LM Ll Lv LH Ol Oo Ot Ln Lx LJ HE HM HU HD HL HT Ou HK Om u8 allM_nil allM_cons LQ qe Hz BC y3 ne_eq Int.cast_ofNat_Int OA OB List.flatten_cons List.flatten_nil List.flatMap_cons List.flatMap_nil IntKind.bits Nat.min_def List.take_length uZ List.length_map IntWalk.i64_in IntWalk.u8_in IntWalk.u64_in decide_true decide_false Int.toNat_natCast Int.toNat_zero Int.toNat_one ite_true ite_false List.length_cons List.length_nil List.map_cons List.map_nil List.all_cons List.all_nil Bool.and_true Bool.true_and Bool.and_self Option.map_some Option.map_none List.take_succ_cons List.take_zero List.drop_succ_cons List.drop_zero List.take_nil List.drop_nil List.getD_cons_zero List.getD_cons_succ List.nil_append List.cons_append List.append_nil Nat.zero_add Nat.add_zero Nat.le_refl true_and and_true and_self true_implies forall_const Nat.mul_one Nat.one_mul Kj fk eK fj yA List.isEmpty_cons List.isEmpty_nil Bool.or_true Bool.true_or Bool.false_or Bool.or_false Bool.and_false Bool.false_and BB CX zq view qw DC DB Hy DD L3 B7 B8 AV.nz PV.nz Nj HI Np HQ Ng HF Nl HN Lr LB LO N5 N6
end Go.Dom
