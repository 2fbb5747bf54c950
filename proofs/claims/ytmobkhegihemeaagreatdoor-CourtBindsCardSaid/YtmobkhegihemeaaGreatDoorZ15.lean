/-
  Part of the proof, part Z15. Own work.
-/
import Derived.IntWalk
import Derived.Attr
import Derived.Test.YtmobkhegihemeaaGreatDoorZ14
set_option linter.all false
namespace Go.Dom
open Go.RowKit
inductive Fr where
 |seq (b:SC)
 |blk (id:Nat)
 |lp (R:AS→Prop)
 |asg (b:SC)
 |rg (t0:List (Nat×AV)) (R:AS→Prop)
 |bk (ns:List Nat) (t0:List (Nat×AV)) (obs:List (Nat×Option aq))
def KW (P:Program) [aX P] (Q:AX→AS→Prop):List Fr→AX→AS→Prop
 |[],e,s=>Q e s
 | .seq b::K, .normal,s=>aw P b (KW P Q K) s
 | .seq _::K, .exit j,s=>KW P Q K (.exit j) s
 | .seq _::K, .ret,s=>KW P Q K .ret s
 | .blk _::K, .normal,s=>KW P Q K .normal s
 | .blk id::K, .exit j,s=>if j=id then KW P Q K .normal s else KW P Q K (.exit j) s
 | .blk _::K, .ret,s=>KW P Q K .ret s
 | .lp R:: _, .normal,s=>R s
 | .lp _::K, .exit j,s=>KW P Q K (.exit j) s
 | .lp _::K, .ret,s=>KW P Q K .ret s
 | .asg b::K, .normal,s=>aw P b (KW P Q K) s
 | .asg _:: _, .exit _,_=>False
 | .asg _:: _, .ret,_=>False
 | .bk ns t0 obs::K,e,s=>(∀p∈s.h,∀c∈p.2.cells,c.off ns=true)∧KW P Q K e ⟨t0,fX s.h obs,s.nx⟩
 | .rg t0 R:: _, .normal,s=>R {s with t:=t0}
 | .rg t0 _::K, .exit j,s=>KW P Q K (.exit j) {s with t:=t0}
 | .rg t0 _::K, .ret,s=>KW P Q K .ret {s with t:=t0}
section
variable (P:Program) [aX P] (Q:AX→AS→Prop)
def CW (sc:SC) (K:List Fr) (s:AS):Prop:=aw P sc (KW P Q K) s
def Jp (bf:Option (List Nat)) (tr:List (Nat×List Nat×List Nat)):Prop:=
 match bf with
 |none=>True
 |some b=>KC b tr=true
def tF (bf:Option (List Nat)) (k:Nat) (rs:List Nat) (up:List (Nat×Option aq)) (tr:List (Nat×List Nat×List Nat)):List (Nat×List Nat×List Nat):=
 match bf with
 |none=>[]
 |some _=>(k,rs,up.map (·.1))::tr
def RW (nx:Nat) (bf:Option (List Nat)) (n:Nat) (ops:List fg) (k:Nat) (s:AS) (tr:List (Nat×List Nat×List Nat)) (K:List Fr):Prop:=
 match bf with
 |none=>kN P nx ops k s fun s'=>KW P Q K .normal {s' with nx:=n}
 |some b=>rY P nx ops k s tr fun s' tr=>KC b tr=true∧KW P Q K .normal {s' with nx:=n}
def OW (nx:Nat) (bf:Option (List Nat)) (n:Nat) (x:Option AO) (d:Option Nat) (ops:List fg) (k:Nat) (s:AS) (tr:List (Nat×List Nat×List Nat)) (K:List Fr):Prop:=
 CF x fun ao=>RW P Q nx bf n ops (k+1) (s.nV d ao.v ao.up) (tF bf k ao.rs ao.up tr) K
def CR (nx:Nat) (bf:Option (List Nat)) (n:Nat) (nm:Nat) (fv:AV) (avs:List AV) (d:Option Nat) (ops:List fg) (k:Nat) (s:AS) (tr:List (Nat×List Nat×List Nat)) (K:List Fr):Prop:=
 Bs P nm s.h fv avs fun ao=>RW P Q nx bf n ops (k+1) (s.nV d ao.v ao.up) (tF bf k ao.rs ao.up tr) K
def GR (nx:Nat) (bf:Option (List Nat)) (n:Nat) (v:AV) (t:Nat) (want:Bool) (d:Option Nat) (o:SO) (ops:List fg) (k:Nat) (s:AS) (tr:List (Nat×List Nat×List Nat)) (K:List Fr):Prop:=
 JC v t want s (fun s=>RW P Q nx bf n (⟨d,o,none⟩::ops) k s tr K) (fun s=>RW P Q nx bf n ops (k+1) (s.nV d (.v (.tup [])) []) (tF bf k [] [] tr) K)
def CV (v:AV) (a b:SC) (K:List Fr) (s:AS):Prop:=Aj v (CW P Q a K s) (CW P Q b K s)
inductive BK where
 |cw (a b:SC) (K:List Fr) (s:AS)
 |gd (nx:Nat) (bf:Option (List Nat)) (n:Nat) (t:Nat) (want:Bool) (d:Option Nat) (o:SO) (ops:List fg) (k:Nat) (s:AS) (tr:List (Nat×List Nat×List Nat)) (K:List Fr)
 |ng (κ:BK)
def BX (c:Bool):BK→Prop
 | .cw a b K s=>pY c (CW P Q a K s) (CW P Q b K s)
 | .gd nx bf n t want d o ops k s tr K=>GR P Q nx bf n (.v (.b c)) t want d o ops k s tr K
 | .ng κ=>BX (!c) κ
def PX (p:Prop) (κ:BK):Prop:=(p→BX P Q true κ)∧(¬p→BX P Q false κ)
def Hw (ps:List Nat) (a b:SC) (K:List Fr) (t0:List (Nat×AV)) (N:Nat) (fin:Bool) (xs:List (List PV)) (s:AS):Prop:=
 O9 (fun y Qx s1=>aw P a (fun e s2=>match e with
  | .normal=>aw P b Qx s2
  | _=>False) {s1 with t:=jX s1.t ps y}) (KW P Q K) t0 N fin xs s
def wb (a:SC) (K:List Fr) (N:Nat) (s:AS):Prop:=oH (aw P a) (KW P Q K) N s
variable {P Q}
theorem CW.start {sc:SC} {s:AS} (h:CW P Q sc [] s):aw P sc Q s:=by
 have:KW P Q []=Q:=by funext e s;rfl
 unfold CW at h;rw[this]at h;exact h
theorem eL.mk' {f:FuncId} {fn:Func} {sc:SC} {rs:List j2} (hm:P.follows .mixedOrders=true) (hent:Enters P f f) (hfn:P.funcs[f]?=some fn) (hb:fn.body.isSome=true) (hc:comp P fn.ntmps (fn.body.getD .skip)=some sc) (hr:dC P fn.results.toList=some rs)
  {obs:List aq} {args:List AV} {fs:List (Option (Option aq))} {j:Option Nat} {nw:Option aq} {v:AV} (hlen:args.length≤fn.ntmps) (h:CW P (dR rs obs fs j nw v) sc [] ⟨args.mapIdx (fun i x=>(i,x)),obs.mapIdx (fun i x=>(i,x)),1000⟩)
  {ns:List Nat} {nm:Nat} {obsA:List aq} {avs:List AV} {v':AV} {up:List (Nat×Option aq)} (hns:ns.length≤1000) (hnd:ns.Nodup) (hln:ns.length=obsA.length) (hob:aJ (aq.aC (a7 ns)) obsA=some obs) (hav:aJ (AV.aC (a7 ns)) avs=some args)
  (hv:v.aC (dW ns nm)=some v') (hup:cL ns nm fs nw=some up):eL P f nm (ns.zip obsA) avs v' up:=by
 obtain⟨code,hcode⟩:=Option.isSome_iff_exists.1 hb;rw[hcode]at hc;exact eL.Hi hm hent hfn hcode hc hr hlen (CW.start h) hns hnd hln hob hav hv hup
theorem Jv (K:List Fr) (s:AS):CW P Q .skip K s=KW P Q K .normal s:=rfl
theorem Ng (a b:SC) (K:List Fr) (s:AS):CW P Q (.seq a b) K s=CW P Q a (.seq b::K) s:=by
 simp only[CW,aw];congr 1
 funext e s'
 cases e<;>rfl
theorem Lu (id:Nat) (a:SC) (K:List Fr) (s:AS):CW P Q (.blk id a) K s=CW P Q a (.blk id::K) s:=by
 simp only[CW,aw];congr 1
 funext e s'
 cases e<;>rfl
theorem Js (x:SX) (a b:SC) (K:List Fr) (s:AS):CW P Q (.cond x a b) K s=CV P Q (x.ev (aD s.t)) a b K s:=rfl
theorem Rl (c:Bool) (a b:SC) (K:List Fr) (s:AS):CV P Q (.v (.b c)) a b K s=BX P Q c (.cw a b K s):=rfl
theorem OK (a b:SC) (K:List Fr) (s:AS):BX P Q true (.cw a b K s)=CW P Q a K s:=by simp only[BX,lu]
theorem PC (a b:SC) (K:List Fr) (s:AS):BX P Q false (.cw a b K s)=CW P Q b K s:=by simp only[BX,j6]
theorem KQ (κ:BK):BX P Q true (.ng κ)=BX P Q false κ:=by simp only[BX,Bool.not_true]
theorem KZ (κ:BK):BX P Q false (.ng κ)=BX P Q true κ:=by simp only[BX,Bool.not_false]
theorem NX (c:Bool) (κ:BK):BX P Q (!c) κ=BX P Q c (.ng κ):=by simp only[BX]
theorem Ja {c:Bool} {κ:BK} (h:c=true):BX P Q c κ=BX P Q true κ:=by rw[h]
theorem I5 {c:Bool} {κ:BK} (h:c=false):BX P Q c κ=BX P Q false κ:=by rw[h]
theorem FN {p:Prop} {κ:BK} (h:p):PX P Q p κ=BX P Q true κ:=by simp only[PX,h,true_implies,not_true_eq_false,false_implies,and_true]
theorem DZ {p:Prop} {κ:BK} (h: ¬p):PX P Q p κ=BX P Q false κ:=by simp only[PX,h,false_implies,not_false_eq_true,true_implies,true_and]
theorem QX (κ:BK):PX P Q True κ=BX P Q true κ:=FN trivial
theorem RU (κ:BK):PX P Q False κ=BX P Q false κ:=DZ id
theorem QY (p:Prop) [Decidable p] (κ:BK):BX P Q (decide p) κ=PX P Q p κ:=by
 by_cases h:p
 ·rw[Ja (decide_eq_true h),FN h]
 ·rw[I5 (decide_eq_false h),DZ h]
theorem QQ (x y:Int) (κ:BK):BX P Q (x==y) κ=PX P Q (x=y) κ:=by
 by_cases h:x=y
 ·rw[Ja (by simpa using h),FN h]
 ·rw[I5 (by simpa using h),DZ h]
theorem Qt (x y:Int) (κ:BK):BX P Q (x !=y) κ=PX P Q (x=y) (.ng κ):=by
 by_cases h:x=y
 ·rw[I5 (by simpa using h),FN h,KQ]
 ·rw[Ja (by simpa using h),DZ h,KZ]
theorem BX.mk {c:Bool} {κ:BK} (h1:c=true→BX P Q true κ) (h2:c=false→BX P Q false κ):BX P Q c κ:=by
 cases c
 ·exact h2 rfl
 ·exact h1 rfl
theorem PX.mk {p:Prop} {κ:BK} (h1:p→BX P Q true κ) (h2: ¬p→BX P Q false κ):PX P Q p κ:=⟨h1,h2⟩
theorem OX (a b:SC) (K:List Fr) (s:AS):CV P Q .ub a b K s=(CW P Q a K s∧CW P Q b K s):=rfl
theorem IQ (a:SC) (K:List Fr) (s:AS):CW P Q (.loop a) K s=wb P Q a K s.nx s:=rfl
theorem Kw (id:Nat) (K:List Fr) (s:AS):CW P Q (.exit id) K s=KW P Q K (.exit id) s:=rfl
theorem MS (K:List Fr) (s:AS):CW P Q .ret K s=KW P Q K .ret s:=rfl
theorem Nb (bf:Option (List Nat)) (ops:List fg) (K:List Fr) (s:AS):CW P Q (.reg bf ops) K s=RW P Q s.nx bf (s.nx+ops.length) ops 0 s [] K:=by
 cases bf<;>rfl
theorem Mc (e:AX) (s:AS):KW P Q [] e s=Q e s:=rfl
theorem IV (b:SC) (K:List Fr) (s:AS):KW P Q (.seq b::K) .normal s=CW P Q b K s:=rfl
theorem H7 (b:SC) (K:List Fr) (j:Nat) (s:AS):KW P Q (.seq b::K) (.exit j) s=KW P Q K (.exit j) s:=rfl
theorem Jk (b:SC) (K:List Fr) (s:AS):KW P Q (.seq b::K) .ret s=KW P Q K .ret s:=rfl
theorem I0 (i:Nat) (K:List Fr) (s:AS):KW P Q (.blk i::K) .normal s=KW P Q K .normal s:=rfl
theorem II (i:Nat) (K:List Fr) (j:Nat) (s:AS):KW P Q (.blk i::K) (.exit j) s=if j=i then KW P Q K .normal s else KW P Q K (.exit j) s:=rfl
theorem Il (i:Nat) (K:List Fr) (s:AS):KW P Q (.blk i::K) .ret s=KW P Q K .ret s:=rfl
theorem Fq {x:SX} {ps:List Nat} {a b:SC} {K:List Fr} {s:AS} {g:FuncId} {caps:List PV} {fin:Bool} {xs:List (List PV)} (hi:QP P g caps fin xs) (hx:x.ev (aD s.t)= .v (.fc g [] caps)) (hl: ∀y∈xs,y.length=ps.length) (h:Hw P Q ps a b K s.t s.nx fin xs s):CW P Q (.rng x ps a b) K s:=by
 have e:kK [] s (KW P Q K)=KW P Q K:=by funext e s';simp[kK]
 refine⟨g,caps,fin,xs,[],by rw[hx];rfl,by rw[hx];simp[aH],by simp,hi,fun y hy=>⟨hl y hy, .inl rfl⟩,?_⟩
 rw[e];exact h
section
variable {ps:List Nat} {a b:SC} {K:List Fr} {t0:List (Nat×AV)} {N:Nat} {s:AS} {fin:Bool}
theorem Nn (h:KW P Q K .normal s):Hw P Q ps a b K t0 N true [] s:=fun X h1 _ _=>h1 _ rfl h
theorem A0 {s':AS} {ys:List (List PV)} (hN:N≤s'.nx) (hle:s'.Le s) (h:Hw P Q ps a b K t0 N fin ys s'):Hw P Q ps a b K t0 N fin ys s:=fun X h1 h2 h3=>h3 ys s' s hN hle (h X h1 h2 h3)
theorem Kt {y:List PV} {ys:List (List PV)} (h:CW P Q a (.asg b:: .rg t0 (Hw P Q ps a b K t0 N fin ys)::K) {s with t:=jX s.t ps y}):Hw P Q ps a b K t0 N fin (y::ys) s:=by
 intro X h1 h2 h3;refine h2 y ys s (kp (fun e s2 hs=> ?_) h)
 cases e with
 |normal=>
  refine kp (fun e s3 hs3=> ?_) hs
  cases e with
  |normal=>exact hs3 X h1 h2 h3
  |exit j=>exact hs3
  |ret=>exact hs3
 |exit j=>exact hs
 |ret=>exact hs
theorem AK {xs:List (List PV)} {α:Type} (st:α→AS) (ok:List (List PV)→α→Prop) (a0:α) (hN: ∀x,N≤(st x).nx) (h0:ok xs a0) (hle:(st a0).Le s) (hnil: ∀x,ok [] x→fin=true∧KW P Q K .normal (st x))
  (hcons: ∀y ys x,ok (y::ys) x→ ∀R:AS→Prop,(∀x',ok ys x'→ ∀s',(st x').Le s'→R s')→CW P Q a (.asg b:: .rg t0 R::K) {st x with t:=jX (st x).t ps y}):Hw P Q ps a b K t0 N fin xs s:=by
 refine A0 (hN a0) hle ?_;clear hle
 induction xs generalizing a0 with
 |nil=>
  obtain⟨rfl,h⟩:=hnil a0 h0;exact Nn h
 |cons y ys ih=>exact Kt (hcons y ys a0 h0 _ fun x' hx' s' hs'=>A0 (hN x') hs' (ih x' hx'))
theorem Od {xs:List (List PV)} {α:Type} (st:α→AS) (ok:List (List PV)→α→Prop) (a0:α) (hN: ∀x,N≤(st x).nx) (h0:ok xs a0) (hle:(st a0).Le s) (hnil: ∀x,ok [] x→KW P Q K .normal (st x))
  (hcons: ∀y ys x,ok (y::ys) x→ ∀R:AS→Prop,(∀x',ok ys x'→ ∀s',(st x').Le s'→R s')→CW P Q a (.asg b:: .rg t0 R::K) {st x with t:=jX (st x).t ps y}):Hw P Q ps a b K t0 N true xs s:=
 AK st ok a0 hN h0 hle (fun x h=>⟨rfl,hnil x h⟩) hcons
theorem Jn {xs:List (List PV)} {α:Type} (st:α→AS) (ok:List (List PV)→α→Prop) (a0:α) (hN: ∀x,N≤(st x).nx) (h0:ok xs a0) (hle:(st a0).Le s) (hnil: ∀x,¬ok [] x)
  (hcons: ∀y ys x,ok (y::ys) x→ ∀R:AS→Prop,(∀x',ok ys x'→ ∀s',(st x').Le s'→R s')→CW P Q a (.asg b:: .rg t0 R::K) {st x with t:=jX (st x).t ps y}):Hw P Q ps a b K t0 N false xs s:=
 AK st ok a0 hN h0 hle (fun x h=>(hnil x h).elim) hcons
end
theorem Ir (b:SC) (K:List Fr) (s:AS):KW P Q (.asg b::K) .normal s=CW P Q b K s:=rfl
theorem O7 (ns:List Nat) (t0:List (Nat×AV)) (obs:List (Nat×Option aq)) (K:List Fr) (e:AX) (s:AS):KW P Q (.bk ns t0 obs::K) e s=((∀p∈s.h,∀c∈p.2.cells,c.off ns=true)∧KW P Q K e ⟨t0,fX s.h obs,s.nx⟩):=rfl
theorem Mf (t0:List (Nat×AV)) (R:AS→Prop) (K:List Fr) (s:AS):KW P Q (.rg t0 R::K) .normal s=R ⟨t0,s.h,s.nx⟩:=rfl
theorem MW (t0:List (Nat×AV)) (R:AS→Prop) (K:List Fr) (j:Nat) (s:AS):KW P Q (.rg t0 R::K) (.exit j) s=KW P Q K (.exit j) ⟨t0,s.h,s.nx⟩:=rfl
theorem LK (t0:List (Nat×AV)) (R:AS→Prop) (K:List Fr) (s:AS):KW P Q (.rg t0 R::K) .ret s=KW P Q K .ret ⟨t0,s.h,s.nx⟩:=rfl
theorem NY (R:AS→Prop) (K:List Fr) (s:AS):KW P Q (.lp R::K) .normal s=R s:=rfl
theorem Ls (R:AS→Prop) (K:List Fr) (j:Nat) (s:AS):KW P Q (.lp R::K) (.exit j) s=KW P Q K (.exit j) s:=rfl
theorem Nh (R:AS→Prop) (K:List Fr) (s:AS):KW P Q (.lp R::K) .ret s=KW P Q K .ret s:=rfl
section
variable (nx:Nat) (bf:Option (List Nat)) (n:Nat) (d:Option Nat) (ops:List fg) (k:Nat) (s:AS) (tr:List (Nat×List Nat×List Nat)) (K:List Fr)
theorem L5:RW P Q nx bf n [] k s tr K=(Jp bf tr∧KW P Q K .normal {s with nx:=n}):=by
 cases bf
 ·simp only[RW,kN,Jp,true_and]
 ·rfl
def XW (P:Program) [aX P] (Q:AX→AS→Prop) (nx:Nat) (bf:Option (List Nat)) (n:Nat) (o:SO) (d:Option Nat) (ops:List fg) (k:Nat) (s:AS) (tr:List (Nat×List Nat×List Nat)) (K:List Fr):Prop:=
 match o with
 | .call f args=>CR P Q nx bf n (nx+k) (f.ev (aD s.t)) (args.map (SX.ev (aD s.t))) d ops k s tr K
 |o=>OW P Q nx bf n (cG (nx+k) o (aD s.t) (ak s.h)) d ops k s tr K
theorem ON (o:SO):RW P Q nx bf n (⟨d,o,none⟩::ops) k s tr K=XW P Q nx bf n o d ops k s tr K:=by
 cases o<;>cases bf<;>rfl
theorem QC (o:SO) (t:Nat) (want:Bool):RW P Q nx bf n (⟨d,o,some (t,want)⟩::ops) k s tr K=GR P Q nx bf n (aD s.t t) t want d o ops k s tr K:=by
 cases bf<;>rfl
theorem Jc (v:AV) (p:Prop) (rs:List Nat) (up:List (Nat×Option aq)):OW P Q nx bf n (some ⟨v,p,rs,up⟩) d ops k s tr K=(p∧RW P Q nx bf n ops (k+1) (s.nV d v up) (tF bf k rs up tr) K):=rfl
theorem HZ:OW P Q nx bf n none d ops k s tr K=False:=rfl
theorem QU (x:Bool) (t:Nat) (want:Bool) (o:SO):GR P Q nx bf n (.v (.b x)) t want d o ops k s tr K=BX P Q x (.gd nx bf n t want d o ops k s tr K):=rfl
theorem OT (t:Nat) (o:SO):BX P Q true (.gd nx bf n t true d o ops k s tr K)=RW P Q nx bf n (⟨d,o,none⟩::ops) k (s.set t (.v (.b true))) tr K:=by simp only[BX,GR,JC,lu]
theorem PU (t:Nat) (o:SO):BX P Q false (.gd nx bf n t true d o ops k s tr K)=RW P Q nx bf n ops (k+1) ((s.set t (.v (.b false))).nV d (.v (.tup [])) []) (tF bf k [] [] tr) K:=by simp only[BX,GR,JC,j6]
theorem Px (t:Nat) (o:SO):BX P Q true (.gd nx bf n t false d o ops k s tr K)=RW P Q nx bf n ops (k+1) ((s.set t (.v (.b true))).nV d (.v (.tup [])) []) (tF bf k [] [] tr) K:=by simp only[BX,GR,JC,lu]
theorem Pj (t:Nat) (o:SO):BX P Q false (.gd nx bf n t false d o ops k s tr K)=RW P Q nx bf n (⟨d,o,none⟩::ops) k (s.set t (.v (.b false))) tr K:=by simp only[BX,GR,JC,j6]
theorem Gc (t:Nat) (want:Bool) (o:SO):GR P Q nx bf n (.v (.tup [])) t want d o ops k s tr K=RW P Q nx bf n ops (k+1) (s.nV d (.v (.tup [])) []) (tF bf k [] [] tr) K:=by simp only[GR,JC]
theorem CS:Jp none tr=True:=rfl
theorem Cn (b:List Nat):Jp (some b) tr=(KC b tr=true):=rfl
theorem Fx (rs:List Nat) (up:List (Nat×Option aq)):tF none k rs up tr=[]:=rfl
theorem G1 (b:List Nat) (rs:List Nat) (up:List (Nat×Option aq)):tF (some b) k rs up tr=(k,rs,up.map (·.1))::tr:=rfl
theorem b9 {nx:Nat} {bf:Option (List Nat)} {n:Nat} {d:Option Nat} {ops:List fg} {k:Nat} {s:AS} {tr:List (Nat×List Nat×List Nat)} {K:List Fr} {nm:Nat} {f:FuncId} {avs:List AV} {pvs:List PV} {r:PV} (he:aA P f pvs r) (ha:iU avs=some pvs) (hK:RW P Q nx bf n ops (k+1) (s.nV d (.v r) []) (tF bf k [] [] tr) K):
  CR P Q nx bf n nm (.v (.fn (.func f))) avs d ops k s tr K:=⟨_, .pure f avs pvs r rfl ha he,hK⟩
theorem OS {nx:Nat} {bf:Option (List Nat)} {n:Nat} {d:Option Nat} {ops:List fg} {k:Nat} {s:AS} {tr:List (Nat×List Nat×List Nat)} {K:List Fr} {nm:Nat} {f:FuncId} {a c avs:List AV}:
  CR P Q nx bf n nm (.fn (.func f) a c) avs d ops k s tr K=CR P Q nx bf n nm (.v (.fn (.func f))) (a++(avs++c)) d ops k s tr K:=by
 have h: ∀ao,gL P nm (ak s.h) (.fn (.func f) a c) avs ao↔gL P nm (ak s.h) (.v (.fn (.func f))) (a++(avs++c)) ao:=by
  intro ao;constructor
  ·intro h
   cases h with
   |pure f avs pvs r hfv hargs he=>exact .pure f avs pvs r hfv hargs he
   |view f avs pvs r hfv hargs hr he=>exact .view f avs pvs r hfv hargs hr he
   |fG f avs pvs r hfv hargs hlo he=>exact .fG f avs pvs r hfv hargs hlo he
   |eff f avs hs v up hfv hhs he=>exact .eff f avs hs v up hfv hhs he
   |same f v hfv he=>exact .same f v hfv he
   |ext f avs pvs r hfv hargs he=>exact .ext f avs pvs r hfv hargs he
  ·intro h
   cases h with
   |pure f avs pvs r hfv hargs he=>exact .pure f avs pvs r hfv hargs he
   |view f avs pvs r hfv hargs hr he=>exact .view f avs pvs r hfv hargs hr he
   |fG f avs pvs r hfv hargs hlo he=>exact .fG f avs pvs r hfv hargs hlo he
   |eff f avs hs v up hfv hhs he=>exact .eff f avs hs v up hfv hhs he
   |same f v hfv he=>exact .same f v hfv he
   |ext f avs pvs r hfv hargs he=>exact .ext f avs pvs r hfv hargs he
 unfold CR Bs;simp only[h]
theorem Po {nx:Nat} {bf:Option (List Nat)} {n:Nat} {d:Option Nat} {ops:List fg} {k:Nat} {s:AS} {tr:List (Nat×List Nat×List Nat)} {K:List Fr} {nm:Nat} {f:FuncId} {a c:List PV} {avs:List AV}:
  CR P Q nx bf n nm (.v (.fc f a c)) avs d ops k s tr K=CR P Q nx bf n nm (.v (.fn (.func f))) (a.map .v++(avs++c.map .v)) d ops k s tr K:=by
 have h: ∀ao,gL P nm (ak s.h) (.v (.fc f a c)) avs ao↔gL P nm (ak s.h) (.v (.fn (.func f))) (a.map .v++(avs++c.map .v)) ao:=by
  intro ao;constructor
  ·intro h
   cases h with
   |pure f avs pvs r hfv hargs he=>exact .pure f avs pvs r hfv hargs he
   |view f avs pvs r hfv hargs hr he=>exact .view f avs pvs r hfv hargs hr he
   |fG f avs pvs r hfv hargs hlo he=>exact .fG f avs pvs r hfv hargs hlo he
   |eff f avs hs v up hfv hhs he=>exact .eff f avs hs v up hfv hhs he
   |same f v hfv he=>exact .same f v hfv he
   |ext f avs pvs r hfv hargs he=>exact .ext f avs pvs r hfv hargs he
  ·intro h
   cases h with
   |pure f avs pvs r hfv hargs he=>exact .pure f avs pvs r hfv hargs he
   |view f avs pvs r hfv hargs hr he=>exact .view f avs pvs r hfv hargs hr he
   |fG f avs pvs r hfv hargs hlo he=>exact .fG f avs pvs r hfv hargs hlo he
   |eff f avs hs v up hfv hhs he=>exact .eff f avs hs v up hfv hhs he
   |same f v hfv he=>exact .same f v hfv he
   |ext f avs pvs r hfv hargs he=>exact .ext f avs pvs r hfv hargs he
 unfold CR Bs;simp only[h]
theorem po {nx:Nat} {bf:Option (List Nat)} {n:Nat} {d:Option Nat} {ops:List fg} {k:Nat} {s:AS} {tr:List (Nat×List Nat×List Nat)} {K:List Fr} {nm:Nat} {f:FuncId} {avs:List AV} {pvs:List PV} {r:PV} (he:aA P f pvs r) (ha:aJ (view (ak s.h) 9) avs=some pvs) (hr:r.flat=true) (hK:RW P Q nx bf n ops (k+1) (s.nV d (.v r) []) (tF bf k (avs.flatMap (aH (ak s.h) 9)) [] tr) K):
  CR P Q nx bf n nm (.v (.fn (.func f))) avs d ops k s tr K:=⟨_, .view f avs pvs r rfl ha hr he,hK⟩
theorem jx {nx:Nat} {bf:Option (List Nat)} {n:Nat} {d:Option Nat} {ops:List fg} {k:Nat} {s:AS} {tr:List (Nat×List Nat×List Nat)} {K:List Fr} {nm:Nat} {f:FuncId} {avs:List AV} {pvs:List PV} {r:PV} (ns:List Nat) (he:aA P f pvs r) (hlo:ns.all (fun n=>decide (1000≤n))=true) (hv:avs.flatMap (aH (ak s.h) 9)=ns) (ha:aJ (view (ak s.h) 9) avs=some pvs)
  (hK:RW P Q nx bf n ops (k+1) (s.nV d (.v r) (ns.map fun n=>(n,none))) (tF bf k ns (ns.map fun n=>(n,none)) tr) K):
  CR P Q nx bf n nm (.v (.fn (.func f))) avs d ops k s tr K:=by
 subst hv;exact⟨_, .fG f avs pvs r rfl ha (fun n hn=>of_decide_eq_true (List.all_eq_true.1 hlo n hn)) he,hK⟩
theorem aR {nx:Nat} {bf:Option (List Nat)} {n:Nat} {d:Option Nat} {ops:List fg} {k:Nat} {s:AS} {tr:List (Nat×List Nat×List Nat)} {K:List Fr} {nm:Nat} {f:FuncId} {avs:List AV} {hs:List (Nat×aq)} {v:AV} {up:List (Nat×Option aq)} (he:eL P f nm hs avs v up) (hh: ∀p∈hs,ak s.h p.1=some p.2) (hK:RW P Q nx bf n ops (k+1) (s.nV d v up) (tF bf k (hs.map (·.1)) up tr) K):
  CR P Q nx bf n nm (.v (.fn (.func f))) avs d ops k s tr K:=⟨_, .eff f avs hs v up rfl hh he,hK⟩
theorem IM {nx:Nat} {bf:Option (List Nat)} {n:Nat} {d:Option Nat} {ops:List fg} {k:Nat} {s:AS} {tr:List (Nat×List Nat×List Nat)} {K:List Fr} {nm:Nat} {f:FuncId} {v:AV} (he:QZ P f) (hK:RW P Q nx bf n ops (k+1) (s.nV d v []) (tF bf k [] [] tr) K):
  CR P Q nx bf n nm (.v (.fn (.func f))) [v] d ops k s tr K:=⟨_, .same f v rfl he,hK⟩
end
theorem Ms {nx:Nat} {bf:Option (List Nat)} {n:Nat} {d:Option Nat} {ops:List fg} {k:Nat} {s:AS} {tr:List (Nat×List Nat×List Nat)} {K:List Fr} {nm:Nat} {f:FuncId} {avs:List AV} {pvs:List PV} {r:PV} (he:Ri P f pvs r) (ha:iU avs=some pvs) (hK:RW P Q nx bf n ops (k+1) (s.nV d (.v r) []) (tF bf k [] [] tr) K):
  CR P Q nx bf n nm (.v (.fn (.func f))) avs d ops k s tr K:=⟨_, .ext f avs pvs r rfl ha he,hK⟩
theorem ae {a:SC} {K:List Fr} {N:Nat} {s:AS} (h:CW P Q a (.lp (wb P Q a K N)::K) s):wb P Q a K N s:=by
 refine ow (kp (fun e s' hs=> ?_) h)
 cases e<;>exact hs
theorem ai {a:SC} {K:List Fr} {N:Nat} {s:AS} {α:Type} (m:α→Nat) (st:α→AS) (ok:α→Prop) (a0:α) (hN: ∀x,N≤(st x).nx) (h0:ok a0) (hle:(st a0).Le s)
  (hr: ∀x,ok x→ ∀R:AS→Prop,(∀y,ok y→m y<m x→ ∀s',(st y).Le s'→R s')→CW P Q a (.lp R::K) (st x)):wb P Q a K N s:=by
 refine B1 m st ok a0 hN h0 hle fun x hx=> ?_
 refine kp (fun e s' hs=> ?_) (hr x hx (fun s'=> ∃y,ok y∧m y<m x∧(st y).Le s') fun y h1 h2 s' h3=>⟨y,h1,h2,h3⟩)
 cases e<;>exact hs
def bz (t:List (Nat×AV)) (n:Nat):List (Nat×AV)→Prop
 |[]=>True
 |(k,v)::r=>aD t k=v∧v.bd n=true∧bz t n r
def bA (h:List (Nat×aq)) (n:Nat):List (Nat×aq)→Prop
 |[]=>True
 |(k,v)::r=>ak h k=some v∧k<n∧(∀c∈v.cells,c.bd n=true)∧bA h n r
theorem AS.Le.QA {t t':List (Nat×AV)} {h h':List (Nat×aq)} {n n':Nat} (z:List (Nat×PV)) (ns:List Nat) (hns: ∀m∈ns,1000≤m∧ak h m=none) (hz: ∀q∈z,view (ak h') 9 (aD t' q.1)=some q.2∧ ∀m∈aH (ak h') 9 (aD t' q.1),m∈ns) (hn:n≤n') (ht:bz t' n t) (hh:bA h' n h):(AS.mk (z.map (fun q=>(q.1,AV.v q.2))++t) h n).Le ⟨t',h',n'⟩:=by
 have h1: ∀(t:List (Nat×AV)),bz t' n t→ ∀p∈t,aD t' p.1=p.2∧p.2.bd n=true:=by
  intro t
  induction t with
  |nil=>intro _ p hp;cases hp
  |cons q t ih=>
   obtain⟨k,v⟩:=q;intro hq p hp;rcases List.mem_cons.1 hp with rfl|hp
   ·exact⟨hq.1,hq.2.1⟩
   ·exact ih hq.2.2 p hp
 have h2: ∀(h:List (Nat×aq)),bA h' n h→ ∀p∈h,ak h' p.1=some p.2∧p.1<n∧ ∀c∈p.2.cells,c.bd n=true:=by
  intro h
  induction h with
  |nil=>intro _ p hp;cases hp
  |cons q h ih=>
   obtain⟨k,v⟩:=q;intro hq p hp;rcases List.mem_cons.1 hp with rfl|hp
   ·exact⟨hq.1,hq.2.1,hq.2.2.1⟩
   ·exact ih hq.2.2.2 p hp
 refine⟨⟨ns,hns,fun p hp=> ?_⟩,fun p hp=>(h2 h hh p hp).1,hn,fun p hp=> ?_,fun p hp=>(h2 h hh p hp).2⟩<;>rcases List.mem_append.1 hp with hp|hp
 ·obtain⟨q,hq,rfl⟩:=List.mem_map.1 hp;exact .inr ⟨q.2,rfl,(hz q hq).1,(hz q hq).2⟩
 ·exact .inl (h1 t ht p hp).1
 ·obtain⟨q,hq,rfl⟩:=List.mem_map.1 hp;rfl
 ·exact(h1 t ht p hp).2
theorem AS.Le.of {t t':List (Nat×AV)} {h h':List (Nat×aq)} {n n':Nat} (hn:n≤n') (ht:bz t' n t) (hh:bA h' n h):(AS.mk t h n).Le ⟨t',h',n'⟩:=AS.Le.QA [] [] (fun _ h=>by cases h) (fun _ h=>by cases h) hn ht hh
end
theorem allM_nil {α:Type} (p:α→Prop):(∀x,x∈([]:List α)→p x)=True:=by simp
theorem allM_cons {α:Type} (a:α) (l:List α) (p:α→Prop):(∀x,x∈a::l→p x)=(p a∧ ∀x,x∈l→p x):=by simp
theorem Nu (k:IntKind) (n:Int):PV.byte (.i k n)=UInt8.ofNat n.toNat:=rfl
theorem qg (n:Int):PV.isByte (.i .u8 n)=True:=rfl
theorem JL (x:PV):AV.byte (.v x)=x.byte:=rfl
theorem Ci (x:PV):AV.isByte (.v x)=x.isByte:=rfl
theorem zd (c:UInt8):UInt8.ofNat c.toNat=c:=by simp
def ay (l:Bytes):List AV:=l.map fun c=> .v (u8 c)
theorem KO (l:Bytes):List.map (fun c:UInt8=>AV.v (PV.i IntKind.u8 (c.toNat:Int))) l=ay l:=rfl
theorem fD (l:Bytes):(ay l).length=l.length:=by simp[ay]
theorem e9 (l:Bytes):List.take l.length (ay l)=ay l:=List.take_of_length_le (by simp[ay])
theorem fF (l m:Bytes):ay l++ay m=ay (l++m):=by simp[ay]
theorem yM (l:Bytes):(∀y,y∈ay l→y.one=true)=True:=by
 simp only[eq_iff_iff,iff_true];intro y hy;obtain⟨c,-,rfl⟩:=List.mem_map.1 hy;rfl
theorem ah (l:Bytes) (n:Nat):(∀y,y∈ay l→y.bd n=true)=True:=by
 simp only[eq_iff_iff,iff_true];intro y hy;obtain⟨c,-,rfl⟩:=List.mem_map.1 hy;rfl
theorem gD (l:Bytes):(ay l).map AV.byte=l:=by
 induction l with
 |nil=>rfl
 |cons c l ih=>simp_all[ay,AV.byte,PV.byte,u8]
theorem B7 (l:Bytes):(∀y,y∈ay l→y= .v (u8 y.byte))=True:=by
 simp only[eq_iff_iff,iff_true];intro y hy;obtain⟨c,-,rfl⟩:=List.mem_map.1 hy;simp[AV.byte,PV.byte,u8]
theorem ar (f:Nat→Option Nat) (l:Bytes):AV.aC.renL f (ay l)=some (ay l):=by
 induction l with
 |nil=>rfl
 |cons c l ih=>
  have:AV.aC.renL f (AV.v (u8 c)::ay l)=some (AV.v (u8 c)::ay l):=by simp[AV.aC.renL,AV.aC,ih]
  exact this
theorem az (k:Nat) (j:Option Nat) (s:AS) (l:Bytes):aJ (cZ k j s) (ay l)=some (ay l):=by
 induction l with
 |nil=>rfl
 |cons c l ih=>
  have:aJ (cZ k j s) (AV.v (u8 c)::ay l)=some (AV.v (u8 c)::ay l):=by simp[aJ,cZ,cl,view,ih]
  exact this
theorem Pc:((0:Nat):Int)=0:=rfl
theorem Pf:((1:Nat):Int)=1:=rfl
theorem uG {α β:Type} (l:List α) (f:α→β):List.take l.length (l.map f)=l.map f:=by rw[←List.length_map (f:=f),List.take_length]
def cellsOf (l:List PV):List AV:=(l.flatMap PV.cells).map .v
theorem af (l:List PV) (n:Nat):(∀c,c∈cellsOf l→c.bd n=true)=True:=by
 simp only[eq_iff_iff,iff_true];intro c hc;simp only[cellsOf,List.mem_map]at hc;obtain⟨y,-,rfl⟩:=hc;rfl
theorem dA (hf:Nat→Option aq) (f:Nat) (l:List PV):aJ (view hf (f+1)) (l.map .v)=some l:=by
 induction l with
 |nil=>rfl
 |cons x l ih=>simp[aJ,view,ih]
theorem Ks (l:List PV):PV.cells (.agg l)=l:=rfl
theorem Pb (x:Bool):PV.cells (.b x)=[.b x]:=rfl
theorem Ob (x:Bool):AV.cells (.v (.b x))=[.v (.b x)]:=rfl
theorem OQ (x:Bool):PV.one (.b x)=true:=rfl
theorem NI (x:Bool):AV.iX (.v (.b x))=true:=rfl
theorem OG (k:IntKind) (n:Int):PV.cells (.i k n)=[.i k n]:=rfl
theorem L0 (k:IntKind) (n:Int):AV.cells (.v (.i k n))=[.v (.i k n)]:=rfl
theorem Qq (k:IntKind) (n:Int):PV.one (.i k n)=true:=rfl
theorem Mj (k:IntKind) (n:Int):AV.iX (.v (.i k n))=true:=rfl
theorem Pm (x:Bytes):PV.cells (.s x)=[.s x]:=rfl
theorem Lz (x:Bytes):AV.cells (.v (.s x))=[.v (.s x)]:=rfl
theorem OZ (x:Bytes):PV.one (.s x)=true:=rfl
theorem MG (x:Bytes):AV.iX (.v (.s x))=true:=rfl
theorem Ko (l:List PV):PV.cells (.tup l)=[.tup l]:=rfl
theorem EC (l:List PV):AV.cells (.v (.tup l))=[.v (.tup l)]:=rfl
theorem HX (l:List PV):PV.one (.tup l)=false:=rfl
theorem EB (l:List PV):AV.iX (.v (.tup l))=false:=rfl
theorem Nw (l:List PV):PV.cells (.sl l)=[.sl l]:=rfl
theorem IW (l:List PV):AV.cells (.v (.sl l))=[.v (.sl l)]:=rfl
theorem Lw (l:List PV):PV.one (.sl l)=true:=rfl
theorem J2 (l:List PV):AV.iX (.v (.sl l))=true:=rfl
theorem My (f:Fn):PV.cells (.fn f)=[.fn f]:=rfl
theorem HA (f:Fn):AV.cells (.v (.fn f))=[.v (.fn f)]:=rfl
theorem Nx (f:Fn):PV.one (.fn f)=true:=rfl
theorem Kl (f:Fn):AV.iX (.v (.fn f))=true:=rfl
theorem IZ:PV.cells (.fn0)=[.fn0]:=rfl
theorem GH:AV.cells (.v (.fn0))=[.v (.fn0)]:=rfl
theorem Km:PV.one (.fn0)=true:=rfl
theorem Gs:AV.iX (.v (.fn0))=true:=rfl
theorem LP:PV.cells (.p0)=[.p0]:=rfl
theorem HM:AV.cells (.v (.p0))=[.v (.p0)]:=rfl
theorem Mo:PV.one (.p0)=true:=rfl
theorem HL:AV.iX (.v (.p0))=true:=rfl
theorem H2:PV.cells (.if0)=[.if0]:=rfl
theorem EJ:AV.cells (.v (.if0))=[.v (.if0)]:=rfl
theorem HN:PV.one (.if0)=true:=rfl
theorem Ei:AV.iX (.v (.if0))=true:=rfl
theorem ID (t:TypeId) (v:PV):PV.cells (.ifc t v)=[.ifc t v]:=rfl
theorem FK (t:TypeId) (v:PV):AV.cells (.v (.ifc t v))=[.v (.ifc t v)]:=rfl
theorem Io (t:TypeId) (v:PV):PV.one (.ifc t v)=true:=rfl
theorem GQ (t:TypeId) (v:PV):AV.iX (.v (.ifc t v))=true:=rfl
theorem H3 (l:List PV):PV.one (.agg l)=false:=rfl
theorem Gj (l:List PV):AV.cells (.v (.agg l))=l.map .v:=rfl
theorem Hk (l:List PV):AV.iX (.v (.agg l))=true:=rfl
theorem PQ (n v o:Nat):AV.cells (.p n v o)=[.p n v o]:=rfl
theorem Pu (n v o:Nat):AV.iX (.p n v o)=true:=rfl
theorem OU (n v o:Nat):AV.one (.p n v o)=true:=rfl
theorem NN (x:PV) (o:Nat):AV.cells (.pp x o)=[.pp x o]:=rfl
theorem Nc (x:PV) (o:Nat):AV.iX (.pp x o)=true:=rfl
theorem LX (x:PV) (o:Nat):AV.one (.pp x o)=true:=rfl
theorem Lt (n v o l z:Nat):AV.cells (.rs n v o l z)=[.rs n v o l z]:=rfl
theorem Mn (n v o l z:Nat):AV.iX (.rs n v o l z)=true:=rfl
theorem Mb (n v o l z:Nat):AV.one (.rs n v o l z)=true:=rfl
theorem LU (l:List PV):AV.cells (.fs l)=[.fs l]:=rfl
theorem Ol (l:List PV):AV.iX (.fs l)=true:=rfl
theorem Nz (l:List PV):AV.one (.fs l)=true:=rfl
theorem MY:AV.cells (.sn)=[.sn]:=rfl
theorem L8:AV.iX (.sn)=true:=rfl
theorem Nq:AV.one (.sn)=true:=rfl
theorem NV (f:Fn) (a c:List AV):AV.cells (.fn f a c)=[.fn f a c]:=rfl
theorem L9 (f:Fn) (a c:List AV):AV.iX (.fn f a c)=true:=rfl
theorem Ma (f:Fn) (a c:List AV):AV.one (.fn f a c)=true:=rfl
theorem NJ (x:PV) (o:Nat):PV.cells (.pt x o)=[.pt x o]:=rfl
theorem Hy (x:PV) (o:Nat):AV.cells (.v (.pt x o))=[.v (.pt x o)]:=rfl
theorem Mh (x:PV) (o:Nat):PV.one (.pt x o)=true:=rfl
theorem I9 (x:PV) (o:Nat):AV.iX (.v (.pt x o))=true:=rfl
theorem Lo (f:FuncId) (a c:List PV):PV.cells (.fc f a c)=[.fc f a c]:=rfl
theorem JD (f:FuncId) (a c:List PV):AV.cells (.v (.fc f a c))=[.v (.fc f a c)]:=rfl
theorem LA (f:FuncId) (a c:List PV):PV.one (.fc f a c)=true:=rfl
theorem I1 (f:FuncId) (a c:List PV):AV.iX (.v (.fc f a c))=true:=rfl
theorem LC:AV.cells (.ub)=[.ub]:=rfl
theorem MO:AV.iX (.ub)=true:=rfl
theorem Oe:AV.one (.ub)=true:=rfl
theorem N6 (n:Nat):AV.cells (.mp n)=[.mp n]:=rfl
theorem L7 (n:Nat):AV.iX (.mp n)=true:=rfl
theorem NF (n:Nat):AV.one (.mp n)=true:=rfl
theorem P6:AV.cells (.u)=[.u]:=rfl
theorem Qw:AV.iX (.u)=false:=rfl
theorem QE:AV.one (.u)=false:=rfl
theorem I4 (l:List AV):AV.cells (.tup l)=[.tup l]:=rfl
theorem Iu (l:List AV):AV.iX (.tup l)=false:=rfl
theorem I2 (l:List AV):AV.one (.tup l)=false:=rfl
theorem Kx (l:List AV):AV.cells (.agg l)=l:=rfl
theorem Jd (l:List AV):AV.iX (.agg l)=l.all AV.one:=rfl
theorem Jj (l:List AV):AV.one (.agg l)=false:=rfl
theorem OL (x:PV):AV.one (.v x)=x.one:=rfl
theorem HD (l:List AV):AV.isAgg (.agg l)=True:=rfl
theorem OJ (l:List PV):AV.isAgg (.v (.agg l))=True:=rfl
attribute [irreducible] KW CW RW OW CR GR BX PX CV wb Hw
def MP:Nat→List PV→List (Nat×AV)
 | _,[]=>[]
 |i,x::l=>(i, .v x)::MP (i+1) l
def B6:Nat→List AV→List (Nat×AV)
 | _,[]=>[]
 |i,x::l=>(i,x)::B6 (i+1) l
def Dc:Nat→List aq→List (Nat×aq)
 | _,[]=>[]
 |i,x::l=>(i,x)::Dc (i+1) l
theorem Nv (l:List PV):l.mapIdx (fun i x=>(i,AV.v x))=MP 0 l:=by
 have: ∀(l:List PV) (k:Nat),l.mapIdx (fun i x=>(i+k,AV.v x))=MP k l:=by
  intro l
  induction l with
  |nil=>intro k;rfl
  |cons x l ih=>
   intro k;rw[List.mapIdx_cons,MP,←ih (k+1)];have e:(fun i (x:PV)=>(i+1+k,AV.v x))=fun i x=>(i+(k+1),AV.v x):=by funext i x;congr 1;omega
   rw[e];simp
 exact this l 0
theorem IU (l:List AV):l.mapIdx (fun i x=>(i,x))=B6 0 l:=by
 have: ∀(l:List AV) (k:Nat),l.mapIdx (fun i x=>(i+k,x))=B6 k l:=by
  intro l
  induction l with
  |nil=>intro k;rfl
  |cons x l ih=>
   intro k;rw[List.mapIdx_cons,B6,←ih (k+1)];have e:(fun i (x:AV)=>(i+1+k,x))=fun i x=>(i+(k+1),x):=by funext i x;congr 1;omega
   rw[e];simp
 exact this l 0
theorem HS (l:List aq):l.mapIdx (fun i x=>(i,x))=Dc 0 l:=by
 have: ∀(l:List aq) (k:Nat),l.mapIdx (fun i x=>(i+k,x))=Dc k l:=by
  intro l
  induction l with
  |nil=>intro k;rfl
  |cons x l ih=>
   intro k;rw[List.mapIdx_cons,Dc,←ih (k+1)];have e:(fun i (x:aq)=>(i+1+k,x))=fun i x=>(i+(k+1),x):=by funext i x;congr 1;omega
   rw[e];simp
 exact this l 0
theorem aA.w {P:Program} [aX P] (hm:P.follows .mixedOrders=true) {f:FuncId} {fn:Func} {sc:SC} {rs:List j2} (hent:Enters P f f) (hfn:P.funcs[f]?=some fn) (hb:fn.body.isSome=true) (hc:comp P fn.ntmps (fn.body.getD .skip)=some sc) (hr:dC P fn.results.toList=some rs)
  {args:List PV} {r:PV} (hlen:Nat.ble args.length fn.ntmps=true) (h:CW P (CX rs r) sc [] ⟨MP 0 args,[],1000⟩):aA P f args r:=
 aA.mk' hm hent hfn hb hc hr (Nat.le_of_ble_eq_true hlen) (by rw[Nv];exact CW.start h)
theorem eL.w {P:Program} [aX P] (hm:P.follows .mixedOrders=true) {f:FuncId} {fn:Func} {sc:SC} {rs:List j2} (hent:Enters P f f) (hfn:P.funcs[f]?=some fn) (hb:fn.body.isSome=true) (hc:comp P fn.ntmps (fn.body.getD .skip)=some sc) (hr:dC P fn.results.toList=some rs)
  {obs:List aq} {args:List AV} {fs:List (Option (Option aq))} {j:Option Nat} {nw:Option aq} {v:AV} (hlen:Nat.ble args.length fn.ntmps=true) (h:CW P (dR rs obs fs j nw v) sc [] ⟨B6 0 args,Dc 0 obs,1000⟩)
  {ns:List Nat} {nm:Nat} {obsA:List aq} {avs:List AV} {v':AV} {up:List (Nat×Option aq)} (hns:ns.length≤1000) (hnd:ns.Nodup) (hln:ns.length=obsA.length) (hob:aJ (aq.aC (a7 ns)) obsA=some obs) (hav:aJ (AV.aC (a7 ns)) avs=some args)
  (hv:v.aC (dW ns nm)=some v') (hup:cL ns nm fs nw=some up):eL P f nm (ns.zip obsA) avs v' up:=
 eL.mk' hm hent hfn hb hc hr (Nat.le_of_ble_eq_true hlen) (by rw[IU,HS];exact h) hns hnd hln hob hav hv hup
attribute [go_sem] Bool.not_true Bool.not_false eq_self implies_true imp_false not_false_eq_true Jv Ng Lu Js IQ Kw MS Nb Mc IV H7 Jk I0 II Il NY Ls Nh Ir O7 AV.off AV.off.offL Mf MW LK jX L5 ON XW QC Jc HZ QU OT PU Px Pj Gc Rl OX OK PC KQ KZ NX QY QQ Qt QX RU CS Cn Fx G1 cG bj bC SX.ev aD xG zq ak GC xu fX AS.nV AS.set HV IY Jh QM PL Im HG JY Kj Is lenOf bounds jU lV AV.Qe AV.vW AV.KI zt fb aJ Ks Pb Ob OQ NI OG L0 Qq Mj Pm Lz OZ MG Ko EC HX EB Nw IW Lw J2 My HA Nx Kl IZ GH Km Gs LP HM Mo HL H2 EJ HN Ei ID FK Io GQ H3 Gj Hk PQ Pu OU NN Nc LX Lt Mn Mb LU Ol Nz MY L8 Nq NV L9 Ma P6 Qw QE N6 L7 NF I4 Iu I2 Kx Jd Jj OL HD OJ u8 allM_nil allM_cons Nu qg JL Ci zd ne_eq Int.cast_ofNat_Int Pc Pf List.flatten_cons List.flatten_nil List.flatMap_cons List.flatMap_nil IntKind.bits Nat.min_def List.take_length uG List.length_map IntWalk.i64_in IntWalk.u8_in IntWalk.u64_in decide_true decide_false Int.toNat_natCast Int.toNat_zero Int.toNat_one ite_true ite_false List.length_cons List.length_nil List.map_cons List.map_nil List.all_cons List.all_nil Bool.and_true Bool.true_and Bool.and_self Option.map_some Option.map_none List.take_succ_cons List.take_zero List.drop_succ_cons List.drop_zero List.take_nil List.drop_nil List.getD_cons_zero List.getD_cons_succ List.nil_append List.cons_append List.append_nil Nat.zero_add Nat.add_zero Nat.le_refl true_and and_true and_self true_implies forall_const Nat.mul_one Nat.one_mul KO fD e9 fF yM List.isEmpty_cons List.isEmpty_nil Bool.or_true Bool.true_or Bool.false_or Bool.or_false Bool.and_false Bool.false_and CX CN zw view qL Ea El IB DV MP B6 Dc AV.nz PV.nz NJ Hy Mh I9 Lo JD LA I1 LC MO Oe Po OS
end Go.Dom
