/- Part of the proof. -/
import Derived.IntWalk
import Derived.Attr
import Derived.Test.YtkmahpcpmgedkaaGreatDoorFB14
set_option linter.all false
namespace Go.Dom
open Go.RowKit
inductive Fr where
 |seq (b:SC)
 |blk (id:Nat)
 |lp (R:AS->Prop)
 |asg (b:SC)
 |rg (t0:List (Nat×AV)) (R:AS->Prop)
 |bk (ns:List Nat) (t0:List (Nat×AV)) (obs:List (Nat×Option aF))
def KW (P:Program) [cu P] (Q:AX->AS->Prop):List Fr->AX->AS->Prop
 |[],e,s=>Q e s
 | .seq b::K, .normal,s=>aw P b (KW P Q K) s
 | .seq _::K, .exit j,s=>KW P Q K (.exit j) s
 | .seq _::K, .ret,s=>KW P Q K .ret s
 | .blk _::K, .normal,s=>KW P Q K .normal s
 | .blk id::K, .exit j,s=>if j=id then KW P Q K .normal s else KW P Q K (.exit j) s
 | .blk _::K, .ret,s=>KW P Q K .ret s
 | .lp R:: _, .normal,s=>R s
 | .lp _::K, .exit j,s=>KW P Q K (.exit j) s
 | .lp _::K, .ret,s=>KW P Q K .ret s
 | .asg b::K, .normal,s=>aw P b (KW P Q K) s
 | .asg _:: _, .exit _,_=>False
 | .asg _:: _, .ret,_=>False
 | .bk ns t0 obs::K,e,s=>(∀p∈s.h,∀c∈p.2.cells,c.off ns=true)/\KW P Q K e ⟨t0,lT s.h obs,s.nx⟩
 | .rg t0 R:: _, .normal,s=>R {s with t:=t0}
 | .rg t0 _::K, .exit j,s=>KW P Q K (.exit j) {s with t:=t0}
 | .rg t0 _::K, .ret,s=>KW P Q K .ret {s with t:=t0}
section
variable (P:Program) [cu P] (Q:AX->AS->Prop)
def CW (sc:SC) (K:List Fr) (s:AS):Prop:=aw P sc (KW P Q K) s
def QL (bf:Option (List Nat)) (tr:List (Nat×List Nat×List Nat)):Prop:=
 match bf with
 |none=>True
 |some b=>PD b tr=true
def AT (bf:Option (List Nat)) (k:Nat) (rs:List Nat) (up:List (Nat×Option aF)) (tr:List (Nat×List Nat×List Nat)):List (Nat×List Nat×List Nat):=
 match bf with
 |none=>[]
 |some _=>(k,rs,up.map (·.1))::tr
def RW (nx:Nat) (bf:Option (List Nat)) (n:Nat) (ops:List kA) (k:Nat) (s:AS) (tr:List (Nat×List Nat×List Nat)) (K:List Fr):Prop:=
 match bf with
 |none=>rz P nx ops k s fun s'=>KW P Q K .normal {s' with nx:=n}
 |some b=>Bg P nx ops k s tr fun s' tr=>PD b tr=true/\KW P Q K .normal {s' with nx:=n}
def OW (nx:Nat) (bf:Option (List Nat)) (n:Nat) (x:Option AO) (d:Option Nat) (ops:List kA) (k:Nat) (s:AS) (tr:List (Nat×List Nat×List Nat)) (K:List Fr):Prop:=
 Kw x fun ao=>RW P Q nx bf n ops (k+1) (s.uh d ao.v ao.up) (AT bf k ao.rs ao.up tr) K
def CR (nx:Nat) (bf:Option (List Nat)) (n:Nat) (nm:Nat) (fv:AV) (avs:List AV) (d:Option Nat) (ops:List kA) (k:Nat) (s:AS) (tr:List (Nat×List Nat×List Nat)) (K:List Fr):Prop:=
 HY P nm s.h fv avs fun ao=>RW P Q nx bf n ops (k+1) (s.uh d ao.v ao.up) (AT bf k ao.rs ao.up tr) K
def GR (nx:Nat) (bf:Option (List Nat)) (n:Nat) (v:AV) (t:Nat) (want:Bool) (d:Option Nat) (o:SO) (ops:List kA) (k:Nat) (s:AS) (tr:List (Nat×List Nat×List Nat)) (K:List Fr):Prop:=
 Q9 v t want s (fun s=>RW P Q nx bf n (⟨d,o,none⟩::ops) k s tr K) (fun s=>RW P Q nx bf n ops (k+1) (s.uh d (.v (.tup [])) []) (AT bf k [] [] tr) K)
def CV (v:AV) (a b:SC) (K:List Fr) (s:AS):Prop:=Il v (CW P Q a K s) (CW P Q b K s)
inductive BK where
 |cw (a b:SC) (K:List Fr) (s:AS)
 |gd (nx:Nat) (bf:Option (List Nat)) (n:Nat) (t:Nat) (want:Bool) (d:Option Nat) (o:SO) (ops:List kA) (k:Nat) (s:AS) (tr:List (Nat×List Nat×List Nat)) (K:List Fr)
 |ng (κ:BK)
def BX (c:Bool):BK->Prop
 | .cw a b K s=>yR c (CW P Q a K s) (CW P Q b K s)
 | .gd nx bf n t want d o ops k s tr K=>GR P Q nx bf n (.v (.b c)) t want d o ops k s tr K
 | .ng κ=>BX (!c) κ
def PX (p:Prop) (κ:BK):Prop:=(p->BX P Q true κ)/\(¬p->BX P Q false κ)
def PC (ps:List Nat) (a b:SC) (K:List Fr) (t0:List (Nat×AV)) (N:Nat) (fin:Bool) (xs:List (List PV)) (s:AS):Prop:=
 W5 (fun y Qx s1=>aw P a (fun e s2=>match e with
  | .normal=>aw P b Qx s2
  | _=>False) {s1 with t:=qy s1.t ps y}) (KW P Q K) t0 N fin xs s
def yN (a:SC) (K:List Fr) (N:Nat) (s:AS):Prop:=wJ (aw P a) (KW P Q K) N s
variable {P Q}
variable {κ:BK}
theorem CW.start {sc:SC} {s:AS} (h:CW P Q sc [] s):aw P sc Q s:=by
 have:KW P Q []=Q:=by funext e s;rfl
 unfold CW at h;rw[this]at h;exact h
theorem mw.mk' {f:FuncId} {fn:Func} {sc:SC} {rs:List pZ} (hm:P.follows .mixedOrders=true) (hent:Enters P f f) (hfn:P.funcs[f]?=some fn) (hb:fn.body.isSome=true) (hc:comp P fn.ntmps (fn.body.getD .skip)=some sc) (hr:gO P fn.results.toList=some rs)
  {obs:List aF} {args:List AV} {fs:List (Option (Option aF))} {j:Option Nat} {nw:Option aF} {v:AV} (hlen:args.length<=fn.ntmps) (h:CW P (kB rs obs fs j nw v) sc [] ⟨args.mapIdx (fun i x=>(i,x)),obs.mapIdx (fun i x=>(i,x)),1000⟩)
  {ns:List Nat} {nm:Nat} {obsA:List aF} {avs:List AV} {v':AV} {up:List (Nat×Option aF)} (hns:ns.length<=1000) (hnd:ns.Nodup) (hln:ns.length=obsA.length) (hob:bz (aF.aY (dP ns)) obsA=some obs) (hav:bz (AV.aY (dP ns)) avs=some args)
  (hv:v.aY (kC ns nm)=some v') (hup:gY ns nm fs nw=some up):mw P f nm (ns.zip obsA) avs v' up:=by
 obtain⟨code,hcode⟩:=uJ.1 hb;rw[hcode]at hc;exact mw.NN hm hent hfn hcode hc hr hlen (CW.start h) hns hnd hln hob hav hv hup
theorem PO (K:List Fr) (s:AS):CW P Q .skip K s=KW P Q K .normal s:=rfl
theorem TU (a b:SC) (K:List Fr) (s:AS):CW P Q (.seq a b) K s=CW P Q a (.seq b::K) s:=by
 simp only[CW,aw];congr 1
 funext e s'
 cases e<;>rfl
theorem TQ (id:Nat) (a:SC) (K:List Fr) (s:AS):CW P Q (.blk id a) K s=CW P Q a (.blk id::K) s:=by
 simp only[CW,aw];congr 1
 funext e s'
 cases e<;>rfl
theorem PL (x:SX) (a b:SC) (K:List Fr) (s:AS):CW P Q (.cond x a b) K s=CV P Q (x.ev (aO s.t)) a b K s:=rfl
theorem Zq (c:Bool) (a b:SC) (K:List Fr) (s:AS):CV P Q (.v (.b c)) a b K s=BX P Q c (.cw a b K s):=rfl
theorem WQ (a b:SC) (K:List Fr) (s:AS):BX P Q true (.cw a b K s)=CW P Q a K s:=by simp only[BX,rT]
theorem WL (a b:SC) (K:List Fr) (s:AS):BX P Q false (.cw a b K s)=CW P Q b K s:=by simp only[BX,qd]
theorem SY (κ:BK):BX P Q true (.ng κ)=BX P Q false κ:=by simp only[BX,bQ]
theorem SW (κ:BK):BX P Q false (.ng κ)=BX P Q true κ:=by simp only[BX,ca]
theorem TN (c:Bool) (κ:BK):BX P Q (!c) κ=BX P Q c (.ng κ):=by simp only[BX]
theorem PI {c:Bool} (h:c=true):BX P Q c κ=BX P Q true κ:=by rw[h]
theorem PH {c:Bool} (h:c=false):BX P Q c κ=BX P Q false κ:=by rw[h]
theorem LM {p:Prop} (h:p):PX P Q p κ=BX P Q true κ:=by simp only[PX,h,true_implies,uU,false_implies,and_true]
theorem LK {p:Prop} (h: ¬p):PX P Q p κ=BX P Q false κ:=by simp only[PX,h,false_implies,lH,true_implies,rk]
theorem Zz (κ:BK):PX P Q True κ=BX P Q true κ:=LM trivial
theorem Zy (κ:BK):PX P Q False κ=BX P Q false κ:=LK id
theorem Zm (p:Prop) [Decidable p] (κ:BK):BX P Q (decide p) κ=PX P Q p κ:=by
 by_cases h:p
 ·rw[PI (aI h),LM h]
 ·rw[PH (aH h),LK h]
theorem Zn (x y:Int) (κ:BK):BX P Q (x==y) κ=PX P Q (x=y) κ:=by
 by_cases h:x=y
 ·rw[PI (by simpa using h),LM h]
 ·rw[PH (by simpa using h),LK h]
theorem WM (x y:Int) (κ:BK):BX P Q (x !=y) κ=PX P Q (x=y) (.ng κ):=by
 by_cases h:x=y
 ·rw[PH (by simpa using h),LM h,SY]
 ·rw[PI (by simpa using h),LK h,SW]
theorem BX.mk {c:Bool} (h1:c=true->BX P Q true κ) (h2:c=false->BX P Q false κ):BX P Q c κ:=by
 cases c
 ·exact h2 rfl
 ·exact h1 rfl
theorem PX.mk {p:Prop} (h1:p->BX P Q true κ) (h2: ¬p->BX P Q false κ):PX P Q p κ:=⟨h1,h2⟩
theorem WV (a b:SC) (K:List Fr) (s:AS):CV P Q .ub a b K s=(CW P Q a K s/\CW P Q b K s):=rfl
theorem PN (a:SC) (K:List Fr) (s:AS):CW P Q (.loop a) K s=yN P Q a K s.nx s:=rfl
theorem PM (id:Nat) (K:List Fr) (s:AS):CW P Q (.exit id) K s=KW P Q K (.exit id) s:=rfl
theorem TT (K:List Fr) (s:AS):CW P Q .ret K s=KW P Q K .ret s:=rfl
theorem TS (bf:Option (List Nat)) (ops:List kA) (K:List Fr) (s:AS):CW P Q (.reg bf ops) K s=RW P Q s.nx bf (s.nx+ops.length) ops 0 s [] K:=by
 cases bf<;>rfl
theorem T0 (e:AX) (s:AS):KW P Q [] e s=Q e s:=rfl
theorem P3 (b:SC) (K:List Fr) (s:AS):KW P Q (.seq b::K) .normal s=CW P Q b K s:=rfl
theorem P2 (b:SC) (K:List Fr) (j:Nat) (s:AS):KW P Q (.seq b::K) (.exit j) s=KW P Q K (.exit j) s:=rfl
theorem P4 (b:SC) (K:List Fr) (s:AS):KW P Q (.seq b::K) .ret s=KW P Q K .ret s:=rfl
theorem P0 (i:Nat) (K:List Fr) (s:AS):KW P Q (.blk i::K) .normal s=KW P Q K .normal s:=rfl
theorem PZ (i:Nat) (K:List Fr) (j:Nat) (s:AS):KW P Q (.blk i::K) (.exit j) s=if j=i then KW P Q K .normal s else KW P Q K (.exit j) s:=rfl
theorem P1 (i:Nat) (K:List Fr) (s:AS):KW P Q (.blk i::K) .ret s=KW P Q K .ret s:=rfl
theorem LC {x:SX} {ps:List Nat} {a b:SC} {K:List Fr} {s:AS} {g:FuncId} {caps:List PV} {fin:Bool} {xs:List (List PV)} (hi:Y9 P g caps fin xs) (hx:x.ev (aO s.t)= .v (.fc g [] caps)) (hl: ∀y∈xs,y.length=ps.length) (h:PC P Q ps a b K s.t s.nx fin xs s):CW P Q (.rng x ps a b) K s:=by
 have e:rB [] s (KW P Q K)=KW P Q K:=by funext e s';simp[rB]
 refine⟨g,caps,fin,xs,[],by rw[hx];rfl,by rw[hx];simp[aV],by simp,hi,fun y hy=>⟨hl y hy, .inl rfl⟩,?_⟩
 rw[e];exact h
section
variable {ps:List Nat} {a b:SC} {K:List Fr} {t0:List (Nat×AV)} {N:Nat} {s:AS} {fin:Bool}
variable {xs ys:List (List PV)}
theorem V9 (h:KW P Q K .normal s):PC P Q ps a b K t0 N true [] s:=fun X h1 _ _=>h1 _ rfl h
theorem Jc {s':AS} (hN:N<=s'.nx) (hle:s'.Le s) (h:PC P Q ps a b K t0 N fin ys s'):PC P Q ps a b K t0 N fin ys s:=fun X h1 h2 h3=>h3 ys s' s hN hle (h X h1 h2 h3)
theorem So {y:List PV} (h:CW P Q a (.asg b:: .rg t0 (PC P Q ps a b K t0 N fin ys)::K) {s with t:=qy s.t ps y}):PC P Q ps a b K t0 N fin (y::ys) s:=by
 intro X h1 h2 h3;refine h2 y ys s (qG (fun e s2 hs=> ?_) h)
 cases e with
 |normal=>
  refine qG (fun e s3 hs3=> ?_) hs
  cases e with
  |normal=>exact hs3 X h1 h2 h3
  |exit j=>exact hs3
  |ret=>exact hs3
 |exit j=>exact hs
 |ret=>exact hs
theorem Jb {α:Type} (st:α->AS) (ok:List (List PV)->α->Prop) (a0:α) (hN: ∀x,N<=(st x).nx) (h0:ok xs a0) (hle:(st a0).Le s) (hnil: ∀x,ok [] x->fin=true/\KW P Q K .normal (st x))
  (hcons: ∀y ys x,ok (y::ys) x-> ∀R:AS->Prop,(∀x',ok ys x'-> ∀s',(st x').Le s'->R s')->CW P Q a (.asg b:: .rg t0 R::K) {st x with t:=qy (st x).t ps y}):PC P Q ps a b K t0 N fin xs s:=by
 refine Jc (hN a0) hle ?_;clear hle
 induction xs generalizing a0 with
 |nil=>
  obtain⟨rfl,h⟩:=hnil a0 h0;exact V9 h
 |cons y ys ih=>exact So (hcons y ys a0 h0 _ fun x' hx' s' hs'=>Jc (hN x') hs' (ih x' hx'))
theorem Wa {α:Type} (st:α->AS) (ok:List (List PV)->α->Prop) (a0:α) (hN: ∀x,N<=(st x).nx) (h0:ok xs a0) (hle:(st a0).Le s) (hnil: ∀x,ok [] x->KW P Q K .normal (st x))
  (hcons: ∀y ys x,ok (y::ys) x-> ∀R:AS->Prop,(∀x',ok ys x'-> ∀s',(st x').Le s'->R s')->CW P Q a (.asg b:: .rg t0 R::K) {st x with t:=qy (st x).t ps y}):PC P Q ps a b K t0 N true xs s:=
 Jb st ok a0 hN h0 hle (fun x h=>⟨rfl,hnil x h⟩) hcons
theorem Sp {α:Type} (st:α->AS) (ok:List (List PV)->α->Prop) (a0:α) (hN: ∀x,N<=(st x).nx) (h0:ok xs a0) (hle:(st a0).Le s) (hnil: ∀x,¬ok [] x)
  (hcons: ∀y ys x,ok (y::ys) x-> ∀R:AS->Prop,(∀x',ok ys x'-> ∀s',(st x').Le s'->R s')->CW P Q a (.asg b:: .rg t0 R::K) {st x with t:=qy (st x).t ps y}):PC P Q ps a b K t0 N false xs s:=
 Jb st ok a0 hN h0 hle (fun x h=>(hnil x h).elim) hcons
end
theorem PW (b:SC) (K:List Fr) (s:AS):KW P Q (.asg b::K) .normal s=CW P Q b K s:=rfl
theorem WX (ns:List Nat) (t0:List (Nat×AV)) (obs:List (Nat×Option aF)) (K:List Fr) (e:AX) (s:AS):KW P Q (.bk ns t0 obs::K) e s=((∀p∈s.h,∀c∈p.2.cells,c.off ns=true)/\KW P Q K e ⟨t0,lT s.h obs,s.nx⟩):=rfl
theorem T2 (t0:List (Nat×AV)) (R:AS->Prop) (K:List Fr) (s:AS):KW P Q (.rg t0 R::K) .normal s=R ⟨t0,s.h,s.nx⟩:=rfl
theorem T1 (t0:List (Nat×AV)) (R:AS->Prop) (K:List Fr) (j:Nat) (s:AS):KW P Q (.rg t0 R::K) (.exit j) s=KW P Q K (.exit j) ⟨t0,s.h,s.nx⟩:=rfl
theorem T3 (t0:List (Nat×AV)) (R:AS->Prop) (K:List Fr) (s:AS):KW P Q (.rg t0 R::K) .ret s=KW P Q K .ret ⟨t0,s.h,s.nx⟩:=rfl
theorem TY (R:AS->Prop) (K:List Fr) (s:AS):KW P Q (.lp R::K) .normal s=R s:=rfl
theorem TX (R:AS->Prop) (K:List Fr) (j:Nat) (s:AS):KW P Q (.lp R::K) (.exit j) s=KW P Q K (.exit j) s:=rfl
theorem TZ (R:AS->Prop) (K:List Fr) (s:AS):KW P Q (.lp R::K) .ret s=KW P Q K .ret s:=rfl
section
variable (nx:Nat) (bf:Option (List Nat)) (n:Nat) (d:Option Nat) (ops:List kA) (k:Nat) (s:AS) (tr:List (Nat×List Nat×List Nat)) (K:List Fr)
variable {avs:List AV} {f:FuncId} {nm:Nat} {pvs:List PV}
theorem T9:RW P Q nx bf n [] k s tr K=(QL bf tr/\KW P Q K .normal {s with nx:=n}):=by
 cases bf
 ·simp only[RW,rz,QL,rk]
 ·rfl
def XW (P:Program) [cu P] (Q:AX->AS->Prop) (nx:Nat) (bf:Option (List Nat)) (n:Nat) (o:SO) (d:Option Nat) (ops:List kA) (k:Nat) (s:AS) (tr:List (Nat×List Nat×List Nat)) (K:List Fr):Prop:=
 match o with
 | .call f args=>CR P Q nx bf n (nx+k) (f.ev (aO s.t)) (args.map (SX.ev (aO s.t))) d ops k s tr K
 |o=>OW P Q nx bf n (fm (nx+k) o (aO s.t) (az s.h)) d ops k s tr K
theorem W0 (o:SO):RW P Q nx bf n (⟨d,o,none⟩::ops) k s tr K=XW P Q nx bf n o d ops k s tr K:=by
 cases o<;>cases bf<;>rfl
theorem WZ (o:SO) (t:Nat) (want:Bool):RW P Q nx bf n (⟨d,o,some (t,want)⟩::ops) k s tr K=GR P Q nx bf n (aO s.t t) t want d o ops k s tr K:=by
 cases bf<;>rfl
theorem P6 (v:AV) (p:Prop) (rs:List Nat) (up:List (Nat×Option aF)):OW P Q nx bf n (some ⟨v,p,rs,up⟩) d ops k s tr K=(p/\RW P Q nx bf n ops (k+1) (s.uh d v up) (AT bf k rs up tr) K):=rfl
theorem P5:OW P Q nx bf n none d ops k s tr K=False:=rfl
theorem Zt (x:Bool) (t:Nat) (want:Bool) (o:SO):GR P Q nx bf n (.v (.b x)) t want d o ops k s tr K=BX P Q x (.gd nx bf n t want d o ops k s tr K):=rfl
theorem WO (t:Nat) (o:SO):BX P Q true (.gd nx bf n t true d o ops k s tr K)=RW P Q nx bf n (⟨d,o,none⟩::ops) k (s.set t (.v (.b true))) tr K:=by simp only[BX,GR,Q9,rT]
theorem WK (t:Nat) (o:SO):BX P Q false (.gd nx bf n t true d o ops k s tr K)=RW P Q nx bf n ops (k+1) ((s.set t (.v (.b false))).uh d (.v (.tup [])) []) (AT bf k [] [] tr) K:=by simp only[BX,GR,Q9,qd]
theorem WN (t:Nat) (o:SO):BX P Q true (.gd nx bf n t false d o ops k s tr K)=RW P Q nx bf n ops (k+1) ((s.set t (.v (.b true))).uh d (.v (.tup [])) []) (AT bf k [] [] tr) K:=by simp only[BX,GR,Q9,rT]
theorem WJ (t:Nat) (o:SO):BX P Q false (.gd nx bf n t false d o ops k s tr K)=RW P Q nx bf n (⟨d,o,none⟩::ops) k (s.set t (.v (.b false))) tr K:=by simp only[BX,GR,Q9,qd]
theorem LG (t:Nat) (want:Bool) (o:SO):GR P Q nx bf n (.v (.tup [])) t want d o ops k s tr K=RW P Q nx bf n ops (k+1) (s.uh d (.v (.tup [])) []) (AT bf k [] [] tr) K:=by simp only[GR,Q9]
theorem JN:QL none tr=True:=rfl
theorem JO (b:List Nat):QL (some b) tr=(PD b tr=true):=rfl
theorem O9 (rs:List Nat) (up:List (Nat×Option aF)):AT none k rs up tr=[]:=rfl
theorem Pa (b:List Nat) (rs:List Nat) (up:List (Nat×Option aF)):AT (some b) k rs up tr=(k,rs,up.map (·.1))::tr:=rfl
theorem jb {nx:Nat} {bf:Option (List Nat)} {n:Nat} {d:Option Nat} {ops:List kA} {k:Nat} {s:AS} {tr:List (Nat×List Nat×List Nat)} {K:List Fr} {r:PV} (he:ry P f pvs r) (ha:og avs=some pvs) (hK:RW P Q nx bf n ops (k+1) (s.uh d (.v r) []) (AT bf k [] [] tr) K):
  CR P Q nx bf n nm (.v (.fn (.func f))) avs d ops k s tr K:=⟨_, .pure f avs pvs r rfl ha he,hK⟩
theorem WU {nx:Nat} {bf:Option (List Nat)} {n:Nat} {d:Option Nat} {ops:List kA} {k:Nat} {s:AS} {tr:List (Nat×List Nat×List Nat)} {K:List Fr} {a c:List AV}:
  CR P Q nx bf n nm (.fn (.func f) a c) avs d ops k s tr K=CR P Q nx bf n nm (.v (.fn (.func f))) (a++(avs++c)) d ops k s tr K:=by
 have h: ∀ao,ml P nm (az s.h) (.fn (.func f) a c) avs ao↔ml P nm (az s.h) (.v (.fn (.func f))) (a++(avs++c)) ao:=by
  intro ao;constructor
  ·intro h
   cases h with
   |pure f avs pvs r hfv hargs he=>exact .pure f avs pvs r hfv hargs he
   |view f avs pvs r hfv hargs hr he=>exact .view f avs pvs r hfv hargs hr he
   |kN f avs pvs r hfv hargs hlo he=>exact .kN f avs pvs r hfv hargs hlo he
   |eff f avs hs v up hfv hhs he=>exact .eff f avs hs v up hfv hhs he
   |same f v hfv he=>exact .same f v hfv he
   |ext f avs pvs r hfv hargs he=>exact .ext f avs pvs r hfv hargs he
  ·intro h
   cases h with
   |pure f avs pvs r hfv hargs he=>exact .pure f avs pvs r hfv hargs he
   |view f avs pvs r hfv hargs hr he=>exact .view f avs pvs r hfv hargs hr he
   |kN f avs pvs r hfv hargs hlo he=>exact .kN f avs pvs r hfv hargs hlo he
   |eff f avs hs v up hfv hhs he=>exact .eff f avs hs v up hfv hhs he
   |same f v hfv he=>exact .same f v hfv he
   |ext f avs pvs r hfv hargs he=>exact .ext f avs pvs r hfv hargs he
 unfold CR HY;simp only[h]
theorem WT {nx:Nat} {bf:Option (List Nat)} {n:Nat} {d:Option Nat} {ops:List kA} {k:Nat} {s:AS} {tr:List (Nat×List Nat×List Nat)} {K:List Fr} {a c:List PV}:
  CR P Q nx bf n nm (.v (.fc f a c)) avs d ops k s tr K=CR P Q nx bf n nm (.v (.fn (.func f))) (a.map .v++(avs++c.map .v)) d ops k s tr K:=by
 have h: ∀ao,ml P nm (az s.h) (.v (.fc f a c)) avs ao↔ml P nm (az s.h) (.v (.fn (.func f))) (a.map .v++(avs++c.map .v)) ao:=by
  intro ao;constructor
  ·intro h
   cases h with
   |pure f avs pvs r hfv hargs he=>exact .pure f avs pvs r hfv hargs he
   |view f avs pvs r hfv hargs hr he=>exact .view f avs pvs r hfv hargs hr he
   |kN f avs pvs r hfv hargs hlo he=>exact .kN f avs pvs r hfv hargs hlo he
   |eff f avs hs v up hfv hhs he=>exact .eff f avs hs v up hfv hhs he
   |same f v hfv he=>exact .same f v hfv he
   |ext f avs pvs r hfv hargs he=>exact .ext f avs pvs r hfv hargs he
  ·intro h
   cases h with
   |pure f avs pvs r hfv hargs he=>exact .pure f avs pvs r hfv hargs he
   |view f avs pvs r hfv hargs hr he=>exact .view f avs pvs r hfv hargs hr he
   |kN f avs pvs r hfv hargs hlo he=>exact .kN f avs pvs r hfv hargs hlo he
   |eff f avs hs v up hfv hhs he=>exact .eff f avs hs v up hfv hhs he
   |same f v hfv he=>exact .same f v hfv he
   |ext f avs pvs r hfv hargs he=>exact .ext f avs pvs r hfv hargs he
 unfold CR HY;simp only[h]
theorem qF {nx:Nat} {bf:Option (List Nat)} {n:Nat} {d:Option Nat} {ops:List kA} {k:Nat} {s:AS} {tr:List (Nat×List Nat×List Nat)} {K:List Fr} {r:PV} (he:ry P f pvs r) (ha:bz (view (az s.h) 9) avs=some pvs) (hr:r.flat=true) (hK:RW P Q nx bf n ops (k+1) (s.uh d (.v r) []) (AT bf k (avs.flatMap (aV (az s.h) 9)) [] tr) K):
  CR P Q nx bf n nm (.v (.fn (.func f))) avs d ops k s tr K:=⟨_, .view f avs pvs r rfl ha hr he,hK⟩
theorem nk {nx:Nat} {bf:Option (List Nat)} {n:Nat} {d:Option Nat} {ops:List kA} {k:Nat} {s:AS} {tr:List (Nat×List Nat×List Nat)} {K:List Fr} {r:PV} (ns:List Nat) (he:ry P f pvs r) (hlo:ns.all (fun n=>decide (1000<=n))=true) (hv:avs.flatMap (aV (az s.h) 9)=ns) (ha:bz (view (az s.h) 9) avs=some pvs)
  (hK:RW P Q nx bf n ops (k+1) (s.uh d (.v r) (ns.map fun n=>(n,none))) (AT bf k ns (ns.map fun n=>(n,none)) tr) K):
  CR P Q nx bf n nm (.v (.fn (.func f))) avs d ops k s tr K:=by
 subst hv;exact⟨_, .kN f avs pvs r rfl ha (fun n hn=>of_decide_eq_true (bM.1 hlo n hn)) he,hK⟩
theorem cd {nx:Nat} {bf:Option (List Nat)} {n:Nat} {d:Option Nat} {ops:List kA} {k:Nat} {s:AS} {tr:List (Nat×List Nat×List Nat)} {K:List Fr} {hs:List (Nat×aF)} {v:AV} {up:List (Nat×Option aF)} (he:mw P f nm hs avs v up) (hh: ∀p∈hs,az s.h p.1=some p.2) (hK:RW P Q nx bf n ops (k+1) (s.uh d v up) (AT bf k (hs.map (·.1)) up tr) K):
  CR P Q nx bf n nm (.v (.fn (.func f))) avs d ops k s tr K:=⟨_, .eff f avs hs v up rfl hh he,hK⟩
theorem PJ {nx:Nat} {bf:Option (List Nat)} {n:Nat} {d:Option Nat} {ops:List kA} {k:Nat} {s:AS} {tr:List (Nat×List Nat×List Nat)} {K:List Fr} {v:AV} (he:Zr P f) (hK:RW P Q nx bf n ops (k+1) (s.uh d v []) (AT bf k [] [] tr) K):
  CR P Q nx bf n nm (.v (.fn (.func f))) [v] d ops k s tr K:=⟨_, .same f v rfl he,hK⟩
end
variable {h h':List (Nat×aF)} {n n':Nat} {t t':List (Nat×AV)}
theorem TP {nx:Nat} {bf:Option (List Nat)} {d:Option Nat} {ops:List kA} {k:Nat} {s:AS} {tr:List (Nat×List Nat×List Nat)} {K:List Fr} {nm:Nat} {f:FuncId} {avs:List AV} {pvs:List PV} {r:PV} (he:Zs P f pvs r) (ha:og avs=some pvs) (hK:RW P Q nx bf n ops (k+1) (s.uh d (.v r) []) (AT bf k [] [] tr) K):
  CR P Q nx bf n nm (.v (.fn (.func f))) avs d ops k s tr K:=⟨_, .ext f avs pvs r rfl ha he,hK⟩
theorem ai {a:SC} {K:List Fr} {N:Nat} {s:AS} (h:CW P Q a (.lp (yN P Q a K N)::K) s):yN P Q a K N s:=by
 refine wR (qG (fun e s' hs=> ?_) h)
 cases e<;>exact hs
theorem af {a:SC} {K:List Fr} {N:Nat} {s:AS} {α:Type} (m:α->Nat) (st:α->AS) (ok:α->Prop) (a0:α) (hN: ∀x,N<=(st x).nx) (h0:ok a0) (hle:(st a0).Le s)
  (hr: ∀x,ok x-> ∀R:AS->Prop,(∀y,ok y->m y<m x-> ∀s',(st y).Le s'->R s')->CW P Q a (.lp R::K) (st x)):yN P Q a K N s:=by
 refine Kl m st ok a0 hN h0 hle fun x hx=> ?_
 refine qG (fun e s' hs=> ?_) (hr x hx (fun s'=> ∃y,ok y/\m y<m x/\(st y).Le s') fun y h1 h2 s' h3=>⟨y,h1,h2,h3⟩)
 cases e<;>exact hs
def dy (t:List (Nat×AV)) (n:Nat):List (Nat×AV)->Prop
 |[]=>True
 |(k,v)::r=>aO t k=v/\v.bd n=true/\dy t n r
def dx (h:List (Nat×aF)) (n:Nat):List (Nat×aF)->Prop
 |[]=>True
 |(k,v)::r=>az h k=some v/\k<n/\(∀c∈v.cells,c.bd n=true)/\dx h n r
theorem AS.Le.LA (z:List (Nat×PV)) (ns:List Nat) (hns: ∀m∈ns,1000<=m/\az h m=none) (hz: ∀q∈z,view (az h') 9 (aO t' q.1)=some q.2/\ ∀m∈aV (az h') 9 (aO t' q.1),m∈ns) (hn:n<=n') (ht:dy t' n t) (hh:dx h' n h):(AS.mk (z.map (fun q=>(q.1,AV.v q.2))++t) h n).Le ⟨t',h',n'⟩:=by
 have h1: ∀(t:List (Nat×AV)),dy t' n t-> ∀p∈t,aO t' p.1=p.2/\p.2.bd n=true:=by
  intro t
  induction t with
  |nil=>intro _ p hp;cases hp
  |cons q t ih=>
   obtain⟨k,v⟩:=q;intro hq p hp;rcases cr.1 hp with rfl|hp
   ·exact⟨hq.1,hq.2.1⟩
   ·exact ih hq.2.2 p hp
 have h2: ∀(h:List (Nat×aF)),dx h' n h-> ∀p∈h,az h' p.1=some p.2/\p.1<n/\ ∀c∈p.2.cells,c.bd n=true:=by
  intro h
  induction h with
  |nil=>intro _ p hp;cases hp
  |cons q h ih=>
   obtain⟨k,v⟩:=q;intro hq p hp;rcases cr.1 hp with rfl|hp
   ·exact⟨hq.1,hq.2.1,hq.2.2.1⟩
   ·exact ih hq.2.2.2 p hp
 refine⟨⟨ns,hns,fun p hp=> ?_⟩,fun p hp=>(h2 h hh p hp).1,hn,fun p hp=> ?_,fun p hp=>(h2 h hh p hp).2⟩<;>rcases il.1 hp with hp|hp
 ·obtain⟨q,hq,rfl⟩:=bG.1 hp;exact .inr ⟨q.2,rfl,(hz q hq).1,(hz q hq).2⟩
 ·exact .inl (h1 t ht p hp).1
 ·obtain⟨q,hq,rfl⟩:=bG.1 hp;rfl
 ·exact(h1 t ht p hp).2
theorem AS.Le.of (hn:n<=n') (ht:dy t' n t) (hh:dx h' n h):(AS.mk t h n).Le ⟨t',h',n'⟩:=AS.Le.LA [] [] (fun _ h=>by cases h) (fun _ h=>by cases h) hn ht hh
end
theorem allM_nil {α:Type} (p:α->Prop):(∀x,x∈([]:List α)->p x)=True:=by simp
theorem allM_cons {α:Type} (a:α) (l:List α) (p:α->Prop):(∀x,x∈a::l->p x)=(p a/\ ∀x,x∈l->p x):=by simp
theorem UJ (k:IntKind) (n:Int):PV.byte (.i k n)=UInt8.ofNat n.toNat:=rfl
theorem zD (n:Int):PV.isByte (.i .u8 n)=True:=rfl
theorem Qg (x:PV):AV.byte (.v x)=x.byte:=rfl
theorem JC (x:PV):AV.isByte (.v x)=x.isByte:=rfl
theorem G3 (c:UInt8):UInt8.ofNat c.toNat=c:=by simp
def aG (l:Bytes):List AV:=l.map fun c=> .v (u8 c)
theorem S6 (l:Bytes):List.map (fun c:UInt8=>AV.v (PV.i IntKind.u8 (c.toNat:Int))) l=aG l:=rfl
theorem kH (l:Bytes):(aG l).length=l.length:=by simp[aG]
theorem jF (l:Bytes):List.take l.length (aG l)=aG l:=cb (by simp[aG])
theorem kG (l m:Bytes):aG l++aG m=aG (l++m):=by simp[aG]
theorem Gy (l:Bytes):(∀y,y∈aG l->y.one=true)=True:=by
 simp only[eq_iff_iff,iff_true];intro y hy;obtain⟨c,-,rfl⟩:=bG.1 hy;rfl
theorem ax (l:Bytes) (n:Nat):(∀y,y∈aG l->y.bd n=true)=True:=by
 simp only[eq_iff_iff,iff_true];intro y hy;obtain⟨c,-,rfl⟩:=bG.1 hy;rfl
theorem jD (l:Bytes):(aG l).map AV.byte=l:=by
 induction l with
 |nil=>rfl
 |cons c l ih=>simp_all[aG,AV.byte,PV.byte,u8]
theorem JG (l:Bytes):(∀y,y∈aG l->y= .v (u8 y.byte))=True:=by
 simp only[eq_iff_iff,iff_true];intro y hy;obtain⟨c,-,rfl⟩:=bG.1 hy;simp[AV.byte,PV.byte,u8]
theorem aM (f:Nat->Option Nat) (l:Bytes):AV.aY.renL f (aG l)=some (aG l):=by
 induction l with
 |nil=>rfl
 |cons c l ih=>
  have:AV.aY.renL f (AV.v (u8 c)::aG l)=some (AV.v (u8 c)::aG l):=by simp[AV.aY.renL,AV.aY,ih]
  exact this
theorem aU (k:Nat) (j:Option Nat) (s:AS) (l:Bytes):bz (ic k j s) (aG l)=some (aG l):=by
 induction l with
 |nil=>rfl
 |cons c l ih=>
  have:bz (ic k j s) (AV.v (u8 c)::aG l)=some (AV.v (u8 c)::aG l):=by simp[bz,ic,fM,view,ih]
  exact this
theorem Xk:((0:Nat):Int)=0:=rfl
theorem Xl:((1:Nat):Int)=1:=rfl
theorem DB {α β:Type} (l:List α) (f:α->β):List.take l.length (l.map f)=l.map f:=by rw[<-aB (f:=f),ct]
def cellsOf (l:List PV):List AV:=(l.flatMap PV.cells).map .v
theorem ar (l:List PV) (n:Nat):(∀c,c∈cellsOf l->c.bd n=true)=True:=by
 simp only[eq_iff_iff,iff_true];intro c hc;simp only[cellsOf,bG]at hc;obtain⟨y,-,rfl⟩:=hc;rfl
theorem eQ (hf:Nat->Option aF) (f:Nat) (l:List PV):bz (view hf (f+1)) (l.map .v)=some l:=by
 induction l with
 |nil=>rfl
 |cons x l ih=>simp[bz,view,ih]
theorem RU (l:List PV):PV.cells (.agg l)=l:=rfl
theorem XT (x:Bool):PV.cells (.b x)=[.b x]:=rfl
theorem Um (x:Bool):AV.cells (.v (.b x))=[.v (.b x)]:=rfl
theorem XX (x:Bool):PV.one (.b x)=true:=rfl
theorem Uw (x:Bool):AV.oj (.v (.b x))=true:=rfl
theorem XU (k:IntKind) (n:Int):PV.cells (.i k n)=[.i k n]:=rfl
theorem Un (k:IntKind) (n:Int):AV.cells (.v (.i k n))=[.v (.i k n)]:=rfl
theorem XY (k:IntKind) (n:Int):PV.one (.i k n)=true:=rfl
theorem Ux (k:IntKind) (n:Int):AV.oj (.v (.i k n))=true:=rfl
theorem XV (x:Bytes):PV.cells (.s x)=[.s x]:=rfl
theorem Uo (x:Bytes):AV.cells (.v (.s x))=[.v (.s x)]:=rfl
theorem XZ (x:Bytes):PV.one (.s x)=true:=rfl
theorem Uy (x:Bytes):AV.oj (.v (.s x))=true:=rfl
theorem RZ (l:List PV):PV.cells (.tup l)=[.tup l]:=rfl
theorem L4 (l:List PV):AV.cells (.v (.tup l))=[.v (.tup l)]:=rfl
theorem R8 (l:List PV):PV.one (.tup l)=false:=rfl
theorem L9 (l:List PV):AV.oj (.v (.tup l))=false:=rfl
theorem VT (l:List PV):PV.cells (.sl l)=[.sl l]:=rfl
theorem Qt (l:List PV):AV.cells (.v (.sl l))=[.v (.sl l)]:=rfl
theorem VY (l:List PV):PV.one (.sl l)=true:=rfl
theorem QC (l:List PV):AV.oj (.v (.sl l))=true:=rfl
theorem VQ (f:Fn):PV.cells (.fn f)=[.fn f]:=rfl
theorem Qq (f:Fn):AV.cells (.v (.fn f))=[.v (.fn f)]:=rfl
theorem VV (f:Fn):PV.one (.fn f)=true:=rfl
theorem Qz (f:Fn):AV.oj (.v (.fn f))=true:=rfl
theorem RV:PV.cells (.fn0)=[.fn0]:=rfl
theorem L1:AV.cells (.v (.fn0))=[.v (.fn0)]:=rfl
theorem R5:PV.one (.fn0)=true:=rfl
theorem L6:AV.oj (.v (.fn0))=true:=rfl
theorem VR:PV.cells (.p0)=[.p0]:=rfl
theorem Qr:AV.cells (.v (.p0))=[.v (.p0)]:=rfl
theorem VW:PV.one (.p0)=true:=rfl
theorem QA:AV.oj (.v (.p0))=true:=rfl
theorem RX:PV.cells (.if0)=[.if0]:=rfl
theorem L2:AV.cells (.v (.if0))=[.v (.if0)]:=rfl
theorem R6:PV.one (.if0)=true:=rfl
theorem L7:AV.oj (.v (.if0))=true:=rfl
theorem RY (t:TypeId) (v:PV):PV.cells (.ifc t v)=[.ifc t v]:=rfl
theorem L3 (t:TypeId) (v:PV):AV.cells (.v (.ifc t v))=[.v (.ifc t v)]:=rfl
theorem R7 (t:TypeId) (v:PV):PV.one (.ifc t v)=true:=rfl
theorem L8 (t:TypeId) (v:PV):AV.oj (.v (.ifc t v))=true:=rfl
theorem R4 (l:List PV):PV.one (.agg l)=false:=rfl
theorem L0 (l:List PV):AV.cells (.v (.agg l))=l.map .v:=rfl
theorem L5 (l:List PV):AV.oj (.v (.agg l))=true:=rfl
theorem W8 (n v o:Nat):AV.cells (.p n v o)=[.p n v o]:=rfl
theorem Xb (n v o:Nat):AV.oj (.p n v o)=true:=rfl
theorem Xd (n v o:Nat):AV.one (.p n v o)=true:=rfl
theorem Ui (x:PV) (o:Nat):AV.cells (.pp x o)=[.pp x o]:=rfl
theorem Us (x:PV) (o:Nat):AV.oj (.pp x o)=true:=rfl
theorem UC (x:PV) (o:Nat):AV.one (.pp x o)=true:=rfl
theorem Uj (n v o l z:Nat):AV.cells (.rs n v o l z)=[.rs n v o l z]:=rfl
theorem Ut (n v o l z:Nat):AV.oj (.rs n v o l z)=true:=rfl
theorem UD (n v o l z:Nat):AV.one (.rs n v o l z)=true:=rfl
theorem Ug (l:List PV):AV.cells (.fs l)=[.fs l]:=rfl
theorem Uq (l:List PV):AV.oj (.fs l)=true:=rfl
theorem UA (l:List PV):AV.one (.fs l)=true:=rfl
theorem Uk:AV.cells (.sn)=[.sn]:=rfl
theorem Uu:AV.oj (.sn)=true:=rfl
theorem UE:AV.one (.sn)=true:=rfl
theorem Uf (f:Fn) (a c:List AV):AV.cells (.fn f a c)=[.fn f a c]:=rfl
theorem Up (f:Fn) (a c:List AV):AV.oj (.fn f a c)=true:=rfl
theorem Uz (f:Fn) (a c:List AV):AV.one (.fn f a c)=true:=rfl
theorem VS (x:PV) (o:Nat):PV.cells (.pt x o)=[.pt x o]:=rfl
theorem Qs (x:PV) (o:Nat):AV.cells (.v (.pt x o))=[.v (.pt x o)]:=rfl
theorem VX (x:PV) (o:Nat):PV.one (.pt x o)=true:=rfl
theorem QB (x:PV) (o:Nat):AV.oj (.v (.pt x o))=true:=rfl
theorem VP (f:FuncId) (a c:List PV):PV.cells (.fc f a c)=[.fc f a c]:=rfl
theorem Qp (f:FuncId) (a c:List PV):AV.cells (.v (.fc f a c))=[.v (.fc f a c)]:=rfl
theorem VU (f:FuncId) (a c:List PV):PV.one (.fc f a c)=true:=rfl
theorem Qy (f:FuncId) (a c:List PV):AV.oj (.v (.fc f a c))=true:=rfl
theorem Ul:AV.cells (.ub)=[.ub]:=rfl
theorem Uv:AV.oj (.ub)=true:=rfl
theorem UF:AV.one (.ub)=true:=rfl
theorem Uh (n:Nat):AV.cells (.mp n)=[.mp n]:=rfl
theorem Ur (n:Nat):AV.oj (.mp n)=true:=rfl
theorem UB (n:Nat):AV.one (.mp n)=true:=rfl
theorem W9:AV.cells (.u)=[.u]:=rfl
theorem Xc:AV.oj (.u)=false:=rfl
theorem Xe:AV.one (.u)=false:=rfl
theorem Qo (l:List AV):AV.cells (.tup l)=[.tup l]:=rfl
theorem Qw (l:List AV):AV.oj (.tup l)=false:=rfl
theorem QE (l:List AV):AV.one (.tup l)=false:=rfl
theorem Qn (l:List AV):AV.cells (.agg l)=l:=rfl
theorem Qv (l:List AV):AV.oj (.agg l)=l.all AV.one:=rfl
theorem QD (l:List AV):AV.one (.agg l)=false:=rfl
theorem Xf (x:PV):AV.one (.v x)=x.one:=rfl
theorem Qu (l:List AV):AV.isAgg (.agg l)=True:=rfl
theorem Xa (l:List PV):AV.isAgg (.v (.agg l))=True:=rfl
attribute [irreducible] KW CW RW OW CR GR BX PX CV yN PC
def UW:Nat->List PV->List (Nat×AV)
 | _,[]=>[]
 |i,x::l=>(i, .v x)::UW (i+1) l
def J1:Nat->List AV->List (Nat×AV)
 | _,[]=>[]
 |i,x::l=>(i,x)::J1 (i+1) l
def J2:Nat->List aF->List (Nat×aF)
 | _,[]=>[]
 |i,x::l=>(i,x)::J2 (i+1) l
theorem UX (l:List PV):l.mapIdx (fun i x=>(i,AV.v x))=UW 0 l:=by
 have: ∀(l:List PV) (k:Nat),l.mapIdx (fun i x=>(i+k,AV.v x))=UW k l:=by
  intro l
  induction l with
  |nil=>intro k;rfl
  |cons x l ih=>
   intro k;rw[nR,UW,<-ih (k+1)];have e:(fun i (x:PV)=>(i+1+k,AV.v x))=fun i x=>(i+(k+1),AV.v x):=by funext i x;congr 1;omega
   rw[e];simp
 exact this l 0
theorem QY (l:List AV):l.mapIdx (fun i x=>(i,x))=J1 0 l:=by
 have: ∀(l:List AV) (k:Nat),l.mapIdx (fun i x=>(i+k,x))=J1 k l:=by
  intro l
  induction l with
  |nil=>intro k;rfl
  |cons x l ih=>
   intro k;rw[nR,J1,<-ih (k+1)];have e:(fun i (x:AV)=>(i+1+k,x))=fun i x=>(i+(k+1),x):=by funext i x;congr 1;omega
   rw[e];simp
 exact this l 0
theorem QZ (l:List aF):l.mapIdx (fun i x=>(i,x))=J2 0 l:=by
 have: ∀(l:List aF) (k:Nat),l.mapIdx (fun i x=>(i+k,x))=J2 k l:=by
  intro l
  induction l with
  |nil=>intro k;rfl
  |cons x l ih=>
   intro k;rw[nR,J2,<-ih (k+1)];have e:(fun i (x:aF)=>(i+1+k,x))=fun i x=>(i+(k+1),x):=by funext i x;congr 1;omega
   rw[e];simp
 exact this l 0
theorem ry.w {P:Program} [cu P] (hm:P.follows .mixedOrders=true) {f:FuncId} {fn:Func} {sc:SC} {rs:List pZ} (hent:Enters P f f) (hfn:P.funcs[f]?=some fn) (hb:fn.body.isSome=true) (hc:comp P fn.ntmps (fn.body.getD .skip)=some sc) (hr:gO P fn.results.toList=some rs)
  {args:List PV} {r:PV} (hlen:Nat.ble args.length fn.ntmps=true) (h:CW P (JB rs r) sc [] ⟨UW 0 args,[],1000⟩):ry P f args r:=
 ry.mk' hm hent hfn hb hc hr (bZ hlen) (by rw[UX];exact CW.start h)
theorem mw.w {P:Program} [cu P] (hm:P.follows .mixedOrders=true) {f:FuncId} {fn:Func} {sc:SC} {rs:List pZ} (hent:Enters P f f) (hfn:P.funcs[f]?=some fn) (hb:fn.body.isSome=true) (hc:comp P fn.ntmps (fn.body.getD .skip)=some sc) (hr:gO P fn.results.toList=some rs)
  {obs:List aF} {args:List AV} {fs:List (Option (Option aF))} {j:Option Nat} {nw:Option aF} {v:AV} (hlen:Nat.ble args.length fn.ntmps=true) (h:CW P (kB rs obs fs j nw v) sc [] ⟨J1 0 args,J2 0 obs,1000⟩)
  {ns:List Nat} {nm:Nat} {obsA:List aF} {avs:List AV} {v':AV} {up:List (Nat×Option aF)} (hns:ns.length<=1000) (hnd:ns.Nodup) (hln:ns.length=obsA.length) (hob:bz (aF.aY (dP ns)) obsA=some obs) (hav:bz (AV.aY (dP ns)) avs=some args)
  (hv:v.aY (kC ns nm)=some v') (hup:gY ns nm fs nw=some up):mw P f nm (ns.zip obsA) avs v' up:=
 mw.mk' hm hent hfn hb hc hr (bZ hlen) (by rw[QY,QZ];exact h) hns hnd hln hob hav hv hup
attribute [go_sem] Bool.not_true Bool.not_false eq_self implies_true imp_false not_false_eq_true PO TU TQ PL PN PM TT TS T0 P3 P2 P4 P0 PZ P1 TY TX TZ PW WX AV.off AV.off.offL T2 T1 T3 qy T9 W0 XW WZ P6 P5 Zt WO WK WN WJ LG Zq WV WQ WL SY SW TN Zm Zn WM Zz Zy JN JO O9 Pa fm dk dQ SX.ev aO F9 HK az Ng EW lT AS.uh AS.set Rf Sw P8 Zb W7 Qa Qc Qb P9 Qd lenOf bounds qz th AV.XQ AV.B8 AV.Tt GX jI bz RU XT Um XX Uw XU Un XY Ux XV Uo XZ Uy RZ L4 R8 L9 VT Qt VY QC VQ Qq VV Qz RV L1 R5 L6 VR Qr VW QA RX L2 R6 L7 RY L3 R7 L8 R4 L0 L5 W8 Xb Xd Ui Us UC Uj Ut UD Ug Uq UA Uk Uu UE Uf Up Uz W9 Xc Xe Uh Ur UB Qo Qw QE Qn Qv QD Xf Qu Xa u8 allM_nil allM_cons UJ zD Qg JC G3 ne_eq Int.cast_ofNat_Int Xk Xl List.flatten_cons List.flatten_nil List.flatMap_cons List.flatMap_nil IntKind.bits Nat.min_def List.take_length DB List.length_map IntWalk.i64_in IntWalk.u8_in IntWalk.u64_in decide_true decide_false Int.toNat_natCast Int.toNat_zero Int.toNat_one ite_true ite_false List.length_cons List.length_nil List.map_cons List.map_nil List.all_cons List.all_nil Bool.and_true Bool.true_and Bool.and_self Option.map_some Option.map_none List.take_succ_cons List.take_zero List.drop_succ_cons List.drop_zero List.take_nil List.drop_nil List.getD_cons_zero List.getD_cons_succ List.nil_append List.cons_append List.append_nil Nat.zero_add Nat.add_zero Nat.le_refl true_and and_true and_self true_implies forall_const Nat.mul_one Nat.one_mul S6 kH jF kG Gy List.isEmpty_cons List.isEmpty_nil Bool.or_true Bool.true_or Bool.false_or Bool.or_false Bool.and_false Bool.false_and JB KZ Hw view zT LS LR Qe LU UW J1 J2 AV.nz PV.nz VS Qs VX QB VP Qp VU Qy Ul Uv UF WT WU
