/- Part of the proof. -/
import Derived.IntWalk
import Derived.Attr
import Derived.Test.YtipbhapfacgabaaGreatDoorUH14
set_option linter.all false
namespace Go.Dom
open Go.RowKit
inductive Fr where
 |seq (b:SC)
 |blk (id:Nat)
 |lp (R:AS->Prop)
 |asg (b:SC)
 |rg (t0:List (Nat×AV)) (R:AS->Prop)
 |bk (ns:List Nat) (t0:List (Nat×AV)) (obs:List (Nat×Option aC))
def KW (P:Program) [ct P] (Q:AX->AS->Prop):List Fr->AX->AS->Prop
 |[],e,s=>Q e s
 | .seq b::K, .normal,s=>aw P b (KW P Q K) s
 | .seq _::K, .exit j,s=>KW P Q K (.exit j) s
 | .seq _::K, .ret,s=>KW P Q K .ret s
 | .blk _::K, .normal,s=>KW P Q K .normal s
 | .blk id::K, .exit j,s=>if j=id then KW P Q K .normal s else KW P Q K (.exit j) s
 | .blk _::K, .ret,s=>KW P Q K .ret s
 | .lp R:: _, .normal,s=>R s
 | .lp _::K, .exit j,s=>KW P Q K (.exit j) s
 | .lp _::K, .ret,s=>KW P Q K .ret s
 | .asg b::K, .normal,s=>aw P b (KW P Q K) s
 | .asg _:: _, .exit _,_=>False
 | .asg _:: _, .ret,_=>False
 | .bk ns t0 obs::K,e,s=>(∀p∈s.h,∀c∈p.2.cells,c.off ns=true)/\KW P Q K e ⟨t0,kX s.h obs,s.nx⟩
 | .rg t0 R:: _, .normal,s=>R {s with t:=t0}
 | .rg t0 _::K, .exit j,s=>KW P Q K (.exit j) {s with t:=t0}
 | .rg t0 _::K, .ret,s=>KW P Q K .ret {s with t:=t0}
section
variable (P:Program) [ct P] (Q:AX->AS->Prop)
def CW (sc:SC) (K:List Fr) (s:AS):Prop:=aw P sc (KW P Q K) s
def Qh (bf:Option (List Nat)) (tr:List (Nat×List Nat×List Nat)):Prop:=
 match bf with
 |none=>True
 |some b=>SA b tr=true
def zV (bf:Option (List Nat)) (k:Nat) (rs:List Nat) (up:List (Nat×Option aC)) (tr:List (Nat×List Nat×List Nat)):List (Nat×List Nat×List Nat):=
 match bf with
 |none=>[]
 |some _=>(k,rs,up.map (·.1))::tr
def RW (nx:Nat) (bf:Option (List Nat)) (n:Nat) (ops:List jV) (k:Nat) (s:AS) (tr:List (Nat×List Nat×List Nat)) (K:List Fr):Prop:=
 match bf with
 |none=>qQ P nx ops k s fun s'=>KW P Q K .normal {s' with nx:=n}
 |some b=>Ad P nx ops k s tr fun s' tr=>SA b tr=true/\KW P Q K .normal {s' with nx:=n}
def OW (nx:Nat) (bf:Option (List Nat)) (n:Nat) (x:Option AO) (d:Option Nat) (ops:List jV) (k:Nat) (s:AS) (tr:List (Nat×List Nat×List Nat)) (K:List Fr):Prop:=
 Kw x fun ao=>RW P Q nx bf n ops (k+1) (s.s9 d ao.v ao.up) (zV bf k ao.rs ao.up tr) K
def CR (nx:Nat) (bf:Option (List Nat)) (n:Nat) (nm:Nat) (fv:AV) (avs:List AV) (d:Option Nat) (ops:List jV) (k:Nat) (s:AS) (tr:List (Nat×List Nat×List Nat)) (K:List Fr):Prop:=
 Hy P nm s.h fv avs fun ao=>RW P Q nx bf n ops (k+1) (s.s9 d ao.v ao.up) (zV bf k ao.rs ao.up tr) K
def GR (nx:Nat) (bf:Option (List Nat)) (n:Nat) (v:AV) (t:Nat) (want:Bool) (d:Option Nat) (o:SO) (ops:List jV) (k:Nat) (s:AS) (tr:List (Nat×List Nat×List Nat)) (K:List Fr):Prop:=
 QH v t want s (fun s=>RW P Q nx bf n (⟨d,o,none⟩::ops) k s tr K) (fun s=>RW P Q nx bf n ops (k+1) (s.s9 d (.v (.tup [])) []) (zV bf k [] [] tr) K)
def CV (v:AV) (a b:SC) (K:List Fr) (s:AS):Prop:=HV v (CW P Q a K s) (CW P Q b K s)
inductive BK where
 |cw (a b:SC) (K:List Fr) (s:AS)
 |gd (nx:Nat) (bf:Option (List Nat)) (n:Nat) (t:Nat) (want:Bool) (d:Option Nat) (o:SO) (ops:List jV) (k:Nat) (s:AS) (tr:List (Nat×List Nat×List Nat)) (K:List Fr)
 |ng (κ:BK)
def BX (c:Bool):BK->Prop
 | .cw a b K s=>xL c (CW P Q a K s) (CW P Q b K s)
 | .gd nx bf n t want d o ops k s tr K=>GR P Q nx bf n (.v (.b c)) t want d o ops k s tr K
 | .ng κ=>BX (!c) κ
def PX (p:Prop) (κ:BK):Prop:=(p->BX P Q true κ)/\(¬p->BX P Q false κ)
def O8 (ps:List Nat) (a b:SC) (K:List Fr) (t0:List (Nat×AV)) (N:Nat) (fin:Bool) (xs:List (List PV)) (s:AS):Prop:=
 WV (fun y Qx s1=>aw P a (fun e s2=>match e with
  | .normal=>aw P b Qx s2
  | _=>False) {s1 with t:=qa s1.t ps y}) (KW P Q K) t0 N fin xs s
def xG (a:SC) (K:List Fr) (N:Nat) (s:AS):Prop:=u5 (aw P a) (KW P Q K) N s
variable {P Q}
variable {κ:BK}
theorem CW.start {sc:SC} {s:AS} (h:CW P Q sc [] s):aw P sc Q s:=by
 have:KW P Q []=Q:=by funext e s;rfl
 unfold CW at h;rw[this]at h;exact h
theorem jU.mk' {f:FuncId} {fn:Func} {sc:SC} {rs:List pM} (hm:P.follows .mixedOrders=true) (hent:Enters P f f) (hfn:P.funcs[f]?=some fn) (hb:fn.body.isSome=true) (hc:comp P fn.ntmps (fn.body.getD .skip)=some sc) (hr:gT P fn.results.toList=some rs)
  {obs:List aC} {args:List AV} {fs:List (Option (Option aC))} {j:Option Nat} {nw:Option aC} {v:AV} (hlen:args.length<=fn.ntmps) (h:CW P (iU rs obs fs j nw v) sc [] ⟨args.mapIdx (fun i x=>(i,x)),obs.mapIdx (fun i x=>(i,x)),1000⟩)
  {ns:List Nat} {nm:Nat} {obsA:List aC} {avs:List AV} {v':AV} {up:List (Nat×Option aC)} (hns:ns.length<=1000) (hnd:ns.Nodup) (hln:ns.length=obsA.length) (hob:aU (aC.ren (cT ns)) obsA=some obs) (hav:aU (AV.ren (cT ns)) avs=some args)
  (hv:v.ren (gO ns nm)=some v') (hup:fT ns nm fs nw=some up):jU P f nm (ns.zip obsA) avs v' up:=by
 obtain⟨code,hcode⟩:=tU.1 hb;rw[hcode]at hc;exact jU.NH hm hent hfn hcode hc hr hlen (CW.start h) hns hnd hln hob hav hv hup
theorem Ph (K:List Fr) (s:AS):CW P Q .skip K s=KW P Q K .normal s:=rfl
theorem Tp (a b:SC) (K:List Fr) (s:AS):CW P Q (.seq a b) K s=CW P Q a (.seq b::K) s:=by
 simp only[CW,aw];congr 1
 funext e s'
 cases e<;>rfl
theorem Tl (id:Nat) (a:SC) (K:List Fr) (s:AS):CW P Q (.blk id a) K s=CW P Q a (.blk id::K) s:=by
 simp only[CW,aw];congr 1
 funext e s'
 cases e<;>rfl
theorem Pe (x:SX) (a b:SC) (K:List Fr) (s:AS):CW P Q (.cond x a b) K s=CV P Q (x.ev (aO s.t)) a b K s:=rfl
theorem Ze (c:Bool) (a b:SC) (K:List Fr) (s:AS):CV P Q (.v (.b c)) a b K s=BX P Q c (.cw a b K s):=rfl
theorem WI (a b:SC) (K:List Fr) (s:AS):BX P Q true (.cw a b K s)=CW P Q a K s:=by simp only[BX,rk]
theorem WD (a b:SC) (K:List Fr) (s:AS):BX P Q false (.cw a b K s)=CW P Q b K s:=by simp only[BX,pO]
theorem Sr (κ:BK):BX P Q true (.ng κ)=BX P Q false κ:=by simp only[BX,cQ]
theorem Sq (κ:BK):BX P Q false (.ng κ)=BX P Q true κ:=by simp only[BX,db]
theorem Th (c:Bool) (κ:BK):BX P Q (!c) κ=BX P Q c (.ng κ):=by simp only[BX]
theorem Pb {c:Bool} (h:c=true):BX P Q c κ=BX P Q true κ:=by rw[h]
theorem Pa {c:Bool} (h:c=false):BX P Q c κ=BX P Q false κ:=by rw[h]
theorem LF {p:Prop} (h:p):PX P Q p κ=BX P Q true κ:=by simp only[PX,h,true_implies,not_true_eq_false,false_implies,and_true]
theorem LC {p:Prop} (h: ¬p):PX P Q p κ=BX P Q false κ:=by simp only[PX,h,false_implies,DI,true_implies,true_and]
theorem Zm (κ:BK):PX P Q True κ=BX P Q true κ:=LF trivial
theorem Zl (κ:BK):PX P Q False κ=BX P Q false κ:=LC id
theorem Zb (p:Prop) [Decidable p] (κ:BK):BX P Q (decide p) κ=PX P Q p κ:=by
 by_cases h:p
 ·rw[Pb (aS h),LF h]
 ·rw[Pa (b9 h),LC h]
theorem Zc (x y:Int) (κ:BK):BX P Q (x==y) κ=PX P Q (x=y) κ:=by
 by_cases h:x=y
 ·rw[Pb (by simpa using h),LF h]
 ·rw[Pa (by simpa using h),LC h]
theorem WE (x y:Int) (κ:BK):BX P Q (x !=y) κ=PX P Q (x=y) (.ng κ):=by
 by_cases h:x=y
 ·rw[Pa (by simpa using h),LF h,Sr]
 ·rw[Pb (by simpa using h),LC h,Sq]
theorem BX.mk {c:Bool} (h1:c=true->BX P Q true κ) (h2:c=false->BX P Q false κ):BX P Q c κ:=by
 cases c
 ·exact h2 rfl
 ·exact h1 rfl
theorem PX.mk {p:Prop} (h1:p->BX P Q true κ) (h2: ¬p->BX P Q false κ):PX P Q p κ:=⟨h1,h2⟩
theorem WM (a b:SC) (K:List Fr) (s:AS):CV P Q .ub a b K s=(CW P Q a K s/\CW P Q b K s):=rfl
theorem Pg (a:SC) (K:List Fr) (s:AS):CW P Q (.loop a) K s=xG P Q a K s.nx s:=rfl
theorem Pf (id:Nat) (K:List Fr) (s:AS):CW P Q (.exit id) K s=KW P Q K (.exit id) s:=rfl
theorem Tn (K:List Fr) (s:AS):CW P Q .ret K s=KW P Q K .ret s:=rfl
theorem Tm (bf:Option (List Nat)) (ops:List jV) (K:List Fr) (s:AS):CW P Q (.reg bf ops) K s=RW P Q s.nx bf (s.nx+ops.length) ops 0 s [] K:=by
 cases bf<;>rfl
theorem Tx (e:AX) (s:AS):KW P Q [] e s=Q e s:=rfl
theorem Pu (b:SC) (K:List Fr) (s:AS):KW P Q (.seq b::K) .normal s=CW P Q b K s:=rfl
theorem Pt (b:SC) (K:List Fr) (j:Nat) (s:AS):KW P Q (.seq b::K) (.exit j) s=KW P Q K (.exit j) s:=rfl
theorem Pv (b:SC) (K:List Fr) (s:AS):KW P Q (.seq b::K) .ret s=KW P Q K .ret s:=rfl
theorem Pq (i:Nat) (K:List Fr) (s:AS):KW P Q (.blk i::K) .normal s=KW P Q K .normal s:=rfl
theorem Pp (i:Nat) (K:List Fr) (j:Nat) (s:AS):KW P Q (.blk i::K) (.exit j) s=if j=i then KW P Q K .normal s else KW P Q K (.exit j) s:=rfl
theorem Ps (i:Nat) (K:List Fr) (s:AS):KW P Q (.blk i::K) .ret s=KW P Q K .ret s:=rfl
theorem xA {x:SX} {ps:List Nat} {a b:SC} {K:List Fr} {s:AS} {g:FuncId} {caps:List PV} {fin:Bool} {xs:List (List PV)} (hi:WO P g caps fin xs) (hx:x.ev (aO s.t)= .v (.fc g [] caps)) (hl: ∀y∈xs,y.length=ps.length) (h:O8 P Q ps a b K s.t s.nx fin xs s):CW P Q (.rng x ps a b) K s:=by
 have e:qR [] s (KW P Q K)=KW P Q K:=by funext e s';simp[qR]
 refine⟨g,caps,fin,xs,[],by rw[hx];rfl,by rw[hx];simp[aX],by simp,hi,fun y hy=>⟨hl y hy, .inl rfl⟩,?_⟩
 rw[e];exact h
section
variable {ps:List Nat} {a b:SC} {K:List Fr} {t0:List (Nat×AV)} {N:Nat} {s:AS} {fin:Bool}
variable {xs ys:List (List PV)}
theorem V0 (h:KW P Q K .normal s):O8 P Q ps a b K t0 N true [] s:=fun X h1 _ _=>h1 _ rfl h
theorem I0 {s':AS} (hN:N<=s'.nx) (hle:s'.Le s) (h:O8 P Q ps a b K t0 N fin ys s'):O8 P Q ps a b K t0 N fin ys s:=fun X h1 h2 h3=>h3 ys s' s hN hle (h X h1 h2 h3)
theorem RK {y:List PV} (h:CW P Q a (.asg b:: .rg t0 (O8 P Q ps a b K t0 N fin ys)::K) {s with t:=qa s.t ps y}):O8 P Q ps a b K t0 N fin (y::ys) s:=by
 intro X h1 h2 h3;refine h2 y ys s (qf (fun e s2 hs=> ?_) h)
 cases e with
 |normal=>
  refine qf (fun e s3 hs3=> ?_) hs
  cases e with
  |normal=>exact hs3 X h1 h2 h3
  |exit j=>exact hs3
  |ret=>exact hs3
 |exit j=>exact hs
 |ret=>exact hs
theorem IZ {α:Type} (st:α->AS) (ok:List (List PV)->α->Prop) (a0:α) (hN: ∀x,N<=(st x).nx) (h0:ok xs a0) (hle:(st a0).Le s) (hnil: ∀x,ok [] x->fin=true/\KW P Q K .normal (st x))
  (hcons: ∀y ys x,ok (y::ys) x-> ∀R:AS->Prop,(∀x',ok ys x'-> ∀s',(st x').Le s'->R s')->CW P Q a (.asg b:: .rg t0 R::K) {st x with t:=qa (st x).t ps y}):O8 P Q ps a b K t0 N fin xs s:=by
 refine I0 (hN a0) hle ?_;clear hle
 induction xs generalizing a0 with
 |nil=>
  obtain⟨rfl,h⟩:=hnil a0 h0;exact V0 h
 |cons y ys ih=>exact RK (hcons y ys a0 h0 _ fun x' hx' s' hs'=>I0 (hN x') hs' (ih x' hx'))
theorem CJ {α:Type} (st:α->AS) (ok:List (List PV)->α->Prop) (a0:α) (hN: ∀x,N<=(st x).nx) (h0:ok xs a0) (hle:(st a0).Le s) (hnil: ∀x,ok [] x->KW P Q K .normal (st x))
  (hcons: ∀y ys x,ok (y::ys) x-> ∀R:AS->Prop,(∀x',ok ys x'-> ∀s',(st x').Le s'->R s')->CW P Q a (.asg b:: .rg t0 R::K) {st x with t:=qa (st x).t ps y}):O8 P Q ps a b K t0 N true xs s:=
 IZ st ok a0 hN h0 hle (fun x h=>⟨rfl,hnil x h⟩) hcons
theorem RL {α:Type} (st:α->AS) (ok:List (List PV)->α->Prop) (a0:α) (hN: ∀x,N<=(st x).nx) (h0:ok xs a0) (hle:(st a0).Le s) (hnil: ∀x,¬ok [] x)
  (hcons: ∀y ys x,ok (y::ys) x-> ∀R:AS->Prop,(∀x',ok ys x'-> ∀s',(st x').Le s'->R s')->CW P Q a (.asg b:: .rg t0 R::K) {st x with t:=qa (st x).t ps y}):O8 P Q ps a b K t0 N false xs s:=
 IZ st ok a0 hN h0 hle (fun x h=>(hnil x h).elim) hcons
end
theorem Po (b:SC) (K:List Fr) (s:AS):KW P Q (.asg b::K) .normal s=CW P Q b K s:=rfl
theorem WQ (ns:List Nat) (t0:List (Nat×AV)) (obs:List (Nat×Option aC)) (K:List Fr) (e:AX) (s:AS):KW P Q (.bk ns t0 obs::K) e s=((∀p∈s.h,∀c∈p.2.cells,c.off ns=true)/\KW P Q K e ⟨t0,kX s.h obs,s.nx⟩):=rfl
theorem Tz (t0:List (Nat×AV)) (R:AS->Prop) (K:List Fr) (s:AS):KW P Q (.rg t0 R::K) .normal s=R ⟨t0,s.h,s.nx⟩:=rfl
theorem Ty (t0:List (Nat×AV)) (R:AS->Prop) (K:List Fr) (j:Nat) (s:AS):KW P Q (.rg t0 R::K) (.exit j) s=KW P Q K (.exit j) ⟨t0,s.h,s.nx⟩:=rfl
theorem TA (t0:List (Nat×AV)) (R:AS->Prop) (K:List Fr) (s:AS):KW P Q (.rg t0 R::K) .ret s=KW P Q K .ret ⟨t0,s.h,s.nx⟩:=rfl
theorem Tv (R:AS->Prop) (K:List Fr) (s:AS):KW P Q (.lp R::K) .normal s=R s:=rfl
theorem Tu (R:AS->Prop) (K:List Fr) (j:Nat) (s:AS):KW P Q (.lp R::K) (.exit j) s=KW P Q K (.exit j) s:=rfl
theorem Tw (R:AS->Prop) (K:List Fr) (s:AS):KW P Q (.lp R::K) .ret s=KW P Q K .ret s:=rfl
section
variable (nx:Nat) (bf:Option (List Nat)) (n:Nat) (d:Option Nat) (ops:List jV) (k:Nat) (s:AS) (tr:List (Nat×List Nat×List Nat)) (K:List Fr)
variable {avs:List AV} {f:FuncId} {nm:Nat} {pvs:List PV}
theorem TE:RW P Q nx bf n [] k s tr K=(Qh bf tr/\KW P Q K .normal {s with nx:=n}):=by
 cases bf
 ·simp only[RW,qQ,Qh,true_and]
 ·rfl
def XW (P:Program) [ct P] (Q:AX->AS->Prop) (nx:Nat) (bf:Option (List Nat)) (n:Nat) (o:SO) (d:Option Nat) (ops:List jV) (k:Nat) (s:AS) (tr:List (Nat×List Nat×List Nat)) (K:List Fr):Prop:=
 match o with
 | .call f args=>CR P Q nx bf n (nx+k) (f.ev (aO s.t)) (args.map (SX.ev (aO s.t))) d ops k s tr K
 |o=>OW P Q nx bf n (fe (nx+k) o (aO s.t) (hget s.h)) d ops k s tr K
theorem WU (o:SO):RW P Q nx bf n (⟨d,o,none⟩::ops) k s tr K=XW P Q nx bf n o d ops k s tr K:=by
 cases o<;>cases bf<;>rfl
theorem WT (o:SO) (t:Nat) (want:Bool):RW P Q nx bf n (⟨d,o,some (t,want)⟩::ops) k s tr K=GR P Q nx bf n (aO s.t t) t want d o ops k s tr K:=by
 cases bf<;>rfl
theorem Px (v:AV) (p:Prop) (rs:List Nat) (up:List (Nat×Option aC)):OW P Q nx bf n (some ⟨v,p,rs,up⟩) d ops k s tr K=(p/\RW P Q nx bf n ops (k+1) (s.s9 d v up) (zV bf k rs up tr) K):=rfl
theorem Pw:OW P Q nx bf n none d ops k s tr K=False:=rfl
theorem Zh (x:Bool) (t:Nat) (want:Bool) (o:SO):GR P Q nx bf n (.v (.b x)) t want d o ops k s tr K=BX P Q x (.gd nx bf n t want d o ops k s tr K):=rfl
theorem WH (t:Nat) (o:SO):BX P Q true (.gd nx bf n t true d o ops k s tr K)=RW P Q nx bf n (⟨d,o,none⟩::ops) k (s.set t (.v (.b true))) tr K:=by simp only[BX,GR,QH,rk]
theorem WC (t:Nat) (o:SO):BX P Q false (.gd nx bf n t true d o ops k s tr K)=RW P Q nx bf n ops (k+1) ((s.set t (.v (.b false))).s9 d (.v (.tup [])) []) (zV bf k [] [] tr) K:=by simp only[BX,GR,QH,pO]
theorem WG (t:Nat) (o:SO):BX P Q true (.gd nx bf n t false d o ops k s tr K)=RW P Q nx bf n ops (k+1) ((s.set t (.v (.b true))).s9 d (.v (.tup [])) []) (zV bf k [] [] tr) K:=by simp only[BX,GR,QH,rk]
theorem WA (t:Nat) (o:SO):BX P Q false (.gd nx bf n t false d o ops k s tr K)=RW P Q nx bf n (⟨d,o,none⟩::ops) k (s.set t (.v (.b false))) tr K:=by simp only[BX,GR,QH,pO]
theorem Lx (t:Nat) (want:Bool) (o:SO):GR P Q nx bf n (.v (.tup [])) t want d o ops k s tr K=RW P Q nx bf n ops (k+1) (s.s9 d (.v (.tup [])) []) (zV bf k [] [] tr) K:=by simp only[GR,QH]
theorem JJ:Qh none tr=True:=rfl
theorem JK (b:List Nat):Qh (some b) tr=(SA b tr=true):=rfl
theorem OO (rs:List Nat) (up:List (Nat×Option aC)):zV none k rs up tr=[]:=rfl
theorem OP (b:List Nat) (rs:List Nat) (up:List (Nat×Option aC)):zV (some b) k rs up tr=(k,rs,up.map (·.1))::tr:=rfl
theorem iw {nx:Nat} {bf:Option (List Nat)} {n:Nat} {d:Option Nat} {ops:List jV} {k:Nat} {s:AS} {tr:List (Nat×List Nat×List Nat)} {K:List Fr} {r:PV} (he:qO P f pvs r) (ha:mF avs=some pvs) (hK:RW P Q nx bf n ops (k+1) (s.s9 d (.v r) []) (zV bf k [] [] tr) K):
  CR P Q nx bf n nm (.v (.fn (.func f))) avs d ops k s tr K:=⟨_, .pure f avs pvs r rfl ha he,hK⟩
theorem WL {nx:Nat} {bf:Option (List Nat)} {n:Nat} {d:Option Nat} {ops:List jV} {k:Nat} {s:AS} {tr:List (Nat×List Nat×List Nat)} {K:List Fr} {a c:List AV}:
  CR P Q nx bf n nm (.fn (.func f) a c) avs d ops k s tr K=CR P Q nx bf n nm (.v (.fn (.func f))) (a++(avs++c)) d ops k s tr K:=by
 have h: ∀ao,lB P nm (hget s.h) (.fn (.func f) a c) avs ao↔lB P nm (hget s.h) (.v (.fn (.func f))) (a++(avs++c)) ao:=by
  intro ao;constructor
  ·intro h
   cases h with
   |pure f avs pvs r hfv hargs he=>exact .pure f avs pvs r hfv hargs he
   |view f avs pvs r hfv hargs hr he=>exact .view f avs pvs r hfv hargs hr he
   |give f avs pvs r hfv hargs hlo he=>exact .give f avs pvs r hfv hargs hlo he
   |eff f avs hs v up hfv hhs he=>exact .eff f avs hs v up hfv hhs he
   |same f v hfv he=>exact .same f v hfv he
   |ext f avs pvs r hfv hargs he=>exact .ext f avs pvs r hfv hargs he
  ·intro h
   cases h with
   |pure f avs pvs r hfv hargs he=>exact .pure f avs pvs r hfv hargs he
   |view f avs pvs r hfv hargs hr he=>exact .view f avs pvs r hfv hargs hr he
   |give f avs pvs r hfv hargs hlo he=>exact .give f avs pvs r hfv hargs hlo he
   |eff f avs hs v up hfv hhs he=>exact .eff f avs hs v up hfv hhs he
   |same f v hfv he=>exact .same f v hfv he
   |ext f avs pvs r hfv hargs he=>exact .ext f avs pvs r hfv hargs he
 unfold CR Hy;simp only[h]
theorem WK {nx:Nat} {bf:Option (List Nat)} {n:Nat} {d:Option Nat} {ops:List jV} {k:Nat} {s:AS} {tr:List (Nat×List Nat×List Nat)} {K:List Fr} {a c:List PV}:
  CR P Q nx bf n nm (.v (.fc f a c)) avs d ops k s tr K=CR P Q nx bf n nm (.v (.fn (.func f))) (a.map .v++(avs++c.map .v)) d ops k s tr K:=by
 have h: ∀ao,lB P nm (hget s.h) (.v (.fc f a c)) avs ao↔lB P nm (hget s.h) (.v (.fn (.func f))) (a.map .v++(avs++c.map .v)) ao:=by
  intro ao;constructor
  ·intro h
   cases h with
   |pure f avs pvs r hfv hargs he=>exact .pure f avs pvs r hfv hargs he
   |view f avs pvs r hfv hargs hr he=>exact .view f avs pvs r hfv hargs hr he
   |give f avs pvs r hfv hargs hlo he=>exact .give f avs pvs r hfv hargs hlo he
   |eff f avs hs v up hfv hhs he=>exact .eff f avs hs v up hfv hhs he
   |same f v hfv he=>exact .same f v hfv he
   |ext f avs pvs r hfv hargs he=>exact .ext f avs pvs r hfv hargs he
  ·intro h
   cases h with
   |pure f avs pvs r hfv hargs he=>exact .pure f avs pvs r hfv hargs he
   |view f avs pvs r hfv hargs hr he=>exact .view f avs pvs r hfv hargs hr he
   |give f avs pvs r hfv hargs hlo he=>exact .give f avs pvs r hfv hargs hlo he
   |eff f avs hs v up hfv hhs he=>exact .eff f avs hs v up hfv hhs he
   |same f v hfv he=>exact .same f v hfv he
   |ext f avs pvs r hfv hargs he=>exact .ext f avs pvs r hfv hargs he
 unfold CR Hy;simp only[h]
theorem gp {nx:Nat} {bf:Option (List Nat)} {n:Nat} {d:Option Nat} {ops:List jV} {k:Nat} {s:AS} {tr:List (Nat×List Nat×List Nat)} {K:List Fr} {r:PV} (he:qO P f pvs r) (ha:aU (view (hget s.h) 9) avs=some pvs) (hr:r.flat=true) (hK:RW P Q nx bf n ops (k+1) (s.s9 d (.v r) []) (zV bf k (avs.flatMap (aX (hget s.h) 9)) [] tr) K):
  CR P Q nx bf n nm (.v (.fn (.func f))) avs d ops k s tr K:=⟨_, .view f avs pvs r rfl ha hr he,hK⟩
theorem Pc {nx:Nat} {bf:Option (List Nat)} {n:Nat} {d:Option Nat} {ops:List jV} {k:Nat} {s:AS} {tr:List (Nat×List Nat×List Nat)} {K:List Fr} {r:PV} (ns:List Nat) (he:qO P f pvs r) (hlo:ns.all (fun n=>decide (1000<=n))=true) (hv:avs.flatMap (aX (hget s.h) 9)=ns) (ha:aU (view (hget s.h) 9) avs=some pvs)
  (hK:RW P Q nx bf n ops (k+1) (s.s9 d (.v r) (ns.map fun n=>(n,none))) (zV bf k ns (ns.map fun n=>(n,none)) tr) K):
  CR P Q nx bf n nm (.v (.fn (.func f))) avs d ops k s tr K:=by
 subst hv;exact⟨_, .give f avs pvs r rfl ha (fun n hn=>of_decide_eq_true (bJ.1 hlo n hn)) he,hK⟩
theorem aW {nx:Nat} {bf:Option (List Nat)} {n:Nat} {d:Option Nat} {ops:List jV} {k:Nat} {s:AS} {tr:List (Nat×List Nat×List Nat)} {K:List Fr} {hs:List (Nat×aC)} {v:AV} {up:List (Nat×Option aC)} (he:jU P f nm hs avs v up) (hh: ∀p∈hs,hget s.h p.1=some p.2) (hK:RW P Q nx bf n ops (k+1) (s.s9 d v up) (zV bf k (hs.map (·.1)) up tr) K):
  CR P Q nx bf n nm (.v (.fn (.func f))) avs d ops k s tr K:=⟨_, .eff f avs hs v up rfl hh he,hK⟩
theorem Pd {nx:Nat} {bf:Option (List Nat)} {n:Nat} {d:Option Nat} {ops:List jV} {k:Nat} {s:AS} {tr:List (Nat×List Nat×List Nat)} {K:List Fr} {v:AV} (he:Zf P f) (hK:RW P Q nx bf n ops (k+1) (s.s9 d v []) (zV bf k [] [] tr) K):
  CR P Q nx bf n nm (.v (.fn (.func f))) [v] d ops k s tr K:=⟨_, .same f v rfl he,hK⟩
end
variable {h h':List (Nat×aC)} {t t':List (Nat×AV)}
theorem Tj {nx:Nat} {bf:Option (List Nat)} {n:Nat} {d:Option Nat} {ops:List jV} {k:Nat} {s:AS} {tr:List (Nat×List Nat×List Nat)} {K:List Fr} {nm:Nat} {f:FuncId} {avs:List AV} {pvs:List PV} {r:PV} (he:Zg P f pvs r) (ha:mF avs=some pvs) (hK:RW P Q nx bf n ops (k+1) (s.s9 d (.v r) []) (zV bf k [] [] tr) K):
  CR P Q nx bf n nm (.v (.fn (.func f))) avs d ops k s tr K:=⟨_, .ext f avs pvs r rfl ha he,hK⟩
theorem aj {a:SC} {K:List Fr} {N:Nat} {s:AS} (h:CW P Q a (.lp (xG P Q a K N)::K) s):xG P Q a K N s:=by
 refine vD (qf (fun e s' hs=> ?_) h)
 cases e<;>exact hs
theorem aq {a:SC} {K:List Fr} {N:Nat} {s:AS} {α:Type} (m:α->Nat) (st:α->AS) (ok:α->Prop) (a0:α) (hN: ∀x,N<=(st x).nx) (h0:ok a0) (hle:(st a0).Le s)
  (hr: ∀x,ok x-> ∀R:AS->Prop,(∀y,ok y->m y<m x-> ∀s',(st y).Le s'->R s')->CW P Q a (.lp R::K) (st x)):xG P Q a K N s:=by
 refine Kj m st ok a0 hN h0 hle fun x hx=> ?_
 refine qf (fun e s' hs=> ?_) (hr x hx (fun s'=> ∃y,ok y/\m y<m x/\(st y).Le s') fun y h1 h2 s' h3=>⟨y,h1,h2,h3⟩)
 cases e<;>exact hs
def dG (t:List (Nat×AV)) (n:Nat):List (Nat×AV)->Prop
 |[]=>True
 |(k,v)::r=>aO t k=v/\v.bd n=true/\dG t n r
def dF (h:List (Nat×aC)) (n:Nat):List (Nat×aC)->Prop
 |[]=>True
 |(k,v)::r=>hget h k=some v/\k<n/\(∀c∈v.cells,c.bd n=true)/\dF h n r
theorem AS.Le.ofF {n n':Nat} (z:List (Nat×PV)) (zh:List (Nat×aC)) (ns:List Nat) (hns: ∀m∈ns,1000<=m/\hget (zh++h) m=none) (hz: ∀q∈z,view (hget h') 9 (aO t' q.1)=some q.2/\ ∀m∈aX (hget h') 9 (aO t' q.1),m∈ns) (hzh: ∀q∈zh,(∃ob,hget h' q.1=some ob/\Jq (hget h') ns ob q.2)/\q.1<n/\ ∀c∈q.2.cells,c.bd n=true) (hn:n<=n') (ht:dG t' n t) (hh:dF h' n h):(AS.mk (z.map (fun q=>(q.1,AV.v q.2))++t) (zh++h) n).Le ⟨t',h',n'⟩:=by
 have h1: ∀(t:List (Nat×AV)),dG t' n t-> ∀p∈t,aO t' p.1=p.2/\p.2.bd n=true:=by
  intro t
  induction t with
  |nil=>intro _ p hp;cases hp
  |cons q t ih=>
   obtain⟨k,v⟩:=q;intro hq p hp;rcases bV.1 hp with rfl|hp
   ·exact⟨hq.1,hq.2.1⟩
   ·exact ih hq.2.2 p hp
 have h2: ∀(h:List (Nat×aC)),dF h' n h-> ∀p∈h,hget h' p.1=some p.2/\p.1<n/\ ∀c∈p.2.cells,c.bd n=true:=by
  intro h
  induction h with
  |nil=>intro _ p hp;cases hp
  |cons q h ih=>
   obtain⟨k,v⟩:=q;intro hq p hp;rcases bV.1 hp with rfl|hp
   ·exact⟨hq.1,hq.2.1,hq.2.2.1⟩
   ·exact ih hq.2.2.2 p hp
 refine⟨⟨ns,hns,fun p hp=> ?_,fun p hp=> ?_⟩,hn,fun p hp=> ?_,fun p hp=> ?_⟩<;>rcases iM.1 hp with hp|hp
 ·obtain⟨q,hq,rfl⟩:=cG.1 hp;exact .inr ⟨q.2,rfl,(hz q hq).1,(hz q hq).2⟩
 ·exact .inl (h1 t ht p hp).1
 ·exact(hzh p hp).1
 ·exact⟨_,(h2 h hh p hp).1,Jq.refl _ _ _⟩
 ·obtain⟨q,hq,rfl⟩:=cG.1 hp;rfl
 ·exact(h1 t ht p hp).2
 ·exact(hzh p hp).2
 ·exact(h2 h hh p hp).2
theorem AS.Le.ofZ {n n':Nat} (z:List (Nat×PV)) (ns:List Nat) (hns: ∀m∈ns,1000<=m/\hget h m=none) (hz: ∀q∈z,view (hget h') 9 (aO t' q.1)=some q.2/\ ∀m∈aX (hget h') 9 (aO t' q.1),m∈ns) (hn:n<=n') (ht:dG t' n t) (hh:dF h' n h):(AS.mk (z.map (fun q=>(q.1,AV.v q.2))++t) h n).Le ⟨t',h',n'⟩:=AS.Le.ofF z [] ns hns hz (fun _ h=>by cases h) hn ht hh
theorem AS.Le.of {n n':Nat} (hn:n<=n') (ht:dG t' n t) (hh:dF h' n h):(AS.mk t h n).Le ⟨t',h',n'⟩:=AS.Le.ofZ [] [] (fun _ h=>by cases h) (fun _ h=>by cases h) hn ht hh
end
theorem allM_nil {α:Type} (p:α->Prop):(∀x,x∈([]:List α)->p x)=True:=by simp
theorem allM_cons {α:Type} (a:α) (l:List α) (p:α->Prop):(∀x,x∈a::l->p x)=(p a/\ ∀x,x∈l->p x):=by simp
theorem Uq (k:IntKind) (n:Int):PV.byte (.i k n)=UInt8.ofNat n.toNat:=rfl
theorem yt (n:Int):PV.isByte (.i .u8 n)=True:=rfl
theorem PI (x:PV):AV.byte (.v x)=x.byte:=rfl
theorem Jt (x:PV):AV.isByte (.v x)=x.isByte:=rfl
theorem GG (c:UInt8):UInt8.ofNat c.toNat=c:=by simp
def aH (l:Bytes):List AV:=l.map fun c=> .v (u8 c)
theorem Sy (l:Bytes):List.map (fun c:UInt8=>AV.v (PV.i IntKind.u8 (c.toNat:Int))) l=aH l:=rfl
theorem l9 (l:Bytes):(aH l).length=l.length:=by simp[aH]
theorem ju (l:Bytes):List.take l.length (aH l)=aH l:=dc (by simp[aH])
theorem j6 (l m:Bytes):aH l++aH m=aH (l++m):=by simp[aH]
theorem Gc (l:Bytes):(∀y,y∈aH l->y.one=true)=True:=by
 simp only[eq_iff_iff,iff_true];intro y hy;obtain⟨c,-,rfl⟩:=cG.1 hy;rfl
theorem au (l:Bytes) (n:Nat):(∀y,y∈aH l->y.bd n=true)=True:=by
 simp only[eq_iff_iff,iff_true];intro y hy;obtain⟨c,-,rfl⟩:=cG.1 hy;rfl
theorem kU (l:Bytes):(aH l).map AV.byte=l:=by
 induction l with
 |nil=>rfl
 |cons c l ih=>simp_all[aH,AV.byte,PV.byte,u8]
theorem JB (l:Bytes):(∀y,y∈aH l->y= .v (u8 y.byte))=True:=by
 simp only[eq_iff_iff,iff_true];intro y hy;obtain⟨c,-,rfl⟩:=cG.1 hy;simp[AV.byte,PV.byte,u8]
theorem aI (f:Nat->Option Nat) (l:Bytes):AV.ren.renL f (aH l)=some (aH l):=by
 induction l with
 |nil=>rfl
 |cons c l ih=>
  have:AV.ren.renL f (AV.v (u8 c)::aH l)=some (AV.v (u8 c)::aH l):=by simp[AV.ren.renL,AV.ren,ih]
  exact this
theorem aK (k:Nat) (j:Option Nat) (s:AS) (l:Bytes):aU (fN k j s) (aH l)=some (aH l):=by
 induction l with
 |nil=>rfl
 |cons c l ih=>
  have:aU (fN k j s) (AV.v (u8 c)::aH l)=some (AV.v (u8 c)::aH l):=by simp[aU,fN,eN,view,ih]
  exact this
theorem Xh:((0:Nat):Int)=0:=rfl
theorem Xi:((1:Nat):Int)=1:=rfl
theorem CS {α β:Type} (l:List α) (f:α->β):List.take l.length (l.map f)=l.map f:=by rw[<-aR (f:=f),cq]
def cellsOf (l:List PV):List AV:=(l.flatMap PV.cells).map .v
theorem ar (l:List PV) (n:Nat):(∀c,c∈cellsOf l->c.bd n=true)=True:=by
 simp only[eq_iff_iff,iff_true];intro c hc;simp only[cellsOf,cG]at hc;obtain⟨y,-,rfl⟩:=hc;rfl
theorem iI (hf:Nat->Option aC) (f:Nat) (l:List PV):aU (view hf (f+1)) (l.map .v)=some l:=by
 induction l with
 |nil=>rfl
 |cons x l ih=>simp[aU,view,ih]
theorem Rs (l:List PV):PV.cells (.agg l)=l:=rfl
theorem XU (x:Bool):PV.cells (.b x)=[.b x]:=rfl
theorem TX (x:Bool):AV.cells (.v (.b x))=[.v (.b x)]:=rfl
theorem XY (x:Bool):PV.one (.b x)=true:=rfl
theorem T7 (x:Bool):AV.nH (.v (.b x))=true:=rfl
theorem XV (k:IntKind) (n:Int):PV.cells (.i k n)=[.i k n]:=rfl
theorem TY (k:IntKind) (n:Int):AV.cells (.v (.i k n))=[.v (.i k n)]:=rfl
theorem XZ (k:IntKind) (n:Int):PV.one (.i k n)=true:=rfl
theorem T8 (k:IntKind) (n:Int):AV.nH (.v (.i k n))=true:=rfl
theorem XX (x:Bytes):PV.cells (.s x)=[.s x]:=rfl
theorem TZ (x:Bytes):AV.cells (.v (.s x))=[.v (.s x)]:=rfl
theorem X1 (x:Bytes):PV.one (.s x)=true:=rfl
theorem T9 (x:Bytes):AV.nH (.v (.s x))=true:=rfl
theorem Rw (l:List PV):PV.cells (.tup l)=[.tup l]:=rfl
theorem L4 (l:List PV):AV.cells (.v (.tup l))=[.v (.tup l)]:=rfl
theorem RC (l:List PV):PV.one (.tup l)=false:=rfl
theorem L9 (l:List PV):AV.nH (.v (.tup l))=false:=rfl
theorem VM (l:List PV):PV.cells (.sl l)=[.sl l]:=rfl
theorem PY (l:List PV):AV.cells (.v (.sl l))=[.v (.sl l)]:=rfl
theorem VR (l:List PV):PV.one (.sl l)=true:=rfl
theorem P6 (l:List PV):AV.nH (.v (.sl l))=true:=rfl
theorem VJ (f:Fn):PV.cells (.fn f)=[.fn f]:=rfl
theorem PT (f:Fn):AV.cells (.v (.fn f))=[.v (.fn f)]:=rfl
theorem VO (f:Fn):PV.one (.fn f)=true:=rfl
theorem P3 (f:Fn):AV.nH (.v (.fn f))=true:=rfl
theorem Rt:PV.cells (.fn0)=[.fn0]:=rfl
theorem LY:AV.cells (.v (.fn0))=[.v (.fn0)]:=rfl
theorem Ry:PV.one (.fn0)=true:=rfl
theorem L6:AV.nH (.v (.fn0))=true:=rfl
theorem VK:PV.cells (.p0)=[.p0]:=rfl
theorem PU:AV.cells (.v (.p0))=[.v (.p0)]:=rfl
theorem VP:PV.one (.p0)=true:=rfl
theorem P4:AV.nH (.v (.p0))=true:=rfl
theorem Ru:PV.cells (.if0)=[.if0]:=rfl
theorem LZ:AV.cells (.v (.if0))=[.v (.if0)]:=rfl
theorem Rz:PV.one (.if0)=true:=rfl
theorem L7:AV.nH (.v (.if0))=true:=rfl
theorem Rv (t:TypeId) (v:PV):PV.cells (.ifc t v)=[.ifc t v]:=rfl
theorem L3 (t:TypeId) (v:PV):AV.cells (.v (.ifc t v))=[.v (.ifc t v)]:=rfl
theorem RA (t:TypeId) (v:PV):PV.one (.ifc t v)=true:=rfl
theorem L8 (t:TypeId) (v:PV):AV.nH (.v (.ifc t v))=true:=rfl
theorem Rx (l:List PV):PV.one (.agg l)=false:=rfl
theorem LX (l:List PV):AV.cells (.v (.agg l))=l.map .v:=rfl
theorem L5 (l:List PV):AV.nH (.v (.agg l))=true:=rfl
theorem W0 (n v o:Nat):AV.cells (.p n v o)=[.p n v o]:=rfl
theorem W8 (n v o:Nat):AV.nH (.p n v o)=true:=rfl
theorem Xa (n v o:Nat):AV.one (.p n v o)=true:=rfl
theorem TT (x:PV) (o:Nat):AV.cells (.pp x o)=[.pp x o]:=rfl
theorem T3 (x:PV) (o:Nat):AV.nH (.pp x o)=true:=rfl
theorem Ud (x:PV) (o:Nat):AV.one (.pp x o)=true:=rfl
theorem TU (n v o l z:Nat):AV.cells (.rs n v o l z)=[.rs n v o l z]:=rfl
theorem T4 (n v o l z:Nat):AV.nH (.rs n v o l z)=true:=rfl
theorem Ue (n v o l z:Nat):AV.one (.rs n v o l z)=true:=rfl
theorem TQ (l:List PV):AV.cells (.fs l)=[.fs l]:=rfl
theorem T1 (l:List PV):AV.nH (.fs l)=true:=rfl
theorem Ub (l:List PV):AV.one (.fs l)=true:=rfl
theorem TV:AV.cells (.sn)=[.sn]:=rfl
theorem T5:AV.nH (.sn)=true:=rfl
theorem Uf:AV.one (.sn)=true:=rfl
theorem TP (f:Fn) (a c:List AV):AV.cells (.fn f a c)=[.fn f a c]:=rfl
theorem T0 (f:Fn) (a c:List AV):AV.nH (.fn f a c)=true:=rfl
theorem Ua (f:Fn) (a c:List AV):AV.one (.fn f a c)=true:=rfl
theorem VL (x:PV) (o:Nat):PV.cells (.pt x o)=[.pt x o]:=rfl
theorem PW (x:PV) (o:Nat):AV.cells (.v (.pt x o))=[.v (.pt x o)]:=rfl
theorem VQ (x:PV) (o:Nat):PV.one (.pt x o)=true:=rfl
theorem P5 (x:PV) (o:Nat):AV.nH (.v (.pt x o))=true:=rfl
theorem VI (f:FuncId) (a c:List PV):PV.cells (.fc f a c)=[.fc f a c]:=rfl
theorem PS (f:FuncId) (a c:List PV):AV.cells (.v (.fc f a c))=[.v (.fc f a c)]:=rfl
theorem VN (f:FuncId) (a c:List PV):PV.one (.fc f a c)=true:=rfl
theorem P2 (f:FuncId) (a c:List PV):AV.nH (.v (.fc f a c))=true:=rfl
theorem TW:AV.cells (.ub)=[.ub]:=rfl
theorem T6:AV.nH (.ub)=true:=rfl
theorem Ug:AV.one (.ub)=true:=rfl
theorem TS (n:Nat):AV.cells (.mp n)=[.mp n]:=rfl
theorem T2 (n:Nat):AV.nH (.mp n)=true:=rfl
theorem Uc (n:Nat):AV.one (.mp n)=true:=rfl
theorem W6:AV.cells (.u)=[.u]:=rfl
theorem W9:AV.nH (.u)=false:=rfl
theorem Xb:AV.one (.u)=false:=rfl
theorem PQ (l:List AV):AV.cells (.tup l)=[.tup l]:=rfl
theorem P1 (l:List AV):AV.nH (.tup l)=false:=rfl
theorem P8 (l:List AV):AV.one (.tup l)=false:=rfl
theorem PO (l:List AV):AV.cells (.agg l)=l:=rfl
theorem P0 (l:List AV):AV.nH (.agg l)=l.all AV.one:=rfl
theorem P7 (l:List AV):AV.one (.agg l)=false:=rfl
theorem Xc (x:PV):AV.one (.v x)=x.one:=rfl
theorem PZ (l:List AV):AV.isAgg (.agg l)=True:=rfl
theorem W7 (l:List PV):AV.isAgg (.v (.agg l))=True:=rfl
attribute [irreducible] KW CW RW OW CR GR BX PX CV xG O8
def UA:Nat->List PV->List (Nat×AV)
 | _,[]=>[]
 |i,x::l=>(i, .v x)::UA (i+1) l
def JW:Nat->List AV->List (Nat×AV)
 | _,[]=>[]
 |i,x::l=>(i,x)::JW (i+1) l
def JX:Nat->List aC->List (Nat×aC)
 | _,[]=>[]
 |i,x::l=>(i,x)::JX (i+1) l
theorem UB (l:List PV):l.mapIdx (fun i x=>(i,AV.v x))=UA 0 l:=by
 have: ∀(l:List PV) (k:Nat),l.mapIdx (fun i x=>(i+k,AV.v x))=UA k l:=by
  intro l
  induction l with
  |nil=>intro k;rfl
  |cons x l ih=>
   intro k;rw[nr,UA,<-ih (k+1)];have e:(fun i (x:PV)=>(i+1+k,AV.v x))=fun i x=>(i+(k+1),AV.v x):=by funext i x;congr 1;omega
   rw[e];simp
 exact this l 0
theorem Qv (l:List AV):l.mapIdx (fun i x=>(i,x))=JW 0 l:=by
 have: ∀(l:List AV) (k:Nat),l.mapIdx (fun i x=>(i+k,x))=JW k l:=by
  intro l
  induction l with
  |nil=>intro k;rfl
  |cons x l ih=>
   intro k;rw[nr,JW,<-ih (k+1)];have e:(fun i (x:AV)=>(i+1+k,x))=fun i x=>(i+(k+1),x):=by funext i x;congr 1;omega
   rw[e];simp
 exact this l 0
theorem Qw (l:List aC):l.mapIdx (fun i x=>(i,x))=JX 0 l:=by
 have: ∀(l:List aC) (k:Nat),l.mapIdx (fun i x=>(i+k,x))=JX k l:=by
  intro l
  induction l with
  |nil=>intro k;rfl
  |cons x l ih=>
   intro k;rw[nr,JX,<-ih (k+1)];have e:(fun i (x:aC)=>(i+1+k,x))=fun i x=>(i+(k+1),x):=by funext i x;congr 1;omega
   rw[e];simp
 exact this l 0
theorem qO.w {P:Program} [ct P] (hm:P.follows .mixedOrders=true) {f:FuncId} {fn:Func} {sc:SC} {rs:List pM} (hent:Enters P f f) (hfn:P.funcs[f]?=some fn) (hb:fn.body.isSome=true) (hc:comp P fn.ntmps (fn.body.getD .skip)=some sc) (hr:gT P fn.results.toList=some rs)
  {args:List PV} {r:PV} (hlen:Nat.ble args.length fn.ntmps=true) (h:CW P (Jr rs r) sc [] ⟨UA 0 args,[],1000⟩):qO P f args r:=
 qO.mk' hm hent hfn hb hc hr (fk hlen) (by rw[UB];exact CW.start h)
theorem jU.w {P:Program} [ct P] (hm:P.follows .mixedOrders=true) {f:FuncId} {fn:Func} {sc:SC} {rs:List pM} (hent:Enters P f f) (hfn:P.funcs[f]?=some fn) (hb:fn.body.isSome=true) (hc:comp P fn.ntmps (fn.body.getD .skip)=some sc) (hr:gT P fn.results.toList=some rs)
  {obs:List aC} {args:List AV} {fs:List (Option (Option aC))} {j:Option Nat} {nw:Option aC} {v:AV} (hlen:Nat.ble args.length fn.ntmps=true) (h:CW P (iU rs obs fs j nw v) sc [] ⟨JW 0 args,JX 0 obs,1000⟩)
  {ns:List Nat} {nm:Nat} {obsA:List aC} {avs:List AV} {v':AV} {up:List (Nat×Option aC)} (hns:ns.length<=1000) (hnd:ns.Nodup) (hln:ns.length=obsA.length) (hob:aU (aC.ren (cT ns)) obsA=some obs) (hav:aU (AV.ren (cT ns)) avs=some args)
  (hv:v.ren (gO ns nm)=some v') (hup:fT ns nm fs nw=some up):jU P f nm (ns.zip obsA) avs v' up:=
 jU.mk' hm hent hfn hb hc hr (fk hlen) (by rw[Qv,Qw];exact h) hns hnd hln hob hav hv hup
attribute [go_sem] Bool.not_true Bool.not_false eq_self implies_true imp_false not_false_eq_true Ph Tp Tl Pe Pg Pf Tn Tm Tx Pu Pt Pv Pq Pp Ps Tv Tu Tw Po WQ AV.off AV.off.offL Tz Ty TA qa TE WU XW WT Px Pw Zh WH WC WG WA Lx Ze WM WI WD Sr Sq Th Zb Zc WE Zm Zl JJ JK OO OP fe cM dm SX.ev aO FG Hh hget hput EH kX AS.s9 AS.set QO RT PA Y6 WZ PD PF PE PB PG lenOf bounds qc sC AV.XT AV.DR AV.S1 pU jv aU Rs XU TX XY T7 XV TY XZ T8 XX TZ X1 T9 Rw L4 RC L9 VM PY VR P6 VJ PT VO P3 Rt LY Ry L6 VK PU VP P4 Ru LZ Rz L7 Rv L3 RA L8 Rx LX L5 W0 W8 Xa TT T3 Ud TU T4 Ue TQ T1 Ub TV T5 Uf TP T0 Ua W6 W9 Xb TS T2 Uc PQ P1 P8 PO P0 P7 Xc PZ W7 u8 allM_nil allM_cons Uq yt PI Jt GG ne_eq Int.cast_ofNat_Int Xh Xi List.flatten_cons List.flatten_nil List.flatMap_cons List.flatMap_nil IntKind.bits Nat.min_def List.take_length CS List.length_map IntWalk.i64_in IntWalk.u8_in IntWalk.u64_in decide_true decide_false Int.toNat_natCast Int.toNat_zero Int.toNat_one ite_true ite_false List.length_cons List.length_nil List.map_cons List.map_nil List.all_cons List.all_nil Bool.and_true Bool.true_and Bool.and_self Option.map_some Option.map_none List.take_succ_cons List.take_zero List.drop_succ_cons List.drop_zero List.take_nil List.drop_nil List.getD_cons_zero List.getD_cons_succ List.nil_append List.cons_append List.append_nil Nat.zero_add Nat.add_zero Nat.le_refl true_and and_true and_self true_implies forall_const Nat.mul_one Nat.one_mul Sy l9 ju j6 Gc List.isEmpty_cons List.isEmpty_nil Bool.or_true Bool.true_or Bool.false_or Bool.or_false Bool.and_false Bool.false_and Jr KS G9 view yJ LL LK PH LM UA JW JX AV.nz PV.nz VL PW VQ P5 VI PS VN P2 TW T6 Ug WK WL
