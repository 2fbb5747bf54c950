/- Part of the proof. -/
import Derived.IntWalk
import Derived.Attr
import Derived.Test.YtnhhajlcpjgkjaaGreatDoorUC14
set_option linter.all false
namespace Go.Dom
open Go.RowKit
inductive Fr where
 |seq (b:SC)
 |blk (id:Nat)
 |lp (R:AS->Prop)
 |asg (b:SC)
 |rg (t0:List (Nat×AV)) (R:AS->Prop)
 |bk (ns:List Nat) (t0:List (Nat×AV)) (obs:List (Nat×Option aH))
def KW (P:Program) [cE P] (Q:AX->AS->Prop):List Fr->AX->AS->Prop
 |[],e,s=>Q e s
 | .seq b::K, .normal,s=>aw P b (KW P Q K) s
 | .seq _::K, .exit j,s=>KW P Q K (.exit j) s
 | .seq _::K, .ret,s=>KW P Q K .ret s
 | .blk _::K, .normal,s=>KW P Q K .normal s
 | .blk id::K, .exit j,s=>if j=id then KW P Q K .normal s else KW P Q K (.exit j) s
 | .blk _::K, .ret,s=>KW P Q K .ret s
 | .lp R:: _, .normal,s=>R s
 | .lp _::K, .exit j,s=>KW P Q K (.exit j) s
 | .lp _::K, .ret,s=>KW P Q K .ret s
 | .asg b::K, .normal,s=>aw P b (KW P Q K) s
 | .asg _:: _, .exit _,_=>False
 | .asg _:: _, .ret,_=>False
 | .bk ns t0 obs::K,e,s=>(∀p∈s.h,∀c∈p.2.cells,c.off ns=true)/\KW P Q K e ⟨t0,kL s.h obs,s.nx⟩
 | .rg t0 R:: _, .normal,s=>R {s with t:=t0}
 | .rg t0 _::K, .exit j,s=>KW P Q K (.exit j) {s with t:=t0}
 | .rg t0 _::K, .ret,s=>KW P Q K .ret {s with t:=t0}
section
variable (P:Program) [cE P] (Q:AX->AS->Prop)
def CW (sc:SC) (K:List Fr) (s:AS):Prop:=aw P sc (KW P Q K) s
def Pq (bf:Option (List Nat)) (tr:List (Nat×List Nat×List Nat)):Prop:=
 match bf with
 |none=>True
 |some b=>Oj b tr=true
def wA (bf:Option (List Nat)) (k:Nat) (rs:List Nat) (up:List (Nat×Option aH)) (tr:List (Nat×List Nat×List Nat)):List (Nat×List Nat×List Nat):=
 match bf with
 |none=>[]
 |some _=>(k,rs,up.map (·.1))::tr
def RW (nx:Nat) (bf:Option (List Nat)) (n:Nat) (ops:List jE) (k:Nat) (s:AS) (tr:List (Nat×List Nat×List Nat)) (K:List Fr):Prop:=
 match bf with
 |none=>qP P nx ops k s fun s'=>KW P Q K .normal {s' with nx:=n}
 |some b=>zI P nx ops k s tr fun s' tr=>Oj b tr=true/\KW P Q K .normal {s' with nx:=n}
def OW (nx:Nat) (bf:Option (List Nat)) (n:Nat) (x:Option AO) (d:Option Nat) (ops:List jE) (k:Nat) (s:AS) (tr:List (Nat×List Nat×List Nat)) (K:List Fr):Prop:=
 JR x fun ao=>RW P Q nx bf n ops (k+1) (s.rP d ao.v ao.up) (wA bf k ao.rs ao.up tr) K
def CR (nx:Nat) (bf:Option (List Nat)) (n:Nat) (nm:Nat) (fv:AV) (avs:List AV) (d:Option Nat) (ops:List jE) (k:Nat) (s:AS) (tr:List (Nat×List Nat×List Nat)) (K:List Fr):Prop:=
 G7 P nm s.h fv avs fun ao=>RW P Q nx bf n ops (k+1) (s.rP d ao.v ao.up) (wA bf k ao.rs ao.up tr) K
def GR (nx:Nat) (bf:Option (List Nat)) (n:Nat) (v:AV) (t:Nat) (want:Bool) (d:Option Nat) (o:SO) (ops:List jE) (k:Nat) (s:AS) (tr:List (Nat×List Nat×List Nat)) (K:List Fr):Prop:=
 PO v t want s (fun s=>RW P Q nx bf n (⟨d,o,none⟩::ops) k s tr K) (fun s=>RW P Q nx bf n ops (k+1) (s.rP d (.v (.tup [])) []) (wA bf k [] [] tr) K)
def CV (v:AV) (a b:SC) (K:List Fr) (s:AS):Prop:=Ht v (CW P Q a K s) (CW P Q b K s)
inductive BK where
 |cw (a b:SC) (K:List Fr) (s:AS)
 |gd (nx:Nat) (bf:Option (List Nat)) (n:Nat) (t:Nat) (want:Bool) (d:Option Nat) (o:SO) (ops:List jE) (k:Nat) (s:AS) (tr:List (Nat×List Nat×List Nat)) (K:List Fr)
 |ng (κ:BK)
def BX (c:Bool):BK->Prop
 | .cw a b K s=>xu c (CW P Q a K s) (CW P Q b K s)
 | .gd nx bf n t want d o ops k s tr K=>GR P Q nx bf n (.v (.b c)) t want d o ops k s tr K
 | .ng κ=>BX (!c) κ
def PX (p:Prop) (κ:BK):Prop:=(p->BX P Q true κ)/\(¬p->BX P Q false κ)
def Oi (ps:List Nat) (a b:SC) (K:List Fr) (t0:List (Nat×AV)) (N:Nat) (fin:Bool) (xs:List (List PV)) (s:AS):Prop:=
 Wv (fun y Qx s1=>aw P a (fun e s2=>match e with
  | .normal=>aw P b Qx s2
  | _=>False) {s1 with t:=pT s1.t ps y}) (KW P Q K) t0 N fin xs s
def xk (a:SC) (K:List Fr) (N:Nat) (s:AS):Prop:=uU (aw P a) (KW P Q K) N s
variable {P Q}
variable {κ:BK}
theorem CW.start {sc:SC} {s:AS} (h:CW P Q sc [] s):aw P sc Q s:=by
 have:KW P Q []=Q:=by funext e s;rfl
 unfold CW at h;rw[this]at h;exact h
theorem jD.mk' {f:FuncId} {fn:Func} {sc:SC} {rs:List pB} (hm:P.follows .mixedOrders=true) (hent:Enters P f f) (hfn:P.funcs[f]?=some fn) (hb:fn.body.isSome=true) (hc:comp P fn.ntmps (fn.body.getD .skip)=some sc) (hr:gD P fn.results.toList=some rs)
  {obs:List aH} {args:List AV} {fs:List (Option (Option aH))} {j:Option Nat} {nw:Option aH} {v:AV} (hlen:args.length<=fn.ntmps) (h:CW P (iB rs obs fs j nw v) sc [] ⟨args.mapIdx (fun i x=>(i,x)),obs.mapIdx (fun i x=>(i,x)),1000⟩)
  {ns:List Nat} {nm:Nat} {obsA:List aH} {avs:List AV} {v':AV} {up:List (Nat×Option aH)} (hns:ns.length<=1000) (hnd:ns.Nodup) (hln:ns.length=obsA.length) (hob:aW (aH.aU (dp ns)) obsA=some obs) (hav:aW (AV.aU (dp ns)) avs=some args)
  (hv:v.aU (gv ns nm)=some v') (hup:fC ns nm fs nw=some up):jD P f nm (ns.zip obsA) avs v' up:=by
 obtain⟨code,hcode⟩:=tu.1 hb;rw[hcode]at hc;exact jD.Mz hm hent hfn hcode hc hr hlen (CW.start h) hns hnd hln hob hav hv hup
theorem Oy (K:List Fr) (s:AS):CW P Q .skip K s=KW P Q K .normal s:=rfl
theorem St (a b:SC) (K:List Fr) (s:AS):CW P Q (.seq a b) K s=CW P Q a (.seq b::K) s:=by
 simp only[CW,aw];congr 1
 funext e s'
 cases e<;>rfl
theorem Sq (id:Nat) (a:SC) (K:List Fr) (s:AS):CW P Q (.blk id a) K s=CW P Q a (.blk id::K) s:=by
 simp only[CW,aw];congr 1
 funext e s'
 cases e<;>rfl
theorem Ov (x:SX) (a b:SC) (K:List Fr) (s:AS):CW P Q (.cond x a b) K s=CV P Q (x.ev (aS s.t)) a b K s:=rfl
theorem YZ (c:Bool) (a b:SC) (K:List Fr) (s:AS):CV P Q (.v (.b c)) a b K s=BX P Q c (.cw a b K s):=rfl
theorem Wj (a b:SC) (K:List Fr) (s:AS):BX P Q true (.cw a b K s)=CW P Q a K s:=by simp only[BX,ri]
theorem We (a b:SC) (K:List Fr) (s:AS):BX P Q false (.cw a b K s)=CW P Q b K s:=by simp only[BX,pE]
theorem Rq (κ:BK):BX P Q true (.ng κ)=BX P Q false κ:=by simp only[BX,cl]
theorem Rp (κ:BK):BX P Q false (.ng κ)=BX P Q true κ:=by simp only[BX,cG]
theorem Sm (c:Bool) (κ:BK):BX P Q (!c) κ=BX P Q c (.ng κ):=by simp only[BX]
theorem Oq {c:Bool} (h:c=true):BX P Q c κ=BX P Q true κ:=by rw[h]
theorem Oo {c:Bool} (h:c=false):BX P Q c κ=BX P Q false κ:=by rw[h]
theorem KE {p:Prop} (h:p):PX P Q p κ=BX P Q true κ:=by simp only[PX,h,true_implies,xb,false_implies,and_true]
theorem KD {p:Prop} (h: ¬p):PX P Q p κ=BX P Q false κ:=by simp only[PX,h,false_implies,tM,true_implies,true_and]
theorem Y8 (κ:BK):PX P Q True κ=BX P Q true κ:=KE trivial
theorem Y7 (κ:BK):PX P Q False κ=BX P Q false κ:=KD id
theorem YW (p:Prop) [Decidable p] (κ:BK):BX P Q (decide p) κ=PX P Q p κ:=by
 by_cases h:p
 ·rw[Oq (aV h),KE h]
 ·rw[Oo (bL h),KD h]
theorem YX (x y:Int) (κ:BK):BX P Q (x==y) κ=PX P Q (x=y) κ:=by
 by_cases h:x=y
 ·rw[Oq (by simpa using h),KE h]
 ·rw[Oo (by simpa using h),KD h]
theorem Wg (x y:Int) (κ:BK):BX P Q (x !=y) κ=PX P Q (x=y) (.ng κ):=by
 by_cases h:x=y
 ·rw[Oo (by simpa using h),KE h,Rq]
 ·rw[Oq (by simpa using h),KD h,Rp]
theorem BX.mk {c:Bool} (h1:c=true->BX P Q true κ) (h2:c=false->BX P Q false κ):BX P Q c κ:=by
 cases c
 ·exact h2 rfl
 ·exact h1 rfl
theorem PX.mk {p:Prop} (h1:p->BX P Q true κ) (h2: ¬p->BX P Q false κ):PX P Q p κ:=⟨h1,h2⟩
theorem Wn (a b:SC) (K:List Fr) (s:AS):CV P Q .ub a b K s=(CW P Q a K s/\CW P Q b K s):=rfl
theorem Ox (a:SC) (K:List Fr) (s:AS):CW P Q (.loop a) K s=xk P Q a K s.nx s:=rfl
theorem Ow (id:Nat) (K:List Fr) (s:AS):CW P Q (.exit id) K s=KW P Q K (.exit id) s:=rfl
theorem Ss (K:List Fr) (s:AS):CW P Q .ret K s=KW P Q K .ret s:=rfl
theorem Sr (bf:Option (List Nat)) (ops:List jE) (K:List Fr) (s:AS):CW P Q (.reg bf ops) K s=RW P Q s.nx bf (s.nx+ops.length) ops 0 s [] K:=by
 cases bf<;>rfl
theorem SA (e:AX) (s:AS):KW P Q [] e s=Q e s:=rfl
theorem OJ (b:SC) (K:List Fr) (s:AS):KW P Q (.seq b::K) .normal s=CW P Q b K s:=rfl
theorem OI (b:SC) (K:List Fr) (j:Nat) (s:AS):KW P Q (.seq b::K) (.exit j) s=KW P Q K (.exit j) s:=rfl
theorem OK (b:SC) (K:List Fr) (s:AS):KW P Q (.seq b::K) .ret s=KW P Q K .ret s:=rfl
theorem OG (i:Nat) (K:List Fr) (s:AS):KW P Q (.blk i::K) .normal s=KW P Q K .normal s:=rfl
theorem OF (i:Nat) (K:List Fr) (j:Nat) (s:AS):KW P Q (.blk i::K) (.exit j) s=if j=i then KW P Q K .normal s else KW P Q K (.exit j) s:=rfl
theorem OH (i:Nat) (K:List Fr) (s:AS):KW P Q (.blk i::K) .ret s=KW P Q K .ret s:=rfl
theorem xd {x:SX} {ps:List Nat} {a b:SC} {K:List Fr} {s:AS} {g:FuncId} {caps:List PV} {fin:Bool} {xs:List (List PV)} (hi:Wp P g caps fin xs) (hx:x.ev (aS s.t)= .v (.fc g [] caps)) (hl: ∀y∈xs,y.length=ps.length) (h:Oi P Q ps a b K s.t s.nx fin xs s):CW P Q (.rng x ps a b) K s:=by
 have e:qQ [] s (KW P Q K)=KW P Q K:=by funext e s';simp[qQ]
 refine⟨g,caps,fin,xs,[],by rw[hx];rfl,by rw[hx];simp[bC],by simp,hi,fun y hy=>⟨hl y hy, .inl rfl⟩,?_⟩
 rw[e];exact h
section
variable {ps:List Nat} {a b:SC} {K:List Fr} {t0:List (Nat×AV)} {N:Nat} {s:AS} {fin:Bool}
variable {xs ys:List (List PV)}
theorem Vz (h:KW P Q K .normal s):Oi P Q ps a b K t0 N true [] s:=fun X h1 _ _=>h1 _ rfl h
theorem Iq {s':AS} (hN:N<=s'.nx) (hle:s'.Le s) (h:Oi P Q ps a b K t0 N fin ys s'):Oi P Q ps a b K t0 N fin ys s:=fun X h1 h2 h3=>h3 ys s' s hN hle (h X h1 h2 h3)
theorem QV {y:List PV} (h:CW P Q a (.asg b:: .rg t0 (Oi P Q ps a b K t0 N fin ys)::K) {s with t:=pT s.t ps y}):Oi P Q ps a b K t0 N fin (y::ys) s:=by
 intro X h1 h2 h3;refine h2 y ys s (qc (fun e s2 hs=> ?_) h)
 cases e with
 |normal=>
  refine qc (fun e s3 hs3=> ?_) hs
  cases e with
  |normal=>exact hs3 X h1 h2 h3
  |exit j=>exact hs3
  |ret=>exact hs3
 |exit j=>exact hs
 |ret=>exact hs
theorem Ip {α:Type} (st:α->AS) (ok:List (List PV)->α->Prop) (a0:α) (hN: ∀x,N<=(st x).nx) (h0:ok xs a0) (hle:(st a0).Le s) (hnil: ∀x,ok [] x->fin=true/\KW P Q K .normal (st x))
  (hcons: ∀y ys x,ok (y::ys) x-> ∀R:AS->Prop,(∀x',ok ys x'-> ∀s',(st x').Le s'->R s')->CW P Q a (.asg b:: .rg t0 R::K) {st x with t:=pT (st x).t ps y}):Oi P Q ps a b K t0 N fin xs s:=by
 refine Iq (hN a0) hle ?_;clear hle
 induction xs generalizing a0 with
 |nil=>
  obtain⟨rfl,h⟩:=hnil a0 h0;exact Vz h
 |cons y ys ih=>exact QV (hcons y ys a0 h0 _ fun x' hx' s' hs'=>Iq (hN x') hs' (ih x' hx'))
theorem Ck {α:Type} (st:α->AS) (ok:List (List PV)->α->Prop) (a0:α) (hN: ∀x,N<=(st x).nx) (h0:ok xs a0) (hle:(st a0).Le s) (hnil: ∀x,ok [] x->KW P Q K .normal (st x))
  (hcons: ∀y ys x,ok (y::ys) x-> ∀R:AS->Prop,(∀x',ok ys x'-> ∀s',(st x').Le s'->R s')->CW P Q a (.asg b:: .rg t0 R::K) {st x with t:=pT (st x).t ps y}):Oi P Q ps a b K t0 N true xs s:=
 Ip st ok a0 hN h0 hle (fun x h=>⟨rfl,hnil x h⟩) hcons
theorem QW {α:Type} (st:α->AS) (ok:List (List PV)->α->Prop) (a0:α) (hN: ∀x,N<=(st x).nx) (h0:ok xs a0) (hle:(st a0).Le s) (hnil: ∀x,¬ok [] x)
  (hcons: ∀y ys x,ok (y::ys) x-> ∀R:AS->Prop,(∀x',ok ys x'-> ∀s',(st x').Le s'->R s')->CW P Q a (.asg b:: .rg t0 R::K) {st x with t:=pT (st x).t ps y}):Oi P Q ps a b K t0 N false xs s:=
 Ip st ok a0 hN h0 hle (fun x h=>(hnil x h).elim) hcons
end
theorem OE (b:SC) (K:List Fr) (s:AS):KW P Q (.asg b::K) .normal s=CW P Q b K s:=rfl
theorem Wq (ns:List Nat) (t0:List (Nat×AV)) (obs:List (Nat×Option aH)) (K:List Fr) (e:AX) (s:AS):KW P Q (.bk ns t0 obs::K) e s=((∀p∈s.h,∀c∈p.2.cells,c.off ns=true)/\KW P Q K e ⟨t0,kL s.h obs,s.nx⟩):=rfl
theorem SE (t0:List (Nat×AV)) (R:AS->Prop) (K:List Fr) (s:AS):KW P Q (.rg t0 R::K) .normal s=R ⟨t0,s.h,s.nx⟩:=rfl
theorem SD (t0:List (Nat×AV)) (R:AS->Prop) (K:List Fr) (j:Nat) (s:AS):KW P Q (.rg t0 R::K) (.exit j) s=KW P Q K (.exit j) ⟨t0,s.h,s.nx⟩:=rfl
theorem SF (t0:List (Nat×AV)) (R:AS->Prop) (K:List Fr) (s:AS):KW P Q (.rg t0 R::K) .ret s=KW P Q K .ret ⟨t0,s.h,s.nx⟩:=rfl
theorem Sy (R:AS->Prop) (K:List Fr) (s:AS):KW P Q (.lp R::K) .normal s=R s:=rfl
theorem Sx (R:AS->Prop) (K:List Fr) (j:Nat) (s:AS):KW P Q (.lp R::K) (.exit j) s=KW P Q K (.exit j) s:=rfl
theorem Sz (R:AS->Prop) (K:List Fr) (s:AS):KW P Q (.lp R::K) .ret s=KW P Q K .ret s:=rfl
section
variable (nx:Nat) (bf:Option (List Nat)) (n:Nat) (d:Option Nat) (ops:List jE) (k:Nat) (s:AS) (tr:List (Nat×List Nat×List Nat)) (K:List Fr)
variable {avs:List AV} {f:FuncId} {nm:Nat} {pvs:List PV}
theorem SK:RW P Q nx bf n [] k s tr K=(Pq bf tr/\KW P Q K .normal {s with nx:=n}):=by
 cases bf
 ·simp only[RW,qP,Pq,true_and]
 ·rfl
def XW (P:Program) [cE P] (Q:AX->AS->Prop) (nx:Nat) (bf:Option (List Nat)) (n:Nat) (o:SO) (d:Option Nat) (ops:List jE) (k:Nat) (s:AS) (tr:List (Nat×List Nat×List Nat)) (K:List Fr):Prop:=
 match o with
 | .call f args=>CR P Q nx bf n (nx+k) (f.ev (aS s.t)) (args.map (SX.ev (aS s.t))) d ops k s tr K
 |o=>OW P Q nx bf n (eV (nx+k) o (aS s.t) (aB s.h)) d ops k s tr K
theorem Wu (o:SO):RW P Q nx bf n (⟨d,o,none⟩::ops) k s tr K=XW P Q nx bf n o d ops k s tr K:=by
 cases o<;>cases bf<;>rfl
theorem Wt (o:SO) (t:Nat) (want:Bool):RW P Q nx bf n (⟨d,o,some (t,want)⟩::ops) k s tr K=GR P Q nx bf n (aS s.t t) t want d o ops k s tr K:=by
 cases bf<;>rfl
theorem OM (v:AV) (p:Prop) (rs:List Nat) (up:List (Nat×Option aH)):OW P Q nx bf n (some ⟨v,p,rs,up⟩) d ops k s tr K=(p/\RW P Q nx bf n ops (k+1) (s.rP d v up) (wA bf k rs up tr) K):=rfl
theorem OL:OW P Q nx bf n none d ops k s tr K=False:=rfl
theorem Y3 (x:Bool) (t:Nat) (want:Bool) (o:SO):GR P Q nx bf n (.v (.b x)) t want d o ops k s tr K=BX P Q x (.gd nx bf n t want d o ops k s tr K):=rfl
theorem Wi (t:Nat) (o:SO):BX P Q true (.gd nx bf n t true d o ops k s tr K)=RW P Q nx bf n (⟨d,o,none⟩::ops) k (s.set t (.v (.b true))) tr K:=by simp only[BX,GR,PO,ri]
theorem Wd (t:Nat) (o:SO):BX P Q false (.gd nx bf n t true d o ops k s tr K)=RW P Q nx bf n ops (k+1) ((s.set t (.v (.b false))).rP d (.v (.tup [])) []) (wA bf k [] [] tr) K:=by simp only[BX,GR,PO,pE]
theorem Wh (t:Nat) (o:SO):BX P Q true (.gd nx bf n t false d o ops k s tr K)=RW P Q nx bf n ops (k+1) ((s.set t (.v (.b true))).rP d (.v (.tup [])) []) (wA bf k [] [] tr) K:=by simp only[BX,GR,PO,ri]
theorem Wc (t:Nat) (o:SO):BX P Q false (.gd nx bf n t false d o ops k s tr K)=RW P Q nx bf n (⟨d,o,none⟩::ops) k (s.set t (.v (.b false))) tr K:=by simp only[BX,GR,PO,pE]
theorem Ky (t:Nat) (want:Bool) (o:SO):GR P Q nx bf n (.v (.tup [])) t want d o ops k s tr K=RW P Q nx bf n ops (k+1) (s.rP d (.v (.tup [])) []) (wA bf k [] [] tr) K:=by simp only[GR,PO]
theorem I8:Pq none tr=True:=rfl
theorem I9 (b:List Nat):Pq (some b) tr=(Oj b tr=true):=rfl
theorem NV (rs:List Nat) (up:List (Nat×Option aH)):wA none k rs up tr=[]:=rfl
theorem NW (b:List Nat) (rs:List Nat) (up:List (Nat×Option aH)):wA (some b) k rs up tr=(k,rs,up.map (·.1))::tr:=rfl
theorem gp {nx:Nat} {bf:Option (List Nat)} {n:Nat} {d:Option Nat} {ops:List jE} {k:Nat} {s:AS} {tr:List (Nat×List Nat×List Nat)} {K:List Fr} {r:PV} (he:p9 P f pvs r) (ha:my avs=some pvs) (hK:RW P Q nx bf n ops (k+1) (s.rP d (.v r) []) (wA bf k [] [] tr) K):
  CR P Q nx bf n nm (.v (.fn (.func f))) avs d ops k s tr K:=⟨_, .pure f avs pvs r rfl ha he,hK⟩
theorem Wm {nx:Nat} {bf:Option (List Nat)} {n:Nat} {d:Option Nat} {ops:List jE} {k:Nat} {s:AS} {tr:List (Nat×List Nat×List Nat)} {K:List Fr} {a c:List AV}:
  CR P Q nx bf n nm (.fn (.func f) a c) avs d ops k s tr K=CR P Q nx bf n nm (.v (.fn (.func f))) (a++(avs++c)) d ops k s tr K:=by
 have h: ∀ao,kV P nm (aB s.h) (.fn (.func f) a c) avs ao↔kV P nm (aB s.h) (.v (.fn (.func f))) (a++(avs++c)) ao:=by
  intro ao;constructor
  ·intro h
   cases h with
   |pure f avs pvs r hfv hargs he=>exact .pure f avs pvs r hfv hargs he
   |view f avs pvs r hfv hargs hr he=>exact .view f avs pvs r hfv hargs hr he
   |jN f avs pvs r hfv hargs hlo he=>exact .jN f avs pvs r hfv hargs hlo he
   |eff f avs hs v up hfv hhs he=>exact .eff f avs hs v up hfv hhs he
   |same f v hfv he=>exact .same f v hfv he
   |ext f avs pvs r hfv hargs he=>exact .ext f avs pvs r hfv hargs he
  ·intro h
   cases h with
   |pure f avs pvs r hfv hargs he=>exact .pure f avs pvs r hfv hargs he
   |view f avs pvs r hfv hargs hr he=>exact .view f avs pvs r hfv hargs hr he
   |jN f avs pvs r hfv hargs hlo he=>exact .jN f avs pvs r hfv hargs hlo he
   |eff f avs hs v up hfv hhs he=>exact .eff f avs hs v up hfv hhs he
   |same f v hfv he=>exact .same f v hfv he
   |ext f avs pvs r hfv hargs he=>exact .ext f avs pvs r hfv hargs he
 unfold CR G7;simp only[h]
theorem Wl {nx:Nat} {bf:Option (List Nat)} {n:Nat} {d:Option Nat} {ops:List jE} {k:Nat} {s:AS} {tr:List (Nat×List Nat×List Nat)} {K:List Fr} {a c:List PV}:
  CR P Q nx bf n nm (.v (.fc f a c)) avs d ops k s tr K=CR P Q nx bf n nm (.v (.fn (.func f))) (a.map .v++(avs++c.map .v)) d ops k s tr K:=by
 have h: ∀ao,kV P nm (aB s.h) (.v (.fc f a c)) avs ao↔kV P nm (aB s.h) (.v (.fn (.func f))) (a.map .v++(avs++c.map .v)) ao:=by
  intro ao;constructor
  ·intro h
   cases h with
   |pure f avs pvs r hfv hargs he=>exact .pure f avs pvs r hfv hargs he
   |view f avs pvs r hfv hargs hr he=>exact .view f avs pvs r hfv hargs hr he
   |jN f avs pvs r hfv hargs hlo he=>exact .jN f avs pvs r hfv hargs hlo he
   |eff f avs hs v up hfv hhs he=>exact .eff f avs hs v up hfv hhs he
   |same f v hfv he=>exact .same f v hfv he
   |ext f avs pvs r hfv hargs he=>exact .ext f avs pvs r hfv hargs he
  ·intro h
   cases h with
   |pure f avs pvs r hfv hargs he=>exact .pure f avs pvs r hfv hargs he
   |view f avs pvs r hfv hargs hr he=>exact .view f avs pvs r hfv hargs hr he
   |jN f avs pvs r hfv hargs hlo he=>exact .jN f avs pvs r hfv hargs hlo he
   |eff f avs hs v up hfv hhs he=>exact .eff f avs hs v up hfv hhs he
   |same f v hfv he=>exact .same f v hfv he
   |ext f avs pvs r hfv hargs he=>exact .ext f avs pvs r hfv hargs he
 unfold CR G7;simp only[h]
theorem e7 {nx:Nat} {bf:Option (List Nat)} {n:Nat} {d:Option Nat} {ops:List jE} {k:Nat} {s:AS} {tr:List (Nat×List Nat×List Nat)} {K:List Fr} {r:PV} (he:p9 P f pvs r) (ha:aW (view (aB s.h) 9) avs=some pvs) (hr:r.flat=true) (hK:RW P Q nx bf n ops (k+1) (s.rP d (.v r) []) (wA bf k (avs.flatMap (bC (aB s.h) 9)) [] tr) K):
  CR P Q nx bf n nm (.v (.fn (.func f))) avs d ops k s tr K:=⟨_, .view f avs pvs r rfl ha hr he,hK⟩
theorem G6 {nx:Nat} {bf:Option (List Nat)} {n:Nat} {d:Option Nat} {ops:List jE} {k:Nat} {s:AS} {tr:List (Nat×List Nat×List Nat)} {K:List Fr} {r:PV} (ns:List Nat) (he:p9 P f pvs r) (hlo:ns.all (fun n=>decide (1000<=n))=true) (hv:avs.flatMap (bC (aB s.h) 9)=ns) (ha:aW (view (aB s.h) 9) avs=some pvs)
  (hK:RW P Q nx bf n ops (k+1) (s.rP d (.v r) (ns.map fun n=>(n,none))) (wA bf k ns (ns.map fun n=>(n,none)) tr) K):
  CR P Q nx bf n nm (.v (.fn (.func f))) avs d ops k s tr K:=by
 subst hv;exact⟨_, .jN f avs pvs r rfl ha (fun n hn=>of_decide_eq_true (bH.1 hlo n hn)) he,hK⟩
theorem bE {nx:Nat} {bf:Option (List Nat)} {n:Nat} {d:Option Nat} {ops:List jE} {k:Nat} {s:AS} {tr:List (Nat×List Nat×List Nat)} {K:List Fr} {hs:List (Nat×aH)} {v:AV} {up:List (Nat×Option aH)} (he:jD P f nm hs avs v up) (hh: ∀p∈hs,aB s.h p.1=some p.2) (hK:RW P Q nx bf n ops (k+1) (s.rP d v up) (wA bf k (hs.map (·.1)) up tr) K):
  CR P Q nx bf n nm (.v (.fn (.func f))) avs d ops k s tr K:=⟨_, .eff f avs hs v up rfl hh he,hK⟩
theorem Ot {nx:Nat} {bf:Option (List Nat)} {n:Nat} {d:Option Nat} {ops:List jE} {k:Nat} {s:AS} {tr:List (Nat×List Nat×List Nat)} {K:List Fr} {v:AV} (he:Y1 P f) (hK:RW P Q nx bf n ops (k+1) (s.rP d v []) (wA bf k [] [] tr) K):
  CR P Q nx bf n nm (.v (.fn (.func f))) [v] d ops k s tr K:=⟨_, .same f v rfl he,hK⟩
end
variable {h h':List (Nat×aH)} {n n':Nat} {t t':List (Nat×AV)}
theorem So {nx:Nat} {bf:Option (List Nat)} {d:Option Nat} {ops:List jE} {k:Nat} {s:AS} {tr:List (Nat×List Nat×List Nat)} {K:List Fr} {nm:Nat} {f:FuncId} {avs:List AV} {pvs:List PV} {r:PV} (he:Y2 P f pvs r) (ha:my avs=some pvs) (hK:RW P Q nx bf n ops (k+1) (s.rP d (.v r) []) (wA bf k [] [] tr) K):
  CR P Q nx bf n nm (.v (.fn (.func f))) avs d ops k s tr K:=⟨_, .ext f avs pvs r rfl ha he,hK⟩
theorem aj {a:SC} {K:List Fr} {N:Nat} {s:AS} (h:CW P Q a (.lp (xk P Q a K N)::K) s):xk P Q a K N s:=by
 refine vi (qc (fun e s' hs=> ?_) h)
 cases e<;>exact hs
theorem ak {a:SC} {K:List Fr} {N:Nat} {s:AS} {α:Type} (m:α->Nat) (st:α->AS) (ok:α->Prop) (a0:α) (hN: ∀x,N<=(st x).nx) (h0:ok a0) (hle:(st a0).Le s)
  (hr: ∀x,ok x-> ∀R:AS->Prop,(∀y,ok y->m y<m x-> ∀s',(st y).Le s'->R s')->CW P Q a (.lp R::K) (st x)):xk P Q a K N s:=by
 refine JH m st ok a0 hN h0 hle fun x hx=> ?_
 refine qc (fun e s' hs=> ?_) (hr x hx (fun s'=> ∃y,ok y/\m y<m x/\(st y).Le s') fun y h1 h2 s' h3=>⟨y,h1,h2,h3⟩)
 cases e<;>exact hs
def dA (t:List (Nat×AV)) (n:Nat):List (Nat×AV)->Prop
 |[]=>True
 |(k,v)::r=>aS t k=v/\v.bd n=true/\dA t n r
def dz (h:List (Nat×aH)) (n:Nat):List (Nat×aH)->Prop
 |[]=>True
 |(k,v)::r=>aB h k=some v/\k<n/\(∀c∈v.cells,c.bd n=true)/\dz h n r
theorem AS.Le.ofZ (z:List (Nat×PV)) (ns:List Nat) (hns: ∀m∈ns,1000<=m/\aB h m=none) (hz: ∀q∈z,view (aB h') 9 (aS t' q.1)=some q.2/\ ∀m∈bC (aB h') 9 (aS t' q.1),m∈ns) (hn:n<=n') (ht:dA t' n t) (hh:dz h' n h):(AS.mk (z.map (fun q=>(q.1,AV.v q.2))++t) h n).Le ⟨t',h',n'⟩:=by
 have h1: ∀(t:List (Nat×AV)),dA t' n t-> ∀p∈t,aS t' p.1=p.2/\p.2.bd n=true:=by
  intro t
  induction t with
  |nil=>intro _ p hp;cases hp
  |cons q t ih=>
   obtain⟨k,v⟩:=q;intro hq p hp;rcases cd.1 hp with rfl|hp
   ·exact⟨hq.1,hq.2.1⟩
   ·exact ih hq.2.2 p hp
 have h2: ∀(h:List (Nat×aH)),dz h' n h-> ∀p∈h,aB h' p.1=some p.2/\p.1<n/\ ∀c∈p.2.cells,c.bd n=true:=by
  intro h
  induction h with
  |nil=>intro _ p hp;cases hp
  |cons q h ih=>
   obtain⟨k,v⟩:=q;intro hq p hp;rcases cd.1 hp with rfl|hp
   ·exact⟨hq.1,hq.2.1,hq.2.2.1⟩
   ·exact ih hq.2.2.2 p hp
 refine⟨⟨ns,hns,fun p hp=> ?_⟩,fun p hp=>(h2 h hh p hp).1,hn,fun p hp=> ?_,fun p hp=>(h2 h hh p hp).2⟩<;>rcases iw.1 hp with hp|hp
 ·obtain⟨q,hq,rfl⟩:=cv.1 hp;exact .inr ⟨q.2,rfl,(hz q hq).1,(hz q hq).2⟩
 ·exact .inl (h1 t ht p hp).1
 ·obtain⟨q,hq,rfl⟩:=cv.1 hp;rfl
 ·exact(h1 t ht p hp).2
theorem AS.Le.of (hn:n<=n') (ht:dA t' n t) (hh:dz h' n h):(AS.mk t h n).Le ⟨t',h',n'⟩:=AS.Le.ofZ [] [] (fun _ h=>by cases h) (fun _ h=>by cases h) hn ht hh
end
theorem allM_nil {α:Type} (p:α->Prop):(∀x,x∈([]:List α)->p x)=True:=by simp
theorem allM_cons {α:Type} (a:α) (l:List α) (p:α->Prop):(∀x,x∈a::l->p x)=(p a/\ ∀x,x∈l->p x):=by simp
theorem Ty (k:IntKind) (n:Int):PV.byte (.i k n)=UInt8.ofNat n.toNat:=rfl
theorem xW (n:Int):PV.isByte (.i .u8 n)=True:=rfl
theorem OX (x:PV):AV.byte (.v x)=x.byte:=rfl
theorem IU (x:PV):AV.isByte (.v x)=x.isByte:=rfl
theorem Gb (c:UInt8):UInt8.ofNat c.toNat=c:=by simp
def aJ (l:Bytes):List AV:=l.map fun c=> .v (u8 c)
theorem RA (l:Bytes):List.map (fun c:UInt8=>AV.v (PV.i IntKind.u8 (c.toNat:Int))) l=aJ l:=rfl
theorem lY (l:Bytes):(aJ l).length=l.length:=by simp[aJ]
theorem iV (l:Bytes):List.take l.length (aJ l)=aJ l:=c9 (by simp[aJ])
theorem jK (l m:Bytes):aJ l++aJ m=aJ (l++m):=by simp[aJ]
theorem FE (l:Bytes):(∀y,y∈aJ l->y.one=true)=True:=by
 simp only[eq_iff_iff,iff_true];intro y hy;obtain⟨c,-,rfl⟩:=cv.1 hy;rfl
theorem au (l:Bytes) (n:Nat):(∀y,y∈aJ l->y.bd n=true)=True:=by
 simp only[eq_iff_iff,iff_true];intro y hy;obtain⟨c,-,rfl⟩:=cv.1 hy;rfl
theorem kI (l:Bytes):(aJ l).map AV.byte=l:=by
 induction l with
 |nil=>rfl
 |cons c l ih=>simp_all[aJ,AV.byte,PV.byte,u8]
theorem I0 (l:Bytes):(∀y,y∈aJ l->y= .v (u8 y.byte))=True:=by
 simp only[eq_iff_iff,iff_true];intro y hy;obtain⟨c,-,rfl⟩:=cv.1 hy;simp[AV.byte,PV.byte,u8]
theorem aK (f:Nat->Option Nat) (l:Bytes):AV.aU.renL f (aJ l)=some (aJ l):=by
 induction l with
 |nil=>rfl
 |cons c l ih=>
  have:AV.aU.renL f (AV.v (u8 c)::aJ l)=some (AV.v (u8 c)::aJ l):=by simp[AV.aU.renL,AV.aU,ih]
  exact this
theorem aO (k:Nat) (j:Option Nat) (s:AS) (l:Bytes):aW (ft k j s) (aJ l)=some (aJ l):=by
 induction l with
 |nil=>rfl
 |cons c l ih=>
  have:aW (ft k j s) (AV.v (u8 c)::aJ l)=some (AV.v (u8 c)::aJ l):=by simp[aW,ft,eN,view,ih]
  exact this
theorem WN:((0:Nat):Int)=0:=rfl
theorem WO:((1:Nat):Int)=1:=rfl
theorem Ct {α β:Type} (l:List α) (f:α->β):List.take l.length (l.map f)=l.map f:=by rw[<-aL (f:=f),cg]
def cellsOf (l:List PV):List AV:=(l.flatMap PV.cells).map .v
theorem aq (l:List PV) (n:Nat):(∀c,c∈cellsOf l->c.bd n=true)=True:=by
 simp only[eq_iff_iff,iff_true];intro c hc;simp only[cellsOf,cv]at hc;obtain⟨y,-,rfl⟩:=hc;rfl
theorem ie (hf:Nat->Option aH) (f:Nat) (l:List PV):aW (view hf (f+1)) (l.map .v)=some l:=by
 induction l with
 |nil=>rfl
 |cons x l ih=>simp[aW,view,ih]
theorem Qy (l:List PV):PV.cells (.agg l)=l:=rfl
theorem Xw (x:Bool):PV.cells (.b x)=[.b x]:=rfl
theorem S5 (x:Bool):AV.cells (.v (.b x))=[.v (.b x)]:=rfl
theorem Xz (x:Bool):PV.one (.b x)=true:=rfl
theorem Tf (x:Bool):AV.nC (.v (.b x))=true:=rfl
theorem Xx (k:IntKind) (n:Int):PV.cells (.i k n)=[.i k n]:=rfl
theorem S6 (k:IntKind) (n:Int):AV.cells (.v (.i k n))=[.v (.i k n)]:=rfl
theorem XA (k:IntKind) (n:Int):PV.one (.i k n)=true:=rfl
theorem Tg (k:IntKind) (n:Int):AV.nC (.v (.i k n))=true:=rfl
theorem Xy (x:Bytes):PV.cells (.s x)=[.s x]:=rfl
theorem S7 (x:Bytes):AV.cells (.v (.s x))=[.v (.s x)]:=rfl
theorem XB (x:Bytes):PV.one (.s x)=true:=rfl
theorem Th (x:Bytes):AV.nC (.v (.s x))=true:=rfl
theorem QC (l:List PV):PV.cells (.tup l)=[.tup l]:=rfl
theorem KZ (l:List PV):AV.cells (.v (.tup l))=[.v (.tup l)]:=rfl
theorem QH (l:List PV):PV.one (.tup l)=false:=rfl
theorem Lf (l:List PV):AV.nC (.v (.tup l))=false:=rfl
theorem Vc (l:List PV):PV.cells (.sl l)=[.sl l]:=rfl
theorem O7 (l:List PV):AV.cells (.v (.sl l))=[.v (.sl l)]:=rfl
theorem Vh (l:List PV):PV.one (.sl l)=true:=rfl
theorem Pf (l:List PV):AV.nC (.v (.sl l))=true:=rfl
theorem U9 (f:Fn):PV.cells (.fn f)=[.fn f]:=rfl
theorem O4 (f:Fn):AV.cells (.v (.fn f))=[.v (.fn f)]:=rfl
theorem Ve (f:Fn):PV.one (.fn f)=true:=rfl
theorem Pc (f:Fn):AV.nC (.v (.fn f))=true:=rfl
theorem Qz:PV.cells (.fn0)=[.fn0]:=rfl
theorem KT:AV.cells (.v (.fn0))=[.v (.fn0)]:=rfl
theorem QE:PV.one (.fn0)=true:=rfl
theorem Lb:AV.nC (.v (.fn0))=true:=rfl
theorem Va:PV.cells (.p0)=[.p0]:=rfl
theorem O5:AV.cells (.v (.p0))=[.v (.p0)]:=rfl
theorem Vf:PV.one (.p0)=true:=rfl
theorem Pd:AV.nC (.v (.p0))=true:=rfl
theorem QA:PV.cells (.if0)=[.if0]:=rfl
theorem KU:AV.cells (.v (.if0))=[.v (.if0)]:=rfl
theorem QF:PV.one (.if0)=true:=rfl
theorem Lc:AV.nC (.v (.if0))=true:=rfl
theorem QB (t:TypeId) (v:PV):PV.cells (.ifc t v)=[.ifc t v]:=rfl
theorem KV (t:TypeId) (v:PV):AV.cells (.v (.ifc t v))=[.v (.ifc t v)]:=rfl
theorem QG (t:TypeId) (v:PV):PV.one (.ifc t v)=true:=rfl
theorem Ld (t:TypeId) (v:PV):AV.nC (.v (.ifc t v))=true:=rfl
theorem QD (l:List PV):PV.one (.agg l)=false:=rfl
theorem KS (l:List PV):AV.cells (.v (.agg l))=l.map .v:=rfl
theorem La (l:List PV):AV.nC (.v (.agg l))=true:=rfl
theorem WA (n v o:Nat):AV.cells (.p n v o)=[.p n v o]:=rfl
theorem WE (n v o:Nat):AV.nC (.p n v o)=true:=rfl
theorem WH (n v o:Nat):AV.one (.p n v o)=true:=rfl
theorem S1 (x:PV) (o:Nat):AV.cells (.pp x o)=[.pp x o]:=rfl
theorem Tb (x:PV) (o:Nat):AV.nC (.pp x o)=true:=rfl
theorem Tl (x:PV) (o:Nat):AV.one (.pp x o)=true:=rfl
theorem S2 (n v o l z:Nat):AV.cells (.rs n v o l z)=[.rs n v o l z]:=rfl
theorem Tc (n v o l z:Nat):AV.nC (.rs n v o l z)=true:=rfl
theorem Tm (n v o l z:Nat):AV.one (.rs n v o l z)=true:=rfl
theorem SY (l:List PV):AV.cells (.fs l)=[.fs l]:=rfl
theorem S9 (l:List PV):AV.nC (.fs l)=true:=rfl
theorem Tj (l:List PV):AV.one (.fs l)=true:=rfl
theorem S3:AV.cells (.sn)=[.sn]:=rfl
theorem Td:AV.nC (.sn)=true:=rfl
theorem Tn:AV.one (.sn)=true:=rfl
theorem SW (f:Fn) (a c:List AV):AV.cells (.fn f a c)=[.fn f a c]:=rfl
theorem S8 (f:Fn) (a c:List AV):AV.nC (.fn f a c)=true:=rfl
theorem Ti (f:Fn) (a c:List AV):AV.one (.fn f a c)=true:=rfl
theorem Vb (x:PV) (o:Nat):PV.cells (.pt x o)=[.pt x o]:=rfl
theorem O6 (x:PV) (o:Nat):AV.cells (.v (.pt x o))=[.v (.pt x o)]:=rfl
theorem Vg (x:PV) (o:Nat):PV.one (.pt x o)=true:=rfl
theorem Pe (x:PV) (o:Nat):AV.nC (.v (.pt x o))=true:=rfl
theorem U8 (f:FuncId) (a c:List PV):PV.cells (.fc f a c)=[.fc f a c]:=rfl
theorem O3 (f:FuncId) (a c:List PV):AV.cells (.v (.fc f a c))=[.v (.fc f a c)]:=rfl
theorem Vd (f:FuncId) (a c:List PV):PV.one (.fc f a c)=true:=rfl
theorem Pb (f:FuncId) (a c:List PV):AV.nC (.v (.fc f a c))=true:=rfl
theorem S4:AV.cells (.ub)=[.ub]:=rfl
theorem Te:AV.nC (.ub)=true:=rfl
theorem To:AV.one (.ub)=true:=rfl
theorem SZ (n:Nat):AV.cells (.mp n)=[.mp n]:=rfl
theorem Ta (n:Nat):AV.nC (.mp n)=true:=rfl
theorem Tk (n:Nat):AV.one (.mp n)=true:=rfl
theorem WC:AV.cells (.u)=[.u]:=rfl
theorem WG:AV.nC (.u)=false:=rfl
theorem WI:AV.one (.u)=false:=rfl
theorem O2 (l:List AV):AV.cells (.tup l)=[.tup l]:=rfl
theorem Pa (l:List AV):AV.nC (.tup l)=false:=rfl
theorem Ph (l:List AV):AV.one (.tup l)=false:=rfl
theorem O1 (l:List AV):AV.cells (.agg l)=l:=rfl
theorem O9 (l:List AV):AV.nC (.agg l)=l.all AV.one:=rfl
theorem Pg (l:List AV):AV.one (.agg l)=false:=rfl
theorem WJ (x:PV):AV.one (.v x)=x.one:=rfl
theorem O8 (l:List AV):AV.isAgg (.agg l)=True:=rfl
theorem WD (l:List PV):AV.isAgg (.v (.agg l))=True:=rfl
attribute [irreducible] KW CW RW OW CR GR BX PX CV xk Oi
def TJ:Nat->List PV->List (Nat×AV)
 | _,[]=>[]
 |i,x::l=>(i, .v x)::TJ (i+1) l
def Jm:Nat->List AV->List (Nat×AV)
 | _,[]=>[]
 |i,x::l=>(i,x)::Jm (i+1) l
def Jn:Nat->List aH->List (Nat×aH)
 | _,[]=>[]
 |i,x::l=>(i,x)::Jn (i+1) l
theorem TK (l:List PV):l.mapIdx (fun i x=>(i,AV.v x))=TJ 0 l:=by
 have: ∀(l:List PV) (k:Nat),l.mapIdx (fun i x=>(i+k,AV.v x))=TJ k l:=by
  intro l
  induction l with
  |nil=>intro k;rfl
  |cons x l ih=>
   intro k;rw[np,TJ,<-ih (k+1)];have e:(fun i (x:PV)=>(i+1+k,AV.v x))=fun i x=>(i+(k+1),AV.v x):=by funext i x;congr 1;omega
   rw[e];simp
 exact this l 0
theorem PD (l:List AV):l.mapIdx (fun i x=>(i,x))=Jm 0 l:=by
 have: ∀(l:List AV) (k:Nat),l.mapIdx (fun i x=>(i+k,x))=Jm k l:=by
  intro l
  induction l with
  |nil=>intro k;rfl
  |cons x l ih=>
   intro k;rw[np,Jm,<-ih (k+1)];have e:(fun i (x:AV)=>(i+1+k,x))=fun i x=>(i+(k+1),x):=by funext i x;congr 1;omega
   rw[e];simp
 exact this l 0
theorem PE (l:List aH):l.mapIdx (fun i x=>(i,x))=Jn 0 l:=by
 have: ∀(l:List aH) (k:Nat),l.mapIdx (fun i x=>(i+k,x))=Jn k l:=by
  intro l
  induction l with
  |nil=>intro k;rfl
  |cons x l ih=>
   intro k;rw[np,Jn,<-ih (k+1)];have e:(fun i (x:aH)=>(i+1+k,x))=fun i x=>(i+(k+1),x):=by funext i x;congr 1;omega
   rw[e];simp
 exact this l 0
theorem p9.w {P:Program} [cE P] (hm:P.follows .mixedOrders=true) {f:FuncId} {fn:Func} {sc:SC} {rs:List pB} (hent:Enters P f f) (hfn:P.funcs[f]?=some fn) (hb:fn.body.isSome=true) (hc:comp P fn.ntmps (fn.body.getD .skip)=some sc) (hr:gD P fn.results.toList=some rs)
  {args:List PV} {r:PV} (hlen:Nat.ble args.length fn.ntmps=true) (h:CW P (IS rs r) sc [] ⟨TJ 0 args,[],1000⟩):p9 P f args r:=
 p9.mk' hm hent hfn hb hc hr (dF hlen) (by rw[TK];exact CW.start h)
theorem jD.w {P:Program} [cE P] (hm:P.follows .mixedOrders=true) {f:FuncId} {fn:Func} {sc:SC} {rs:List pB} (hent:Enters P f f) (hfn:P.funcs[f]?=some fn) (hb:fn.body.isSome=true) (hc:comp P fn.ntmps (fn.body.getD .skip)=some sc) (hr:gD P fn.results.toList=some rs)
  {obs:List aH} {args:List AV} {fs:List (Option (Option aH))} {j:Option Nat} {nw:Option aH} {v:AV} (hlen:Nat.ble args.length fn.ntmps=true) (h:CW P (iB rs obs fs j nw v) sc [] ⟨Jm 0 args,Jn 0 obs,1000⟩)
  {ns:List Nat} {nm:Nat} {obsA:List aH} {avs:List AV} {v':AV} {up:List (Nat×Option aH)} (hns:ns.length<=1000) (hnd:ns.Nodup) (hln:ns.length=obsA.length) (hob:aW (aH.aU (dp ns)) obsA=some obs) (hav:aW (AV.aU (dp ns)) avs=some args)
  (hv:v.aU (gv ns nm)=some v') (hup:fC ns nm fs nw=some up):jD P f nm (ns.zip obsA) avs v' up:=
 jD.mk' hm hent hfn hb hc hr (dF hlen) (by rw[PD,PE];exact h) hns hnd hln hob hav hv hup
attribute [go_sem] Bool.not_true Bool.not_false eq_self implies_true imp_false not_false_eq_true Oy St Sq Ov Ox Ow Ss Sr SA OJ OI OK OG OF OH Sy Sx Sz OE Wq AV.off AV.off.offL SE SD SF pT SK Wu XW Wt OM OL Y3 Wi Wd Wh Wc Ky YZ Wn Wj We Rq Rp Sm YW YX Wg Y8 Y7 I8 I9 NV NW eV dh dG SX.ev aS Fa GQ aB Mc Ea kL AS.rP AS.set PT Q5 OO YQ Wz OQ OT OS OP OU lenOf bounds pU sE AV.Xv AV.zx AV.Ol pk iX aW Qy Xw S5 Xz Tf Xx S6 XA Tg Xy S7 XB Th QC KZ QH Lf Vc O7 Vh Pf U9 O4 Ve Pc Qz KT QE Lb Va O5 Vf Pd QA KU QF Lc QB KV QG Ld QD KS La WA WE WH S1 Tb Tl S2 Tc Tm SY S9 Tj S3 Td Tn SW S8 Ti WC WG WI SZ Ta Tk O2 Pa Ph O1 O9 Pg WJ O8 WD u8 allM_nil allM_cons Ty xW OX IU Gb ne_eq Int.cast_ofNat_Int WN WO List.flatten_cons List.flatten_nil List.flatMap_cons List.flatMap_nil IntKind.bits Nat.min_def List.take_length Ct List.length_map IntWalk.i64_in IntWalk.u8_in IntWalk.u64_in decide_true decide_false Int.toNat_natCast Int.toNat_zero Int.toNat_one ite_true ite_false List.length_cons List.length_nil List.map_cons List.map_nil List.all_cons List.all_nil Bool.and_true Bool.true_and Bool.and_self Option.map_some Option.map_none List.take_succ_cons List.take_zero List.drop_succ_cons List.drop_zero List.take_nil List.drop_nil List.getD_cons_zero List.getD_cons_succ List.nil_append List.cons_append List.append_nil Nat.zero_add Nat.add_zero Nat.le_refl true_and and_true and_self true_implies forall_const Nat.mul_one Nat.one_mul RA lY iV jK FE List.isEmpty_cons List.isEmpty_nil Bool.or_true Bool.true_or Bool.false_or Bool.or_false Bool.and_false Bool.false_and IS Kd GD view yj KJ KI OV KK TJ Jm Jn AV.nz PV.nz Vb O6 Vg Pe U8 O3 Vd Pb S4 Te To Wl Wm
