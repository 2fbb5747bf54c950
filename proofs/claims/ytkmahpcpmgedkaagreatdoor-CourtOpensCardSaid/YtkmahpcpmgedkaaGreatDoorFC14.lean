/- Part of the proof. -/
import Derived.IntWalk
import Derived.Attr
import Derived.Test.YtkmahpcpmgedkaaGreatDoorFC13
set_option linter.all false
namespace Go.Dom
open Go.RowKit
inductive Fr where
 |seq (b:SC)
 |blk (id:Nat)
 |lp (R:AS->Prop)
 |asg (b:SC)
 |rg (t0:List (Nat×AV)) (R:AS->Prop)
 |bk (ns:List Nat) (t0:List (Nat×AV)) (obs:List (Nat×Option aF))
def KW (P:Program) [cG P] (Q:AX->AS->Prop):List Fr->AX->AS->Prop
 |[],e,s=>Q e s
 | .seq b::K, .normal,s=>aw P b (KW P Q K) s
 | .seq _::K, .exit j,s=>KW P Q K (.exit j) s
 | .seq _::K, .ret,s=>KW P Q K .ret s
 | .blk _::K, .normal,s=>KW P Q K .normal s
 | .blk id::K, .exit j,s=>if j=id then KW P Q K .normal s else KW P Q K (.exit j) s
 | .blk _::K, .ret,s=>KW P Q K .ret s
 | .lp R:: _, .normal,s=>R s
 | .lp _::K, .exit j,s=>KW P Q K (.exit j) s
 | .lp _::K, .ret,s=>KW P Q K .ret s
 | .asg b::K, .normal,s=>aw P b (KW P Q K) s
 | .asg _:: _, .exit _,_=>False
 | .asg _:: _, .ret,_=>False
 | .bk ns t0 obs::K,e,s=>(∀p∈s.h,∀c∈p.2.cells,c.off ns=true)/\KW P Q K e ⟨t0,lT s.h obs,s.nx⟩
 | .rg t0 R:: _, .normal,s=>R {s with t:=t0}
 | .rg t0 _::K, .exit j,s=>KW P Q K (.exit j) {s with t:=t0}
 | .rg t0 _::K, .ret,s=>KW P Q K .ret {s with t:=t0}
section
variable (P:Program) [cG P] (Q:AX->AS->Prop)
def CW (sc:SC) (K:List Fr) (s:AS):Prop:=aw P sc (KW P Q K) s
def Qz (bf:Option (List Nat)) (tr:List (Nat×List Nat×List Nat)):Prop:=
 match bf with
 |none=>True
 |some b=>Po b tr=true
def At (bf:Option (List Nat)) (k:Nat) (rs:List Nat) (up:List (Nat×Option aF)) (tr:List (Nat×List Nat×List Nat)):List (Nat×List Nat×List Nat):=
 match bf with
 |none=>[]
 |some _=>(k,rs,up.map (·.1))::tr
def RW (nx:Nat) (bf:Option (List Nat)) (n:Nat) (ops:List kB) (k:Nat) (s:AS) (tr:List (Nat×List Nat×List Nat)) (K:List Fr):Prop:=
 match bf with
 |none=>ry P nx ops k s fun s'=>KW P Q K .normal {s' with nx:=n}
 |some b=>AE P nx ops k s tr fun s' tr=>Po b tr=true/\KW P Q K .normal {s' with nx:=n}
def OW (nx:Nat) (bf:Option (List Nat)) (n:Nat) (x:Option AO) (d:Option Nat) (ops:List kB) (k:Nat) (s:AS) (tr:List (Nat×List Nat×List Nat)) (K:List Fr):Prop:=
 Kq x fun ao=>RW P Q nx bf n ops (k+1) (s.tU d ao.v ao.up) (At bf k ao.rs ao.up tr) K
def CR (nx:Nat) (bf:Option (List Nat)) (n:Nat) (nm:Nat) (fv:AV) (avs:List AV) (d:Option Nat) (ops:List kB) (k:Nat) (s:AS) (tr:List (Nat×List Nat×List Nat)) (K:List Fr):Prop:=
 HK P nm s.h fv avs fun ao=>RW P Q nx bf n ops (k+1) (s.tU d ao.v ao.up) (At bf k ao.rs ao.up tr) K
def GR (nx:Nat) (bf:Option (List Nat)) (n:Nat) (v:AV) (t:Nat) (want:Bool) (d:Option Nat) (o:SO) (ops:List kB) (k:Nat) (s:AS) (tr:List (Nat×List Nat×List Nat)) (K:List Fr):Prop:=
 QY v t want s (fun s=>RW P Q nx bf n (⟨d,o,none⟩::ops) k s tr K) (fun s=>RW P Q nx bf n ops (k+1) (s.tU d (.v (.tup [])) []) (At bf k [] [] tr) K)
def CV (v:AV) (a b:SC) (K:List Fr) (s:AS):Prop:=H6 v (CW P Q a K s) (CW P Q b K s)
inductive BK where
 |cw (a b:SC) (K:List Fr) (s:AS)
 |gd (nx:Nat) (bf:Option (List Nat)) (n:Nat) (t:Nat) (want:Bool) (d:Option Nat) (o:SO) (ops:List kB) (k:Nat) (s:AS) (tr:List (Nat×List Nat×List Nat)) (K:List Fr)
 |ng (κ:BK)
def BX (c:Bool):BK->Prop
 | .cw a b K s=>yq c (CW P Q a K s) (CW P Q b K s)
 | .gd nx bf n t want d o ops k s tr K=>GR P Q nx bf n (.v (.b c)) t want d o ops k s tr K
 | .ng κ=>BX (!c) κ
def PX (p:Prop) (κ:BK):Prop:=(p->BX P Q true κ)/\(¬p->BX P Q false κ)
def Pn (ps:List Nat) (a b:SC) (K:List Fr) (t0:List (Nat×AV)) (N:Nat) (fin:Bool) (xs:List (List PV)) (s:AS):Prop:=
 WY (fun y Qx s1=>aw P a (fun e s2=>match e with
  | .normal=>aw P b Qx s2
  | _=>False) {s1 with t:=qv s1.t ps y}) (KW P Q K) t0 N fin xs s
def ym (a:SC) (K:List Fr) (N:Nat) (s:AS):Prop:=wa (aw P a) (KW P Q K) N s
variable {P Q}
variable {κ:BK}
theorem CW.start {sc:SC} {s:AS} (h:CW P Q sc [] s):aw P sc Q s:=by
 have:KW P Q []=Q:=by funext e s;rfl
 unfold CW at h;rw[this]at h;exact h
theorem ml.mk' {f:FuncId} {fn:Func} {sc:SC} {rs:List qd} (hm:P.follows .mixedOrders=true) (hent:Enters P f f) (hfn:P.funcs[f]?=some fn) (hb:fn.body.isSome=true) (hc:comp P fn.ntmps (fn.body.getD .skip)=some sc) (hr:gM P fn.results.toList=some rs)
  {obs:List aF} {args:List AV} {fs:List (Option (Option aF))} {j:Option Nat} {nw:Option aF} {v:AV} (hlen:args.length<=fn.ntmps) (h:CW P (kD rs obs fs j nw v) sc [] ⟨args.mapIdx (fun i x=>(i,x)),obs.mapIdx (fun i x=>(i,x)),1000⟩)
  {ns:List Nat} {nm:Nat} {obsA:List aF} {avs:List AV} {v':AV} {up:List (Nat×Option aF)} (hns:ns.length<=1000) (hnd:ns.Nodup) (hln:ns.length=obsA.length) (hob:bz (aF.aZ (dM ns)) obsA=some obs) (hav:bz (AV.aZ (dM ns)) avs=some args)
  (hv:v.aZ (kF ns nm)=some v') (hup:gY ns nm fs nw=some up):ml P f nm (ns.zip obsA) avs v' up:=by
 obtain⟨code,hcode⟩:=uq.1 hb;rw[hcode]at hc;exact ml.NH hm hent hfn hcode hc hr hlen (CW.start h) hns hnd hln hob hav hv hup
theorem PA (K:List Fr) (s:AS):CW P Q .skip K s=KW P Q K .normal s:=rfl
theorem TF (a b:SC) (K:List Fr) (s:AS):CW P Q (.seq a b) K s=CW P Q a (.seq b::K) s:=by
 simp only[CW,aw];congr 1
 funext e s'
 cases e<;>rfl
theorem TC (id:Nat) (a:SC) (K:List Fr) (s:AS):CW P Q (.blk id a) K s=CW P Q a (.blk id::K) s:=by
 simp only[CW,aw];congr 1
 funext e s'
 cases e<;>rfl
theorem Px (x:SX) (a b:SC) (K:List Fr) (s:AS):CW P Q (.cond x a b) K s=CV P Q (x.ev (aP s.t)) a b K s:=rfl
theorem Zn (c:Bool) (a b:SC) (K:List Fr) (s:AS):CV P Q (.v (.b c)) a b K s=BX P Q c (.cw a b K s):=rfl
theorem WL (a b:SC) (K:List Fr) (s:AS):BX P Q true (.cw a b K s)=CW P Q a K s:=by simp only[BX,rR]
theorem WH (a b:SC) (K:List Fr) (s:AS):BX P Q false (.cw a b K s)=CW P Q b K s:=by simp only[BX,qg]
theorem SE (κ:BK):BX P Q true (.ng κ)=BX P Q false κ:=by simp only[BX,bV]
theorem SD (κ:BK):BX P Q false (.ng κ)=BX P Q true κ:=by simp only[BX,cv]
theorem Ty (c:Bool) (κ:BK):BX P Q (!c) κ=BX P Q c (.ng κ):=by simp only[BX]
theorem Pu {c:Bool} (h:c=true):BX P Q c κ=BX P Q true κ:=by rw[h]
theorem Pt {c:Bool} (h:c=false):BX P Q c κ=BX P Q false κ:=by rw[h]
theorem Lz {p:Prop} (h:p):PX P Q p κ=BX P Q true κ:=by simp only[PX,h,true_implies,D5,false_implies,and_true]
theorem Ly {p:Prop} (h: ¬p):PX P Q p κ=BX P Q false κ:=by simp only[PX,h,false_implies,yc,true_implies,rp]
theorem Zw (κ:BK):PX P Q True κ=BX P Q true κ:=Lz trivial
theorem Zv (κ:BK):PX P Q False κ=BX P Q false κ:=Ly id
theorem Zk (p:Prop) [Decidable p] (κ:BK):BX P Q (decide p) κ=PX P Q p κ:=by
 by_cases h:p
 ·rw[Pu (aJ h),Lz h]
 ·rw[Pt (aG h),Ly h]
theorem Zl (x y:Int) (κ:BK):BX P Q (x==y) κ=PX P Q (x=y) κ:=by
 by_cases h:x=y
 ·rw[Pu (by simpa using h),Lz h]
 ·rw[Pt (by simpa using h),Ly h]
theorem WI (x y:Int) (κ:BK):BX P Q (x !=y) κ=PX P Q (x=y) (.ng κ):=by
 by_cases h:x=y
 ·rw[Pt (by simpa using h),Lz h,SE]
 ·rw[Pu (by simpa using h),Ly h,SD]
theorem BX.mk {c:Bool} (h1:c=true->BX P Q true κ) (h2:c=false->BX P Q false κ):BX P Q c κ:=by
 cases c
 ·exact h2 rfl
 ·exact h1 rfl
theorem PX.mk {p:Prop} (h1:p->BX P Q true κ) (h2: ¬p->BX P Q false κ):PX P Q p κ:=⟨h1,h2⟩
theorem WQ (a b:SC) (K:List Fr) (s:AS):CV P Q .ub a b K s=(CW P Q a K s/\CW P Q b K s):=rfl
theorem Pz (a:SC) (K:List Fr) (s:AS):CW P Q (.loop a) K s=ym P Q a K s.nx s:=rfl
theorem Py (id:Nat) (K:List Fr) (s:AS):CW P Q (.exit id) K s=KW P Q K (.exit id) s:=rfl
theorem TE (K:List Fr) (s:AS):CW P Q .ret K s=KW P Q K .ret s:=rfl
theorem TD (bf:Option (List Nat)) (ops:List kB) (K:List Fr) (s:AS):CW P Q (.reg bf ops) K s=RW P Q s.nx bf (s.nx+ops.length) ops 0 s [] K:=by
 cases bf<;>rfl
theorem TL (e:AX) (s:AS):KW P Q [] e s=Q e s:=rfl
theorem PK (b:SC) (K:List Fr) (s:AS):KW P Q (.seq b::K) .normal s=CW P Q b K s:=rfl
theorem PJ (b:SC) (K:List Fr) (j:Nat) (s:AS):KW P Q (.seq b::K) (.exit j) s=KW P Q K (.exit j) s:=rfl
theorem PL (b:SC) (K:List Fr) (s:AS):KW P Q (.seq b::K) .ret s=KW P Q K .ret s:=rfl
theorem PH (i:Nat) (K:List Fr) (s:AS):KW P Q (.blk i::K) .normal s=KW P Q K .normal s:=rfl
theorem PG (i:Nat) (K:List Fr) (j:Nat) (s:AS):KW P Q (.blk i::K) (.exit j) s=if j=i then KW P Q K .normal s else KW P Q K (.exit j) s:=rfl
theorem PI (i:Nat) (K:List Fr) (s:AS):KW P Q (.blk i::K) .ret s=KW P Q K .ret s:=rfl
theorem Lt {x:SX} {ps:List Nat} {a b:SC} {K:List Fr} {s:AS} {g:FuncId} {caps:List PV} {fin:Bool} {xs:List (List PV)} (hi:Y8 P g caps fin xs) (hx:x.ev (aP s.t)= .v (.fc g [] caps)) (hl: ∀y∈xs,y.length=ps.length) (h:Pn P Q ps a b K s.t s.nx fin xs s):CW P Q (.rng x ps a b) K s:=by
 have e:rz [] s (KW P Q K)=KW P Q K:=by funext e s';simp[rz]
 refine⟨g,caps,fin,xs,[],by rw[hx];rfl,by rw[hx];simp[aU],by simp,hi,fun y hy=>⟨hl y hy, .inl rfl⟩,?_⟩
 rw[e];exact h
section
variable {ps:List Nat} {a b:SC} {K:List Fr} {t0:List (Nat×AV)} {N:Nat} {s:AS} {fin:Bool}
variable {xs ys:List (List PV)}
theorem V1 (h:KW P Q K .normal s):Pn P Q ps a b K t0 N true [] s:=fun X h1 _ _=>h1 _ rfl h
theorem I3 {s':AS} (hN:N<=s'.nx) (hle:s'.Le s) (h:Pn P Q ps a b K t0 N fin ys s'):Pn P Q ps a b K t0 N fin ys s:=fun X h1 h2 h3=>h3 ys s' s hN hle (h X h1 h2 h3)
theorem R6 {y:List PV} (h:CW P Q a (.asg b:: .rg t0 (Pn P Q ps a b K t0 N fin ys)::K) {s with t:=qv s.t ps y}):Pn P Q ps a b K t0 N fin (y::ys) s:=by
 intro X h1 h2 h3;refine h2 y ys s (qF (fun e s2 hs=> ?_) h)
 cases e with
 |normal=>
  refine qF (fun e s3 hs3=> ?_) hs
  cases e with
  |normal=>exact hs3 X h1 h2 h3
  |exit j=>exact hs3
  |ret=>exact hs3
 |exit j=>exact hs
 |ret=>exact hs
theorem I2 {α:Type} (st:α->AS) (ok:List (List PV)->α->Prop) (a0:α) (hN: ∀x,N<=(st x).nx) (h0:ok xs a0) (hle:(st a0).Le s) (hnil: ∀x,ok [] x->fin=true/\KW P Q K .normal (st x))
  (hcons: ∀y ys x,ok (y::ys) x-> ∀R:AS->Prop,(∀x',ok ys x'-> ∀s',(st x').Le s'->R s')->CW P Q a (.asg b:: .rg t0 R::K) {st x with t:=qv (st x).t ps y}):Pn P Q ps a b K t0 N fin xs s:=by
 refine I3 (hN a0) hle ?_;clear hle
 induction xs generalizing a0 with
 |nil=>
  obtain⟨rfl,h⟩:=hnil a0 h0;exact V1 h
 |cons y ys ih=>exact R6 (hcons y ys a0 h0 _ fun x' hx' s' hs'=>I3 (hN x') hs' (ih x' hx'))
theorem V2 {α:Type} (st:α->AS) (ok:List (List PV)->α->Prop) (a0:α) (hN: ∀x,N<=(st x).nx) (h0:ok xs a0) (hle:(st a0).Le s) (hnil: ∀x,ok [] x->KW P Q K .normal (st x))
  (hcons: ∀y ys x,ok (y::ys) x-> ∀R:AS->Prop,(∀x',ok ys x'-> ∀s',(st x').Le s'->R s')->CW P Q a (.asg b:: .rg t0 R::K) {st x with t:=qv (st x).t ps y}):Pn P Q ps a b K t0 N true xs s:=
 I2 st ok a0 hN h0 hle (fun x h=>⟨rfl,hnil x h⟩) hcons
theorem R7 {α:Type} (st:α->AS) (ok:List (List PV)->α->Prop) (a0:α) (hN: ∀x,N<=(st x).nx) (h0:ok xs a0) (hle:(st a0).Le s) (hnil: ∀x,¬ok [] x)
  (hcons: ∀y ys x,ok (y::ys) x-> ∀R:AS->Prop,(∀x',ok ys x'-> ∀s',(st x').Le s'->R s')->CW P Q a (.asg b:: .rg t0 R::K) {st x with t:=qv (st x).t ps y}):Pn P Q ps a b K t0 N false xs s:=
 I2 st ok a0 hN h0 hle (fun x h=>(hnil x h).elim) hcons
end
theorem PF (b:SC) (K:List Fr) (s:AS):KW P Q (.asg b::K) .normal s=CW P Q b K s:=rfl
theorem WT (ns:List Nat) (t0:List (Nat×AV)) (obs:List (Nat×Option aF)) (K:List Fr) (e:AX) (s:AS):KW P Q (.bk ns t0 obs::K) e s=((∀p∈s.h,∀c∈p.2.cells,c.off ns=true)/\KW P Q K e ⟨t0,lT s.h obs,s.nx⟩):=rfl
theorem TO (t0:List (Nat×AV)) (R:AS->Prop) (K:List Fr) (s:AS):KW P Q (.rg t0 R::K) .normal s=R ⟨t0,s.h,s.nx⟩:=rfl
theorem TN (t0:List (Nat×AV)) (R:AS->Prop) (K:List Fr) (j:Nat) (s:AS):KW P Q (.rg t0 R::K) (.exit j) s=KW P Q K (.exit j) ⟨t0,s.h,s.nx⟩:=rfl
theorem TP (t0:List (Nat×AV)) (R:AS->Prop) (K:List Fr) (s:AS):KW P Q (.rg t0 R::K) .ret s=KW P Q K .ret ⟨t0,s.h,s.nx⟩:=rfl
theorem TJ (R:AS->Prop) (K:List Fr) (s:AS):KW P Q (.lp R::K) .normal s=R s:=rfl
theorem TI (R:AS->Prop) (K:List Fr) (j:Nat) (s:AS):KW P Q (.lp R::K) (.exit j) s=KW P Q K (.exit j) s:=rfl
theorem TK (R:AS->Prop) (K:List Fr) (s:AS):KW P Q (.lp R::K) .ret s=KW P Q K .ret s:=rfl
section
variable (nx:Nat) (bf:Option (List Nat)) (n:Nat) (d:Option Nat) (ops:List kB) (k:Nat) (s:AS) (tr:List (Nat×List Nat×List Nat)) (K:List Fr)
variable {avs:List AV} {f:FuncId} {nm:Nat} {pvs:List PV}
theorem TV:RW P Q nx bf n [] k s tr K=(Qz bf tr/\KW P Q K .normal {s with nx:=n}):=by
 cases bf
 ·simp only[RW,ry,Qz,rp]
 ·rfl
def XW (P:Program) [cG P] (Q:AX->AS->Prop) (nx:Nat) (bf:Option (List Nat)) (n:Nat) (o:SO) (d:Option Nat) (ops:List kB) (k:Nat) (s:AS) (tr:List (Nat×List Nat×List Nat)) (K:List Fr):Prop:=
 match o with
 | .call f args=>CR P Q nx bf n (nx+k) (f.ev (aP s.t)) (args.map (SX.ev (aP s.t))) d ops k s tr K
 |o=>OW P Q nx bf n (eZ (nx+k) o (aP s.t) (ay s.h)) d ops k s tr K
theorem WX (o:SO):RW P Q nx bf n (⟨d,o,none⟩::ops) k s tr K=XW P Q nx bf n o d ops k s tr K:=by
 cases o<;>cases bf<;>rfl
theorem WW (o:SO) (t:Nat) (want:Bool):RW P Q nx bf n (⟨d,o,some (t,want)⟩::ops) k s tr K=GR P Q nx bf n (aP s.t t) t want d o ops k s tr K:=by
 cases bf<;>rfl
theorem PN (v:AV) (p:Prop) (rs:List Nat) (up:List (Nat×Option aF)):OW P Q nx bf n (some ⟨v,p,rs,up⟩) d ops k s tr K=(p/\RW P Q nx bf n ops (k+1) (s.tU d v up) (At bf k rs up tr) K):=rfl
theorem PM:OW P Q nx bf n none d ops k s tr K=False:=rfl
theorem Zr (x:Bool) (t:Nat) (want:Bool) (o:SO):GR P Q nx bf n (.v (.b x)) t want d o ops k s tr K=BX P Q x (.gd nx bf n t want d o ops k s tr K):=rfl
theorem WK (t:Nat) (o:SO):BX P Q true (.gd nx bf n t true d o ops k s tr K)=RW P Q nx bf n (⟨d,o,none⟩::ops) k (s.set t (.v (.b true))) tr K:=by simp only[BX,GR,QY,rR]
theorem WG (t:Nat) (o:SO):BX P Q false (.gd nx bf n t true d o ops k s tr K)=RW P Q nx bf n ops (k+1) ((s.set t (.v (.b false))).tU d (.v (.tup [])) []) (At bf k [] [] tr) K:=by simp only[BX,GR,QY,qg]
theorem WJ (t:Nat) (o:SO):BX P Q true (.gd nx bf n t false d o ops k s tr K)=RW P Q nx bf n ops (k+1) ((s.set t (.v (.b true))).tU d (.v (.tup [])) []) (At bf k [] [] tr) K:=by simp only[BX,GR,QY,rR]
theorem WE (t:Nat) (o:SO):BX P Q false (.gd nx bf n t false d o ops k s tr K)=RW P Q nx bf n (⟨d,o,none⟩::ops) k (s.set t (.v (.b false))) tr K:=by simp only[BX,GR,QY,qg]
theorem Lu (t:Nat) (want:Bool) (o:SO):GR P Q nx bf n (.v (.tup [])) t want d o ops k s tr K=RW P Q nx bf n ops (k+1) (s.tU d (.v (.tup [])) []) (At bf k [] [] tr) K:=by simp only[GR,QY]
theorem JF:Qz none tr=True:=rfl
theorem JG (b:List Nat):Qz (some b) tr=(Po b tr=true):=rfl
theorem O2 (rs:List Nat) (up:List (Nat×Option aF)):At none k rs up tr=[]:=rfl
theorem O3 (b:List Nat) (rs:List Nat) (up:List (Nat×Option aF)):At (some b) k rs up tr=(k,rs,up.map (·.1))::tr:=rfl
theorem jn {nx:Nat} {bf:Option (List Nat)} {n:Nat} {d:Option Nat} {ops:List kB} {k:Nat} {s:AS} {tr:List (Nat×List Nat×List Nat)} {K:List Fr} {r:PV} (he:rv P f pvs r) (ha:oi avs=some pvs) (hK:RW P Q nx bf n ops (k+1) (s.tU d (.v r) []) (At bf k [] [] tr) K):
  CR P Q nx bf n nm (.v (.fn (.func f))) avs d ops k s tr K:=⟨_, .pure f avs pvs r rfl ha he,hK⟩
theorem WO {nx:Nat} {bf:Option (List Nat)} {n:Nat} {d:Option Nat} {ops:List kB} {k:Nat} {s:AS} {tr:List (Nat×List Nat×List Nat)} {K:List Fr} {a c:List AV}:
  CR P Q nx bf n nm (.fn (.func f) a c) avs d ops k s tr K=CR P Q nx bf n nm (.v (.fn (.func f))) (a++(avs++c)) d ops k s tr K:=by
 have h: ∀ao,mf P nm (ay s.h) (.fn (.func f) a c) avs ao↔mf P nm (ay s.h) (.v (.fn (.func f))) (a++(avs++c)) ao:=by
  intro ao;constructor
  ·intro h
   cases h with
   |pure f avs pvs r hfv hargs he=>exact .pure f avs pvs r hfv hargs he
   |view f avs pvs r hfv hargs hr he=>exact .view f avs pvs r hfv hargs hr he
   |kM f avs pvs r hfv hargs hlo he=>exact .kM f avs pvs r hfv hargs hlo he
   |eff f avs hs v up hfv hhs he=>exact .eff f avs hs v up hfv hhs he
   |same f v hfv he=>exact .same f v hfv he
   |ext f avs pvs r hfv hargs he=>exact .ext f avs pvs r hfv hargs he
  ·intro h
   cases h with
   |pure f avs pvs r hfv hargs he=>exact .pure f avs pvs r hfv hargs he
   |view f avs pvs r hfv hargs hr he=>exact .view f avs pvs r hfv hargs hr he
   |kM f avs pvs r hfv hargs hlo he=>exact .kM f avs pvs r hfv hargs hlo he
   |eff f avs hs v up hfv hhs he=>exact .eff f avs hs v up hfv hhs he
   |same f v hfv he=>exact .same f v hfv he
   |ext f avs pvs r hfv hargs he=>exact .ext f avs pvs r hfv hargs he
 unfold CR HK;simp only[h]
theorem WN {nx:Nat} {bf:Option (List Nat)} {n:Nat} {d:Option Nat} {ops:List kB} {k:Nat} {s:AS} {tr:List (Nat×List Nat×List Nat)} {K:List Fr} {a c:List PV}:
  CR P Q nx bf n nm (.v (.fc f a c)) avs d ops k s tr K=CR P Q nx bf n nm (.v (.fn (.func f))) (a.map .v++(avs++c.map .v)) d ops k s tr K:=by
 have h: ∀ao,mf P nm (ay s.h) (.v (.fc f a c)) avs ao↔mf P nm (ay s.h) (.v (.fn (.func f))) (a.map .v++(avs++c.map .v)) ao:=by
  intro ao;constructor
  ·intro h
   cases h with
   |pure f avs pvs r hfv hargs he=>exact .pure f avs pvs r hfv hargs he
   |view f avs pvs r hfv hargs hr he=>exact .view f avs pvs r hfv hargs hr he
   |kM f avs pvs r hfv hargs hlo he=>exact .kM f avs pvs r hfv hargs hlo he
   |eff f avs hs v up hfv hhs he=>exact .eff f avs hs v up hfv hhs he
   |same f v hfv he=>exact .same f v hfv he
   |ext f avs pvs r hfv hargs he=>exact .ext f avs pvs r hfv hargs he
  ·intro h
   cases h with
   |pure f avs pvs r hfv hargs he=>exact .pure f avs pvs r hfv hargs he
   |view f avs pvs r hfv hargs hr he=>exact .view f avs pvs r hfv hargs hr he
   |kM f avs pvs r hfv hargs hlo he=>exact .kM f avs pvs r hfv hargs hlo he
   |eff f avs hs v up hfv hhs he=>exact .eff f avs hs v up hfv hhs he
   |same f v hfv he=>exact .same f v hfv he
   |ext f avs pvs r hfv hargs he=>exact .ext f avs pvs r hfv hargs he
 unfold CR HK;simp only[h]
theorem o5 {nx:Nat} {bf:Option (List Nat)} {n:Nat} {d:Option Nat} {ops:List kB} {k:Nat} {s:AS} {tr:List (Nat×List Nat×List Nat)} {K:List Fr} {r:PV} (he:rv P f pvs r) (ha:bz (view (ay s.h) 9) avs=some pvs) (hr:r.flat=true) (hK:RW P Q nx bf n ops (k+1) (s.tU d (.v r) []) (At bf k (avs.flatMap (aU (ay s.h) 9)) [] tr) K):
  CR P Q nx bf n nm (.v (.fn (.func f))) avs d ops k s tr K:=⟨_, .view f avs pvs r rfl ha hr he,hK⟩
theorem lf {nx:Nat} {bf:Option (List Nat)} {n:Nat} {d:Option Nat} {ops:List kB} {k:Nat} {s:AS} {tr:List (Nat×List Nat×List Nat)} {K:List Fr} {r:PV} (ns:List Nat) (he:rv P f pvs r) (hlo:ns.all (fun n=>decide (1000<=n))=true) (hv:avs.flatMap (aU (ay s.h) 9)=ns) (ha:bz (view (ay s.h) 9) avs=some pvs)
  (hK:RW P Q nx bf n ops (k+1) (s.tU d (.v r) (ns.map fun n=>(n,none))) (At bf k ns (ns.map fun n=>(n,none)) tr) K):
  CR P Q nx bf n nm (.v (.fn (.func f))) avs d ops k s tr K:=by
 subst hv;exact⟨_, .kM f avs pvs r rfl ha (fun n hn=>of_decide_eq_true (bH.1 hlo n hn)) he,hK⟩
theorem cu {nx:Nat} {bf:Option (List Nat)} {n:Nat} {d:Option Nat} {ops:List kB} {k:Nat} {s:AS} {tr:List (Nat×List Nat×List Nat)} {K:List Fr} {hs:List (Nat×aF)} {v:AV} {up:List (Nat×Option aF)} (he:ml P f nm hs avs v up) (hh: ∀p∈hs,ay s.h p.1=some p.2) (hK:RW P Q nx bf n ops (k+1) (s.tU d v up) (At bf k (hs.map (·.1)) up tr) K):
  CR P Q nx bf n nm (.v (.fn (.func f))) avs d ops k s tr K:=⟨_, .eff f avs hs v up rfl hh he,hK⟩
theorem Pv {nx:Nat} {bf:Option (List Nat)} {n:Nat} {d:Option Nat} {ops:List kB} {k:Nat} {s:AS} {tr:List (Nat×List Nat×List Nat)} {K:List Fr} {v:AV} (he:Zo P f) (hK:RW P Q nx bf n ops (k+1) (s.tU d v []) (At bf k [] [] tr) K):
  CR P Q nx bf n nm (.v (.fn (.func f))) [v] d ops k s tr K:=⟨_, .same f v rfl he,hK⟩
end
variable {h h':List (Nat×aF)} {n n':Nat} {t t':List (Nat×AV)}
theorem TB {nx:Nat} {bf:Option (List Nat)} {d:Option Nat} {ops:List kB} {k:Nat} {s:AS} {tr:List (Nat×List Nat×List Nat)} {K:List Fr} {nm:Nat} {f:FuncId} {avs:List AV} {pvs:List PV} {r:PV} (he:Zq P f pvs r) (ha:oi avs=some pvs) (hK:RW P Q nx bf n ops (k+1) (s.tU d (.v r) []) (At bf k [] [] tr) K):
  CR P Q nx bf n nm (.v (.fn (.func f))) avs d ops k s tr K:=⟨_, .ext f avs pvs r rfl ha he,hK⟩
theorem ai {a:SC} {K:List Fr} {N:Nat} {s:AS} (h:CW P Q a (.lp (ym P Q a K N)::K) s):ym P Q a K N s:=by
 refine wA (qF (fun e s' hs=> ?_) h)
 cases e<;>exact hs
theorem af {a:SC} {K:List Fr} {N:Nat} {s:AS} {α:Type} (m:α->Nat) (st:α->AS) (ok:α->Prop) (a0:α) (hN: ∀x,N<=(st x).nx) (h0:ok a0) (hle:(st a0).Le s)
  (hr: ∀x,ok x-> ∀R:AS->Prop,(∀y,ok y->m y<m x-> ∀s',(st y).Le s'->R s')->CW P Q a (.lp R::K) (st x)):ym P Q a K N s:=by
 refine Ke m st ok a0 hN h0 hle fun x hx=> ?_
 refine qF (fun e s' hs=> ?_) (hr x hx (fun s'=> ∃y,ok y/\m y<m x/\(st y).Le s') fun y h1 h2 s' h3=>⟨y,h1,h2,h3⟩)
 cases e<;>exact hs
def dC (t:List (Nat×AV)) (n:Nat):List (Nat×AV)->Prop
 |[]=>True
 |(k,v)::r=>aP t k=v/\v.bd n=true/\dC t n r
def dA (h:List (Nat×aF)) (n:Nat):List (Nat×aF)->Prop
 |[]=>True
 |(k,v)::r=>ay h k=some v/\k<n/\(∀c∈v.cells,c.bd n=true)/\dA h n r
theorem AS.Le.NG (z:List (Nat×PV)) (ns:List Nat) (hns: ∀m∈ns,1000<=m/\ay h m=none) (hz: ∀q∈z,view (ay h') 9 (aP t' q.1)=some q.2/\ ∀m∈aU (ay h') 9 (aP t' q.1),m∈ns) (hn:n<=n') (ht:dC t' n t) (hh:dA h' n h):(AS.mk (z.map (fun q=>(q.1,AV.v q.2))++t) h n).Le ⟨t',h',n'⟩:=by
 have h1: ∀(t:List (Nat×AV)),dC t' n t-> ∀p∈t,aP t' p.1=p.2/\p.2.bd n=true:=by
  intro t
  induction t with
  |nil=>intro _ p hp;cases hp
  |cons q t ih=>
   obtain⟨k,v⟩:=q;intro hq p hp;rcases cb.1 hp with rfl|hp
   ·exact⟨hq.1,hq.2.1⟩
   ·exact ih hq.2.2 p hp
 have h2: ∀(h:List (Nat×aF)),dA h' n h-> ∀p∈h,ay h' p.1=some p.2/\p.1<n/\ ∀c∈p.2.cells,c.bd n=true:=by
  intro h
  induction h with
  |nil=>intro _ p hp;cases hp
  |cons q h ih=>
   obtain⟨k,v⟩:=q;intro hq p hp;rcases cb.1 hp with rfl|hp
   ·exact⟨hq.1,hq.2.1,hq.2.2.1⟩
   ·exact ih hq.2.2.2 p hp
 refine⟨⟨ns,hns,fun p hp=> ?_⟩,fun p hp=>(h2 h hh p hp).1,hn,fun p hp=> ?_,fun p hp=>(h2 h hh p hp).2⟩<;>rcases gT.1 hp with hp|hp
 ·obtain⟨q,hq,rfl⟩:=bm.1 hp;exact .inr ⟨q.2,rfl,(hz q hq).1,(hz q hq).2⟩
 ·exact .inl (h1 t ht p hp).1
 ·obtain⟨q,hq,rfl⟩:=bm.1 hp;rfl
 ·exact(h1 t ht p hp).2
theorem AS.Le.of (hn:n<=n') (ht:dC t' n t) (hh:dA h' n h):(AS.mk t h n).Le ⟨t',h',n'⟩:=AS.Le.NG [] [] (fun _ h=>by cases h) (fun _ h=>by cases h) hn ht hh
end
theorem allM_nil {α:Type} (p:α->Prop):(∀x,x∈([]:List α)->p x)=True:=by simp
theorem allM_cons {α:Type} (a:α) (l:List α) (p:α->Prop):(∀x,x∈a::l->p x)=(p a/\ ∀x,x∈l->p x):=by simp
theorem Ux (k:IntKind) (n:Int):PV.byte (.i k n)=UInt8.ofNat n.toNat:=rfl
theorem y7 (n:Int):PV.isByte (.i .u8 n)=True:=rfl
theorem P1 (x:PV):AV.byte (.v x)=x.byte:=rfl
theorem Jt (x:PV):AV.isByte (.v x)=x.isByte:=rfl
theorem GU (c:UInt8):UInt8.ofNat c.toNat=c:=by simp
def aH (l:Bytes):List AV:=l.map fun c=> .v (u8 c)
theorem SL (l:Bytes):List.map (fun c:UInt8=>AV.v (PV.i IntKind.u8 (c.toNat:Int))) l=aH l:=rfl
theorem mN (l:Bytes):(aH l).length=l.length:=by simp[aH]
theorem jP (l:Bytes):List.take l.length (aH l)=aH l:=cl (by simp[aH])
theorem kI (l m:Bytes):aH l++aH m=aH (l++m):=by simp[aH]
theorem Gr (l:Bytes):(∀y,y∈aH l->y.one=true)=True:=by
 simp only[eq_iff_iff,iff_true];intro y hy;obtain⟨c,-,rfl⟩:=bm.1 hy;rfl
theorem au (l:Bytes) (n:Nat):(∀y,y∈aH l->y.bd n=true)=True:=by
 simp only[eq_iff_iff,iff_true];intro y hy;obtain⟨c,-,rfl⟩:=bm.1 hy;rfl
theorem lK (l:Bytes):(aH l).map AV.byte=l:=by
 induction l with
 |nil=>rfl
 |cons c l ih=>simp_all[aH,AV.byte,PV.byte,u8]
theorem Jy (l:Bytes):(∀y,y∈aH l->y= .v (u8 y.byte))=True:=by
 simp only[eq_iff_iff,iff_true];intro y hy;obtain⟨c,-,rfl⟩:=bm.1 hy;simp[AV.byte,PV.byte,u8]
theorem aO (f:Nat->Option Nat) (l:Bytes):AV.aZ.renL f (aH l)=some (aH l):=by
 induction l with
 |nil=>rfl
 |cons c l ih=>
  have:AV.aZ.renL f (AV.v (u8 c)::aH l)=some (AV.v (u8 c)::aH l):=by simp[AV.aZ.renL,AV.aZ,ih]
  exact this
theorem aV (k:Nat) (j:Option Nat) (s:AS) (l:Bytes):bz (ia k j s) (aH l)=some (aH l):=by
 induction l with
 |nil=>rfl
 |cons c l ih=>
  have:bz (ia k j s) (AV.v (u8 c)::aH l)=some (AV.v (u8 c)::aH l):=by simp[bz,ia,fG,view,ih]
  exact this
theorem Xi:((0:Nat):Int)=0:=rfl
theorem Xj:((1:Nat):Int)=1:=rfl
theorem Dj {α β:Type} (l:List α) (f:α->β):List.take l.length (l.map f)=l.map f:=by rw[<-aC (f:=f),cd]
def cellsOf (l:List PV):List AV:=(l.flatMap PV.cells).map .v
theorem ar (l:List PV) (n:Nat):(∀c,c∈cellsOf l->c.bd n=true)=True:=by
 simp only[eq_iff_iff,iff_true];intro c hc;simp only[cellsOf,bm]at hc;obtain⟨y,-,rfl⟩:=hc;rfl
theorem fm (hf:Nat->Option aF) (f:Nat) (l:List PV):bz (view hf (f+1)) (l.map .v)=some l:=by
 induction l with
 |nil=>rfl
 |cons x l ih=>simp[bz,view,ih]
theorem RG (l:List PV):PV.cells (.agg l)=l:=rfl
theorem XT (x:Bool):PV.cells (.b x)=[.b x]:=rfl
theorem Ua (x:Bool):AV.cells (.v (.b x))=[.v (.b x)]:=rfl
theorem XX (x:Bool):PV.one (.b x)=true:=rfl
theorem Uk (x:Bool):AV.ot (.v (.b x))=true:=rfl
theorem XU (k:IntKind) (n:Int):PV.cells (.i k n)=[.i k n]:=rfl
theorem Ub (k:IntKind) (n:Int):AV.cells (.v (.i k n))=[.v (.i k n)]:=rfl
theorem XY (k:IntKind) (n:Int):PV.one (.i k n)=true:=rfl
theorem Ul (k:IntKind) (n:Int):AV.ot (.v (.i k n))=true:=rfl
theorem XV (x:Bytes):PV.cells (.s x)=[.s x]:=rfl
theorem Uc (x:Bytes):AV.cells (.v (.s x))=[.v (.s x)]:=rfl
theorem XZ (x:Bytes):PV.one (.s x)=true:=rfl
theorem Um (x:Bytes):AV.ot (.v (.s x))=true:=rfl
theorem RK (l:List PV):PV.cells (.tup l)=[.tup l]:=rfl
theorem LV (l:List PV):AV.cells (.v (.tup l))=[.v (.tup l)]:=rfl
theorem RP (l:List PV):PV.one (.tup l)=false:=rfl
theorem L0 (l:List PV):AV.ot (.v (.tup l))=false:=rfl
theorem VJ (l:List PV):PV.cells (.sl l)=[.sl l]:=rfl
theorem Qd (l:List PV):AV.cells (.v (.sl l))=[.v (.sl l)]:=rfl
theorem VO (l:List PV):PV.one (.sl l)=true:=rfl
theorem Qn (l:List PV):AV.ot (.v (.sl l))=true:=rfl
theorem VG (f:Fn):PV.cells (.fn f)=[.fn f]:=rfl
theorem Qa (f:Fn):AV.cells (.v (.fn f))=[.v (.fn f)]:=rfl
theorem VL (f:Fn):PV.one (.fn f)=true:=rfl
theorem Qk (f:Fn):AV.ot (.v (.fn f))=true:=rfl
theorem RH:PV.cells (.fn0)=[.fn0]:=rfl
theorem LR:AV.cells (.v (.fn0))=[.v (.fn0)]:=rfl
theorem RM:PV.one (.fn0)=true:=rfl
theorem LX:AV.ot (.v (.fn0))=true:=rfl
theorem VH:PV.cells (.p0)=[.p0]:=rfl
theorem Qb:AV.cells (.v (.p0))=[.v (.p0)]:=rfl
theorem VM:PV.one (.p0)=true:=rfl
theorem Ql:AV.ot (.v (.p0))=true:=rfl
theorem RI:PV.cells (.if0)=[.if0]:=rfl
theorem LS:AV.cells (.v (.if0))=[.v (.if0)]:=rfl
theorem RN:PV.one (.if0)=true:=rfl
theorem LY:AV.ot (.v (.if0))=true:=rfl
theorem RJ (t:TypeId) (v:PV):PV.cells (.ifc t v)=[.ifc t v]:=rfl
theorem LU (t:TypeId) (v:PV):AV.cells (.v (.ifc t v))=[.v (.ifc t v)]:=rfl
theorem RO (t:TypeId) (v:PV):PV.one (.ifc t v)=true:=rfl
theorem LZ (t:TypeId) (v:PV):AV.ot (.v (.ifc t v))=true:=rfl
theorem RL (l:List PV):PV.one (.agg l)=false:=rfl
theorem LQ (l:List PV):AV.cells (.v (.agg l))=l.map .v:=rfl
theorem LW (l:List PV):AV.ot (.v (.agg l))=true:=rfl
theorem W6 (n v o:Nat):AV.cells (.p n v o)=[.p n v o]:=rfl
theorem W9 (n v o:Nat):AV.ot (.p n v o)=true:=rfl
theorem Xb (n v o:Nat):AV.one (.p n v o)=true:=rfl
theorem T6 (x:PV) (o:Nat):AV.cells (.pp x o)=[.pp x o]:=rfl
theorem Ug (x:PV) (o:Nat):AV.ot (.pp x o)=true:=rfl
theorem Uq (x:PV) (o:Nat):AV.one (.pp x o)=true:=rfl
theorem T7 (n v o l z:Nat):AV.cells (.rs n v o l z)=[.rs n v o l z]:=rfl
theorem Uh (n v o l z:Nat):AV.ot (.rs n v o l z)=true:=rfl
theorem Ur (n v o l z:Nat):AV.one (.rs n v o l z)=true:=rfl
theorem T4 (l:List PV):AV.cells (.fs l)=[.fs l]:=rfl
theorem Ue (l:List PV):AV.ot (.fs l)=true:=rfl
theorem Uo (l:List PV):AV.one (.fs l)=true:=rfl
theorem T8:AV.cells (.sn)=[.sn]:=rfl
theorem Ui:AV.ot (.sn)=true:=rfl
theorem Us:AV.one (.sn)=true:=rfl
theorem T3 (f:Fn) (a c:List AV):AV.cells (.fn f a c)=[.fn f a c]:=rfl
theorem Ud (f:Fn) (a c:List AV):AV.ot (.fn f a c)=true:=rfl
theorem Un (f:Fn) (a c:List AV):AV.one (.fn f a c)=true:=rfl
theorem VI (x:PV) (o:Nat):PV.cells (.pt x o)=[.pt x o]:=rfl
theorem Qc (x:PV) (o:Nat):AV.cells (.v (.pt x o))=[.v (.pt x o)]:=rfl
theorem VN (x:PV) (o:Nat):PV.one (.pt x o)=true:=rfl
theorem Qm (x:PV) (o:Nat):AV.ot (.v (.pt x o))=true:=rfl
theorem VF (f:FuncId) (a c:List PV):PV.cells (.fc f a c)=[.fc f a c]:=rfl
theorem P9 (f:FuncId) (a c:List PV):AV.cells (.v (.fc f a c))=[.v (.fc f a c)]:=rfl
theorem VK (f:FuncId) (a c:List PV):PV.one (.fc f a c)=true:=rfl
theorem Qi (f:FuncId) (a c:List PV):AV.ot (.v (.fc f a c))=true:=rfl
theorem T9:AV.cells (.ub)=[.ub]:=rfl
theorem Uj:AV.ot (.ub)=true:=rfl
theorem Ut:AV.one (.ub)=true:=rfl
theorem T5 (n:Nat):AV.cells (.mp n)=[.mp n]:=rfl
theorem Uf (n:Nat):AV.ot (.mp n)=true:=rfl
theorem Up (n:Nat):AV.one (.mp n)=true:=rfl
theorem W7:AV.cells (.u)=[.u]:=rfl
theorem Xa:AV.ot (.u)=false:=rfl
theorem Xc:AV.one (.u)=false:=rfl
theorem P8 (l:List AV):AV.cells (.tup l)=[.tup l]:=rfl
theorem Qh (l:List AV):AV.ot (.tup l)=false:=rfl
theorem Qp (l:List AV):AV.one (.tup l)=false:=rfl
theorem P7 (l:List AV):AV.cells (.agg l)=l:=rfl
theorem Qg (l:List AV):AV.ot (.agg l)=l.all AV.one:=rfl
theorem Qo (l:List AV):AV.one (.agg l)=false:=rfl
theorem Xd (x:PV):AV.one (.v x)=x.one:=rfl
theorem Qe (l:List AV):AV.isAgg (.agg l)=True:=rfl
theorem W8 (l:List PV):AV.isAgg (.v (.agg l))=True:=rfl
attribute [irreducible] KW CW RW OW CR GR BX PX CV ym Pn
def UJ:Nat->List PV->List (Nat×AV)
 | _,[]=>[]
 |i,x::l=>(i, .v x)::UJ (i+1) l
def JV:Nat->List AV->List (Nat×AV)
 | _,[]=>[]
 |i,x::l=>(i,x)::JV (i+1) l
def JW:Nat->List aF->List (Nat×aF)
 | _,[]=>[]
 |i,x::l=>(i,x)::JW (i+1) l
theorem UK (l:List PV):l.mapIdx (fun i x=>(i,AV.v x))=UJ 0 l:=by
 have: ∀(l:List PV) (k:Nat),l.mapIdx (fun i x=>(i+k,AV.v x))=UJ k l:=by
  intro l
  induction l with
  |nil=>intro k;rfl
  |cons x l ih=>
   intro k;rw[nY,UJ,<-ih (k+1)];have e:(fun i (x:PV)=>(i+1+k,AV.v x))=fun i x=>(i+(k+1),AV.v x):=by funext i x;congr 1;omega
   rw[e];simp
 exact this l 0
theorem QL (l:List AV):l.mapIdx (fun i x=>(i,x))=JV 0 l:=by
 have: ∀(l:List AV) (k:Nat),l.mapIdx (fun i x=>(i+k,x))=JV k l:=by
  intro l
  induction l with
  |nil=>intro k;rfl
  |cons x l ih=>
   intro k;rw[nY,JV,<-ih (k+1)];have e:(fun i (x:AV)=>(i+1+k,x))=fun i x=>(i+(k+1),x):=by funext i x;congr 1;omega
   rw[e];simp
 exact this l 0
theorem QM (l:List aF):l.mapIdx (fun i x=>(i,x))=JW 0 l:=by
 have: ∀(l:List aF) (k:Nat),l.mapIdx (fun i x=>(i+k,x))=JW k l:=by
  intro l
  induction l with
  |nil=>intro k;rfl
  |cons x l ih=>
   intro k;rw[nY,JW,<-ih (k+1)];have e:(fun i (x:aF)=>(i+1+k,x))=fun i x=>(i+(k+1),x):=by funext i x;congr 1;omega
   rw[e];simp
 exact this l 0
theorem rv.w {P:Program} [cG P] (hm:P.follows .mixedOrders=true) {f:FuncId} {fn:Func} {sc:SC} {rs:List qd} (hent:Enters P f f) (hfn:P.funcs[f]?=some fn) (hb:fn.body.isSome=true) (hc:comp P fn.ntmps (fn.body.getD .skip)=some sc) (hr:gM P fn.results.toList=some rs)
  {args:List PV} {r:PV} (hlen:Nat.ble args.length fn.ntmps=true) (h:CW P (Jr rs r) sc [] ⟨UJ 0 args,[],1000⟩):rv P f args r:=
 rv.mk' hm hent hfn hb hc hr (bQ hlen) (by rw[UK];exact CW.start h)
theorem ml.w {P:Program} [cG P] (hm:P.follows .mixedOrders=true) {f:FuncId} {fn:Func} {sc:SC} {rs:List qd} (hent:Enters P f f) (hfn:P.funcs[f]?=some fn) (hb:fn.body.isSome=true) (hc:comp P fn.ntmps (fn.body.getD .skip)=some sc) (hr:gM P fn.results.toList=some rs)
  {obs:List aF} {args:List AV} {fs:List (Option (Option aF))} {j:Option Nat} {nw:Option aF} {v:AV} (hlen:Nat.ble args.length fn.ntmps=true) (h:CW P (kD rs obs fs j nw v) sc [] ⟨JV 0 args,JW 0 obs,1000⟩)
  {ns:List Nat} {nm:Nat} {obsA:List aF} {avs:List AV} {v':AV} {up:List (Nat×Option aF)} (hns:ns.length<=1000) (hnd:ns.Nodup) (hln:ns.length=obsA.length) (hob:bz (aF.aZ (dM ns)) obsA=some obs) (hav:bz (AV.aZ (dM ns)) avs=some args)
  (hv:v.aZ (kF ns nm)=some v') (hup:gY ns nm fs nw=some up):ml P f nm (ns.zip obsA) avs v' up:=
 ml.mk' hm hent hfn hb hc hr (bQ hlen) (by rw[QL,QM];exact h) hns hnd hln hob hav hv hup
attribute [go_sem] Bool.not_true Bool.not_false eq_self implies_true imp_false not_false_eq_true PA TF TC Px Pz Py TE TD TL PK PJ PL PH PG PI TJ TI TK PF WT AV.off AV.off.offL TO TN TP qv TV WX XW WW PN PM Zr WK WG WJ WE Lu Zn WQ WL WH SE SD Ty Zk Zl WI Zw Zv JF JG O2 O3 eZ dr dN SX.ev aP F3 Hx ay MY EL lT AS.tU AS.set Q3 Sf PQ Zb W5 PT PW PU PS PZ lenOf bounds qw td AV.XQ AV.BM AV.Tf GL jS bz RG XT Ua XX Uk XU Ub XY Ul XV Uc XZ Um RK LV RP L0 VJ Qd VO Qn VG Qa VL Qk RH LR RM LX VH Qb VM Ql RI LS RN LY RJ LU RO LZ RL LQ LW W6 W9 Xb T6 Ug Uq T7 Uh Ur T4 Ue Uo T8 Ui Us T3 Ud Un W7 Xa Xc T5 Uf Up P8 Qh Qp P7 Qg Qo Xd Qe W8 u8 allM_nil allM_cons Ux y7 P1 Jt GU ne_eq Int.cast_ofNat_Int Xi Xj List.flatten_cons List.flatten_nil List.flatMap_cons List.flatMap_nil IntKind.bits Nat.min_def List.take_length Dj List.length_map IntWalk.i64_in IntWalk.u8_in IntWalk.u64_in decide_true decide_false Int.toNat_natCast Int.toNat_zero Int.toNat_one ite_true ite_false List.length_cons List.length_nil List.map_cons List.map_nil List.all_cons List.all_nil Bool.and_true Bool.true_and Bool.and_self Option.map_some Option.map_none List.take_succ_cons List.take_zero List.drop_succ_cons List.drop_zero List.take_nil List.drop_nil List.getD_cons_zero List.getD_cons_succ List.nil_append List.cons_append List.append_nil Nat.zero_add Nat.add_zero Nat.le_refl true_and and_true and_self true_implies forall_const Nat.mul_one Nat.one_mul SL mN jP kI Gr List.isEmpty_cons List.isEmpty_nil Bool.or_true Bool.true_or Bool.false_or Bool.or_false Bool.and_false Bool.false_and Jr KO Hk view zw LG LF P0 LH UJ JV JW AV.nz PV.nz VI Qc VN Qm VF P9 VK Qi T9 Uj Ut WN WO
