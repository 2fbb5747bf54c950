/- Part of the proof. -/
import Derived.IntWalk
import Derived.Attr
import Derived.Test.YtnhhajlcpjgkjaaGreatDoorUB13
set_option linter.all false
namespace Go.Dom
open Go.RowKit
inductive Fr where
 |seq (b:SC)
 |blk (id:Nat)
 |lp (R:AS->Prop)
 |asg (b:SC)
 |rg (t0:List (Nat×AV)) (R:AS->Prop)
 |bk (ns:List Nat) (t0:List (Nat×AV)) (obs:List (Nat×Option aJ))
def KW (P:Program) [cM P] (Q:AX->AS->Prop):List Fr->AX->AS->Prop
 |[],e,s=>Q e s
 | .seq b::K, .normal,s=>aw P b (KW P Q K) s
 | .seq _::K, .exit j,s=>KW P Q K (.exit j) s
 | .seq _::K, .ret,s=>KW P Q K .ret s
 | .blk _::K, .normal,s=>KW P Q K .normal s
 | .blk id::K, .exit j,s=>if j=id then KW P Q K .normal s else KW P Q K (.exit j) s
 | .blk _::K, .ret,s=>KW P Q K .ret s
 | .lp R:: _, .normal,s=>R s
 | .lp _::K, .exit j,s=>KW P Q K (.exit j) s
 | .lp _::K, .ret,s=>KW P Q K .ret s
 | .asg b::K, .normal,s=>aw P b (KW P Q K) s
 | .asg _:: _, .exit _,_=>False
 | .asg _:: _, .ret,_=>False
 | .bk ns t0 obs::K,e,s=>(∀p∈s.h,∀c∈p.2.cells,c.off ns=true)/\KW P Q K e ⟨t0,lC s.h obs,s.nx⟩
 | .rg t0 R:: _, .normal,s=>R {s with t:=t0}
 | .rg t0 _::K, .exit j,s=>KW P Q K (.exit j) {s with t:=t0}
 | .rg t0 _::K, .ret,s=>KW P Q K .ret {s with t:=t0}
section
variable (P:Program) [cM P] (Q:AX->AS->Prop)
def CW (sc:SC) (K:List Fr) (s:AS):Prop:=aw P sc (KW P Q K) s
def Rj (bf:Option (List Nat)) (tr:List (Nat×List Nat×List Nat)):Prop:=
 match bf with
 |none=>True
 |some b=>Qh b tr=true
def x6 (bf:Option (List Nat)) (k:Nat) (rs:List Nat) (up:List (Nat×Option aJ)) (tr:List (Nat×List Nat×List Nat)):List (Nat×List Nat×List Nat):=
 match bf with
 |none=>[]
 |some _=>(k,rs,up.map (·.1))::tr
def RW (nx:Nat) (bf:Option (List Nat)) (n:Nat) (ops:List jD) (k:Nat) (s:AS) (tr:List (Nat×List Nat×List Nat)) (K:List Fr):Prop:=
 match bf with
 |none=>rY P nx ops k s fun s'=>KW P Q K .normal {s' with nx:=n}
 |some b=>Bd P nx ops k s tr fun s' tr=>Qh b tr=true/\KW P Q K .normal {s' with nx:=n}
def OW (nx:Nat) (bf:Option (List Nat)) (n:Nat) (x:Option AO) (d:Option Nat) (ops:List jD) (k:Nat) (s:AS) (tr:List (Nat×List Nat×List Nat)) (K:List Fr):Prop:=
 Lh x fun ao=>RW P Q nx bf n ops (k+1) (s.tc d ao.v ao.up) (x6 bf k ao.rs ao.up tr) K
def CR (nx:Nat) (bf:Option (List Nat)) (n:Nat) (nm:Nat) (fv:AV) (avs:List AV) (d:Option Nat) (ops:List jD) (k:Nat) (s:AS) (tr:List (Nat×List Nat×List Nat)) (K:List Fr):Prop:=
 Im P nm s.h fv avs fun ao=>RW P Q nx bf n ops (k+1) (s.tc d ao.v ao.up) (x6 bf k ao.rs ao.up tr) K
def GR (nx:Nat) (bf:Option (List Nat)) (n:Nat) (v:AV) (t:Nat) (want:Bool) (d:Option Nat) (o:SO) (ops:List jD) (k:Nat) (s:AS) (tr:List (Nat×List Nat×List Nat)) (K:List Fr):Prop:=
 RI v t want s (fun s=>RW P Q nx bf n (⟨d,o,none⟩::ops) k s tr K) (fun s=>RW P Q nx bf n ops (k+1) (s.tc d (.v (.tup [])) []) (x6 bf k [] [] tr) K)
def CV (v:AV) (a b:SC) (K:List Fr) (s:AS):Prop:=IK v (CW P Q a K s) (CW P Q b K s)
inductive BK where
 |cw (a b:SC) (K:List Fr) (s:AS)
 |gd (nx:Nat) (bf:Option (List Nat)) (n:Nat) (t:Nat) (want:Bool) (d:Option Nat) (o:SO) (ops:List jD) (k:Nat) (s:AS) (tr:List (Nat×List Nat×List Nat)) (K:List Fr)
 |ng (κ:BK)
def BX (c:Bool):BK->Prop
 | .cw a b K s=>yR c (CW P Q a K s) (CW P Q b K s)
 | .gd nx bf n t want d o ops k s tr K=>GR P Q nx bf n (.v (.b c)) t want d o ops k s tr K
 | .ng κ=>BX (!c) κ
def PX (p:Prop) (κ:BK):Prop:=(p->BX P Q true κ)/\(¬p->BX P Q false κ)
def Qe (ps:List Nat) (a b:SC) (K:List Fr) (t0:List (Nat×AV)) (N:Nat) (fin:Bool) (xs:List (List PV)) (s:AS):Prop:=
 XS (fun y Qx s1=>aw P a (fun e s2=>match e with
  | .normal=>aw P b Qx s2
  | _=>False) {s1 with t:=qQ s1.t ps y}) (KW P Q K) t0 N fin xs s
def yL (a:SC) (K:List Fr) (N:Nat) (s:AS):Prop:=wP (aw P a) (KW P Q K) N s
variable {P Q}
variable {κ:BK}
theorem CW.start {sc:SC} {s:AS} (h:CW P Q sc [] s):aw P sc Q s:=by
 have:KW P Q []=Q:=by funext e s;rfl
 unfold CW at h;rw[this]at h;exact h
theorem j4.mk' {f:FuncId} {fn:Func} {sc:SC} {rs:List qn} (hm:P.follows .mixedOrders=true) (hent:Enters P f f) (hfn:P.funcs[f]?=some fn) (hb:fn.body.isSome=true) (hc:comp P fn.ntmps (fn.body.getD .skip)=some sc) (hr:gS P fn.results.toList=some rs)
  {obs:List aJ} {args:List AV} {fs:List (Option (Option aJ))} {j:Option Nat} {nw:Option aJ} {v:AV} (hlen:args.length<=fn.ntmps) (h:CW P (iQ rs obs fs j nw v) sc [] ⟨args.mapIdx (fun i x=>(i,x)),obs.mapIdx (fun i x=>(i,x)),1000⟩)
  {ns:List Nat} {nm:Nat} {obsA:List aJ} {avs:List AV} {v':AV} {up:List (Nat×Option aJ)} (hns:ns.length<=1000) (hnd:ns.Nodup) (hln:ns.length=obsA.length) (hob:bc (aJ.aX (dz ns)) obsA=some obs) (hav:bc (AV.aX (dz ns)) avs=some args)
  (hv:v.aX (gR ns nm)=some v') (hup:fL ns nm fs nw=some up):j4 P f nm (ns.zip obsA) avs v' up:=by
 obtain⟨code,hcode⟩:=uP.1 hb;rw[hcode]at hc;exact j4.Ol hm hent hfn hcode hc hr hlen (CW.start h) hns hnd hln hob hav hv hup
theorem Qt (K:List Fr) (s:AS):CW P Q .skip K s=KW P Q K .normal s:=rfl
theorem Uj (a b:SC) (K:List Fr) (s:AS):CW P Q (.seq a b) K s=CW P Q a (.seq b::K) s:=by
 simp only[CW,aw];congr 1
 funext e s'
 cases e<;>rfl
theorem Ug (id:Nat) (a:SC) (K:List Fr) (s:AS):CW P Q (.blk id a) K s=CW P Q a (.blk id::K) s:=by
 simp only[CW,aw];congr 1
 funext e s'
 cases e<;>rfl
theorem Qq (x:SX) (a b:SC) (K:List Fr) (s:AS):CW P Q (.cond x a b) K s=CV P Q (x.ev (aS s.t)) a b K s:=rfl
theorem aas (c:Bool) (a b:SC) (K:List Fr) (s:AS):CV P Q (.v (.b c)) a b K s=BX P Q c (.cw a b K s):=rfl
theorem XF (a b:SC) (K:List Fr) (s:AS):BX P Q true (.cw a b K s)=CW P Q a K s:=by simp only[BX,sC]
theorem XB (a b:SC) (K:List Fr) (s:AS):BX P Q false (.cw a b K s)=CW P Q b K s:=by simp only[BX,qp]
theorem To (κ:BK):BX P Q true (.ng κ)=BX P Q false κ:=by simp only[BX,cr]
theorem Tn (κ:BK):BX P Q false (.ng κ)=BX P Q true κ:=by simp only[BX,cC]
theorem Uc (c:Bool) (κ:BK):BX P Q (!c) κ=BX P Q c (.ng κ):=by simp only[BX]
theorem Qm {c:Bool} (h:c=true):BX P Q c κ=BX P Q true κ:=by rw[h]
theorem Ql {c:Bool} (h:c=false):BX P Q c κ=BX P Q false κ:=by rw[h]
theorem Mc {p:Prop} (h:p):PX P Q p κ=BX P Q true κ:=by simp only[PX,h,true_implies,uX,false_implies,and_true]
theorem Mb {p:Prop} (h: ¬p):PX P Q p κ=BX P Q false κ:=by simp only[PX,h,false_implies,my,true_implies,true_and]
theorem aaA (κ:BK):PX P Q True κ=BX P Q true κ:=Mc trivial
theorem aaz (κ:BK):PX P Q False κ=BX P Q false κ:=Mb id
theorem aap (p:Prop) [Decidable p] (κ:BK):BX P Q (decide p) κ=PX P Q p κ:=by
 by_cases h:p
 ·rw[Qm (aU h),Mc h]
 ·rw[Ql (bu h),Mb h]
theorem aaq (x y:Int) (κ:BK):BX P Q (x==y) κ=PX P Q (x=y) κ:=by
 by_cases h:x=y
 ·rw[Qm (by simpa using h),Mc h]
 ·rw[Ql (by simpa using h),Mb h]
theorem XC (x y:Int) (κ:BK):BX P Q (x !=y) κ=PX P Q (x=y) (.ng κ):=by
 by_cases h:x=y
 ·rw[Ql (by simpa using h),Mc h,To]
 ·rw[Qm (by simpa using h),Mb h,Tn]
theorem BX.mk {c:Bool} (h1:c=true->BX P Q true κ) (h2:c=false->BX P Q false κ):BX P Q c κ:=by
 cases c
 ·exact h2 rfl
 ·exact h1 rfl
theorem PX.mk {p:Prop} (h1:p->BX P Q true κ) (h2: ¬p->BX P Q false κ):PX P Q p κ:=⟨h1,h2⟩
theorem XK (a b:SC) (K:List Fr) (s:AS):CV P Q .ub a b K s=(CW P Q a K s/\CW P Q b K s):=rfl
theorem Qs (a:SC) (K:List Fr) (s:AS):CW P Q (.loop a) K s=yL P Q a K s.nx s:=rfl
theorem Qr (id:Nat) (K:List Fr) (s:AS):CW P Q (.exit id) K s=KW P Q K (.exit id) s:=rfl
theorem Ui (K:List Fr) (s:AS):CW P Q .ret K s=KW P Q K .ret s:=rfl
theorem Uh (bf:Option (List Nat)) (ops:List jD) (K:List Fr) (s:AS):CW P Q (.reg bf ops) K s=RW P Q s.nx bf (s.nx+ops.length) ops 0 s [] K:=by
 cases bf<;>rfl
theorem Uq (e:AX) (s:AS):KW P Q [] e s=Q e s:=rfl
theorem QF (b:SC) (K:List Fr) (s:AS):KW P Q (.seq b::K) .normal s=CW P Q b K s:=rfl
theorem QE (b:SC) (K:List Fr) (j:Nat) (s:AS):KW P Q (.seq b::K) (.exit j) s=KW P Q K (.exit j) s:=rfl
theorem QG (b:SC) (K:List Fr) (s:AS):KW P Q (.seq b::K) .ret s=KW P Q K .ret s:=rfl
theorem QC (i:Nat) (K:List Fr) (s:AS):KW P Q (.blk i::K) .normal s=KW P Q K .normal s:=rfl
theorem QB (i:Nat) (K:List Fr) (j:Nat) (s:AS):KW P Q (.blk i::K) (.exit j) s=if j=i then KW P Q K .normal s else KW P Q K (.exit j) s:=rfl
theorem QD (i:Nat) (K:List Fr) (s:AS):KW P Q (.blk i::K) .ret s=KW P Q K .ret s:=rfl
theorem yF {x:SX} {ps:List Nat} {a b:SC} {K:List Fr} {s:AS} {g:FuncId} {caps:List PV} {fin:Bool} {xs:List (List PV)} (hi:XM P g caps fin xs) (hx:x.ev (aS s.t)= .v (.fc g [] caps)) (hl: ∀y∈xs,y.length=ps.length) (h:Qe P Q ps a b K s.t s.nx fin xs s):CW P Q (.rng x ps a b) K s:=by
 have e:rZ [] s (KW P Q K)=KW P Q K:=by funext e s';simp[rZ]
 refine⟨g,caps,fin,xs,[],by rw[hx];rfl,by rw[hx];simp[bJ],by simp,hi,fun y hy=>⟨hl y hy, .inl rfl⟩,?_⟩
 rw[e];exact h
section
variable {ps:List Nat} {a b:SC} {K:List Fr} {t0:List (Nat×AV)} {N:Nat} {s:AS} {fin:Bool}
variable {xs ys:List (List PV)}
theorem WT (h:KW P Q K .normal s):Qe P Q ps a b K t0 N true [] s:=fun X h1 _ _=>h1 _ rfl h
theorem JE {s':AS} (hN:N<=s'.nx) (hle:s'.Le s) (h:Qe P Q ps a b K t0 N fin ys s'):Qe P Q ps a b K t0 N fin ys s:=fun X h1 h2 h3=>h3 ys s' s hN hle (h X h1 h2 h3)
theorem SU {y:List PV} (h:CW P Q a (.asg b:: .rg t0 (Qe P Q ps a b K t0 N fin ys)::K) {s with t:=qQ s.t ps y}):Qe P Q ps a b K t0 N fin (y::ys) s:=by
 intro X h1 h2 h3;refine h2 y ys s (qY (fun e s2 hs=> ?_) h)
 cases e with
 |normal=>
  refine qY (fun e s3 hs3=> ?_) hs
  cases e with
  |normal=>exact hs3 X h1 h2 h3
  |exit j=>exact hs3
  |ret=>exact hs3
 |exit j=>exact hs
 |ret=>exact hs
theorem JD {α:Type} (st:α->AS) (ok:List (List PV)->α->Prop) (a0:α) (hN: ∀x,N<=(st x).nx) (h0:ok xs a0) (hle:(st a0).Le s) (hnil: ∀x,ok [] x->fin=true/\KW P Q K .normal (st x))
  (hcons: ∀y ys x,ok (y::ys) x-> ∀R:AS->Prop,(∀x',ok ys x'-> ∀s',(st x').Le s'->R s')->CW P Q a (.asg b:: .rg t0 R::K) {st x with t:=qQ (st x).t ps y}):Qe P Q ps a b K t0 N fin xs s:=by
 refine JE (hN a0) hle ?_;clear hle
 induction xs generalizing a0 with
 |nil=>
  obtain⟨rfl,h⟩:=hnil a0 h0;exact WT h
 |cons y ys ih=>exact SU (hcons y ys a0 h0 _ fun x' hx' s' hs'=>JE (hN x') hs' (ih x' hx'))
theorem Dv {α:Type} (st:α->AS) (ok:List (List PV)->α->Prop) (a0:α) (hN: ∀x,N<=(st x).nx) (h0:ok xs a0) (hle:(st a0).Le s) (hnil: ∀x,ok [] x->KW P Q K .normal (st x))
  (hcons: ∀y ys x,ok (y::ys) x-> ∀R:AS->Prop,(∀x',ok ys x'-> ∀s',(st x').Le s'->R s')->CW P Q a (.asg b:: .rg t0 R::K) {st x with t:=qQ (st x).t ps y}):Qe P Q ps a b K t0 N true xs s:=
 JD st ok a0 hN h0 hle (fun x h=>⟨rfl,hnil x h⟩) hcons
theorem SV {α:Type} (st:α->AS) (ok:List (List PV)->α->Prop) (a0:α) (hN: ∀x,N<=(st x).nx) (h0:ok xs a0) (hle:(st a0).Le s) (hnil: ∀x,¬ok [] x)
  (hcons: ∀y ys x,ok (y::ys) x-> ∀R:AS->Prop,(∀x',ok ys x'-> ∀s',(st x').Le s'->R s')->CW P Q a (.asg b:: .rg t0 R::K) {st x with t:=qQ (st x).t ps y}):Qe P Q ps a b K t0 N false xs s:=
 JD st ok a0 hN h0 hle (fun x h=>(hnil x h).elim) hcons
end
theorem QA (b:SC) (K:List Fr) (s:AS):KW P Q (.asg b::K) .normal s=CW P Q b K s:=rfl
theorem XN (ns:List Nat) (t0:List (Nat×AV)) (obs:List (Nat×Option aJ)) (K:List Fr) (e:AX) (s:AS):KW P Q (.bk ns t0 obs::K) e s=((∀p∈s.h,∀c∈p.2.cells,c.off ns=true)/\KW P Q K e ⟨t0,lC s.h obs,s.nx⟩):=rfl
theorem Us (t0:List (Nat×AV)) (R:AS->Prop) (K:List Fr) (s:AS):KW P Q (.rg t0 R::K) .normal s=R ⟨t0,s.h,s.nx⟩:=rfl
theorem Ur (t0:List (Nat×AV)) (R:AS->Prop) (K:List Fr) (j:Nat) (s:AS):KW P Q (.rg t0 R::K) (.exit j) s=KW P Q K (.exit j) ⟨t0,s.h,s.nx⟩:=rfl
theorem Ut (t0:List (Nat×AV)) (R:AS->Prop) (K:List Fr) (s:AS):KW P Q (.rg t0 R::K) .ret s=KW P Q K .ret ⟨t0,s.h,s.nx⟩:=rfl
theorem Uo (R:AS->Prop) (K:List Fr) (s:AS):KW P Q (.lp R::K) .normal s=R s:=rfl
theorem Un (R:AS->Prop) (K:List Fr) (j:Nat) (s:AS):KW P Q (.lp R::K) (.exit j) s=KW P Q K (.exit j) s:=rfl
theorem Up (R:AS->Prop) (K:List Fr) (s:AS):KW P Q (.lp R::K) .ret s=KW P Q K .ret s:=rfl
section
variable (nx:Nat) (bf:Option (List Nat)) (n:Nat) (d:Option Nat) (ops:List jD) (k:Nat) (s:AS) (tr:List (Nat×List Nat×List Nat)) (K:List Fr)
variable {avs:List AV} {f:FuncId} {nm:Nat} {pvs:List PV}
theorem Uy:RW P Q nx bf n [] k s tr K=(Rj bf tr/\KW P Q K .normal {s with nx:=n}):=by
 cases bf
 ·simp only[RW,rY,Rj,true_and]
 ·rfl
def XW (P:Program) [cM P] (Q:AX->AS->Prop) (nx:Nat) (bf:Option (List Nat)) (n:Nat) (o:SO) (d:Option Nat) (ops:List jD) (k:Nat) (s:AS) (tr:List (Nat×List Nat×List Nat)) (K:List Fr):Prop:=
 match o with
 | .call f args=>CR P Q nx bf n (nx+k) (f.ev (aS s.t)) (args.map (SX.ev (aS s.t))) d ops k s tr K
 |o=>OW P Q nx bf n (fj (nx+k) o (aS s.t) (aC s.h)) d ops k s tr K
theorem XQ (o:SO):RW P Q nx bf n (⟨d,o,none⟩::ops) k s tr K=XW P Q nx bf n o d ops k s tr K:=by
 cases o<;>cases bf<;>rfl
theorem XP (o:SO) (t:Nat) (want:Bool):RW P Q nx bf n (⟨d,o,some (t,want)⟩::ops) k s tr K=GR P Q nx bf n (aS s.t t) t want d o ops k s tr K:=by
 cases bf<;>rfl
theorem QI (v:AV) (p:Prop) (rs:List Nat) (up:List (Nat×Option aJ)):OW P Q nx bf n (some ⟨v,p,rs,up⟩) d ops k s tr K=(p/\RW P Q nx bf n ops (k+1) (s.tc d v up) (x6 bf k rs up tr) K):=rfl
theorem QH:OW P Q nx bf n none d ops k s tr K=False:=rfl
theorem aav (x:Bool) (t:Nat) (want:Bool) (o:SO):GR P Q nx bf n (.v (.b x)) t want d o ops k s tr K=BX P Q x (.gd nx bf n t want d o ops k s tr K):=rfl
theorem XE (t:Nat) (o:SO):BX P Q true (.gd nx bf n t true d o ops k s tr K)=RW P Q nx bf n (⟨d,o,none⟩::ops) k (s.set t (.v (.b true))) tr K:=by simp only[BX,GR,RI,sC]
theorem XA (t:Nat) (o:SO):BX P Q false (.gd nx bf n t true d o ops k s tr K)=RW P Q nx bf n ops (k+1) ((s.set t (.v (.b false))).tc d (.v (.tup [])) []) (x6 bf k [] [] tr) K:=by simp only[BX,GR,RI,qp]
theorem XD (t:Nat) (o:SO):BX P Q true (.gd nx bf n t false d o ops k s tr K)=RW P Q nx bf n ops (k+1) ((s.set t (.v (.b true))).tc d (.v (.tup [])) []) (x6 bf k [] [] tr) K:=by simp only[BX,GR,RI,sC]
theorem Xz (t:Nat) (o:SO):BX P Q false (.gd nx bf n t false d o ops k s tr K)=RW P Q nx bf n (⟨d,o,none⟩::ops) k (s.set t (.v (.b false))) tr K:=by simp only[BX,GR,RI,qp]
theorem L6 (t:Nat) (want:Bool) (o:SO):GR P Q nx bf n (.v (.tup [])) t want d o ops k s tr K=RW P Q nx bf n ops (k+1) (s.tc d (.v (.tup [])) []) (x6 bf k [] [] tr) K:=by simp only[GR,RI]
theorem Km:Rj none tr=True:=rfl
theorem Kn (b:List Nat):Rj (some b) tr=(Qh b tr=true):=rfl
theorem PG (rs:List Nat) (up:List (Nat×Option aJ)):x6 none k rs up tr=[]:=rfl
theorem PH (b:List Nat) (rs:List Nat) (up:List (Nat×Option aJ)):x6 (some b) k rs up tr=(k,rs,up.map (·.1))::tr:=rfl
theorem gQ {nx:Nat} {bf:Option (List Nat)} {n:Nat} {d:Option Nat} {ops:List jD} {k:Nat} {s:AS} {tr:List (Nat×List Nat×List Nat)} {K:List Fr} {r:PV} (he:qX P f pvs r) (ha:mU avs=some pvs) (hK:RW P Q nx bf n ops (k+1) (s.tc d (.v r) []) (x6 bf k [] [] tr) K):
  CR P Q nx bf n nm (.v (.fn (.func f))) avs d ops k s tr K:=⟨_, .pure f avs pvs r rfl ha he,hK⟩
theorem XI {nx:Nat} {bf:Option (List Nat)} {n:Nat} {d:Option Nat} {ops:List jD} {k:Nat} {s:AS} {tr:List (Nat×List Nat×List Nat)} {K:List Fr} {a c:List AV}:
  CR P Q nx bf n nm (.fn (.func f) a c) avs d ops k s tr K=CR P Q nx bf n nm (.v (.fn (.func f))) (a++(avs++c)) d ops k s tr K:=by
 have h: ∀ao,lX P nm (aC s.h) (.fn (.func f) a c) avs ao↔lX P nm (aC s.h) (.v (.fn (.func f))) (a++(avs++c)) ao:=by
  intro ao;constructor
  ·intro h
   cases h with
   |pure f avs pvs r hfv hargs he=>exact .pure f avs pvs r hfv hargs he
   |view f avs pvs r hfv hargs hr he=>exact .view f avs pvs r hfv hargs hr he
   |kx f avs pvs r hfv hargs hlo he=>exact .kx f avs pvs r hfv hargs hlo he
   |eff f avs hs v up hfv hhs he=>exact .eff f avs hs v up hfv hhs he
   |same f v hfv he=>exact .same f v hfv he
   |ext f avs pvs r hfv hargs he=>exact .ext f avs pvs r hfv hargs he
  ·intro h
   cases h with
   |pure f avs pvs r hfv hargs he=>exact .pure f avs pvs r hfv hargs he
   |view f avs pvs r hfv hargs hr he=>exact .view f avs pvs r hfv hargs hr he
   |kx f avs pvs r hfv hargs hlo he=>exact .kx f avs pvs r hfv hargs hlo he
   |eff f avs hs v up hfv hhs he=>exact .eff f avs hs v up hfv hhs he
   |same f v hfv he=>exact .same f v hfv he
   |ext f avs pvs r hfv hargs he=>exact .ext f avs pvs r hfv hargs he
 unfold CR Im;simp only[h]
theorem XH {nx:Nat} {bf:Option (List Nat)} {n:Nat} {d:Option Nat} {ops:List jD} {k:Nat} {s:AS} {tr:List (Nat×List Nat×List Nat)} {K:List Fr} {a c:List PV}:
  CR P Q nx bf n nm (.v (.fc f a c)) avs d ops k s tr K=CR P Q nx bf n nm (.v (.fn (.func f))) (a.map .v++(avs++c.map .v)) d ops k s tr K:=by
 have h: ∀ao,lX P nm (aC s.h) (.v (.fc f a c)) avs ao↔lX P nm (aC s.h) (.v (.fn (.func f))) (a.map .v++(avs++c.map .v)) ao:=by
  intro ao;constructor
  ·intro h
   cases h with
   |pure f avs pvs r hfv hargs he=>exact .pure f avs pvs r hfv hargs he
   |view f avs pvs r hfv hargs hr he=>exact .view f avs pvs r hfv hargs hr he
   |kx f avs pvs r hfv hargs hlo he=>exact .kx f avs pvs r hfv hargs hlo he
   |eff f avs hs v up hfv hhs he=>exact .eff f avs hs v up hfv hhs he
   |same f v hfv he=>exact .same f v hfv he
   |ext f avs pvs r hfv hargs he=>exact .ext f avs pvs r hfv hargs he
  ·intro h
   cases h with
   |pure f avs pvs r hfv hargs he=>exact .pure f avs pvs r hfv hargs he
   |view f avs pvs r hfv hargs hr he=>exact .view f avs pvs r hfv hargs hr he
   |kx f avs pvs r hfv hargs hlo he=>exact .kx f avs pvs r hfv hargs hlo he
   |eff f avs hs v up hfv hhs he=>exact .eff f avs hs v up hfv hhs he
   |same f v hfv he=>exact .same f v hfv he
   |ext f avs pvs r hfv hargs he=>exact .ext f avs pvs r hfv hargs he
 unfold CR Im;simp only[h]
theorem fw {nx:Nat} {bf:Option (List Nat)} {n:Nat} {d:Option Nat} {ops:List jD} {k:Nat} {s:AS} {tr:List (Nat×List Nat×List Nat)} {K:List Fr} {r:PV} (he:qX P f pvs r) (ha:bc (view (aC s.h) 9) avs=some pvs) (hr:r.flat=true) (hK:RW P Q nx bf n ops (k+1) (s.tc d (.v r) []) (x6 bf k (avs.flatMap (bJ (aC s.h) 9)) [] tr) K):
  CR P Q nx bf n nm (.v (.fn (.func f))) avs d ops k s tr K:=⟨_, .view f avs pvs r rfl ha hr he,hK⟩
theorem Il {nx:Nat} {bf:Option (List Nat)} {n:Nat} {d:Option Nat} {ops:List jD} {k:Nat} {s:AS} {tr:List (Nat×List Nat×List Nat)} {K:List Fr} {r:PV} (ns:List Nat) (he:qX P f pvs r) (hlo:ns.all (fun n=>decide (1000<=n))=true) (hv:avs.flatMap (bJ (aC s.h) 9)=ns) (ha:bc (view (aC s.h) 9) avs=some pvs)
  (hK:RW P Q nx bf n ops (k+1) (s.tc d (.v r) (ns.map fun n=>(n,none))) (x6 bf k ns (ns.map fun n=>(n,none)) tr) K):
  CR P Q nx bf n nm (.v (.fn (.func f))) avs d ops k s tr K:=by
 subst hv;exact⟨_, .kx f avs pvs r rfl ha (fun n hn=>of_decide_eq_true (bH.1 hlo n hn)) he,hK⟩
theorem bK {nx:Nat} {bf:Option (List Nat)} {n:Nat} {d:Option Nat} {ops:List jD} {k:Nat} {s:AS} {tr:List (Nat×List Nat×List Nat)} {K:List Fr} {hs:List (Nat×aJ)} {v:AV} {up:List (Nat×Option aJ)} (he:j4 P f nm hs avs v up) (hh: ∀p∈hs,aC s.h p.1=some p.2) (hK:RW P Q nx bf n ops (k+1) (s.tc d v up) (x6 bf k (hs.map (·.1)) up tr) K):
  CR P Q nx bf n nm (.v (.fn (.func f))) avs d ops k s tr K:=⟨_, .eff f avs hs v up rfl hh he,hK⟩
theorem Qo {nx:Nat} {bf:Option (List Nat)} {n:Nat} {d:Option Nat} {ops:List jD} {k:Nat} {s:AS} {tr:List (Nat×List Nat×List Nat)} {K:List Fr} {v:AV} (he:EvS P f) (hK:RW P Q nx bf n ops (k+1) (s.tc d v []) (x6 bf k [] [] tr) K):
  CR P Q nx bf n nm (.v (.fn (.func f))) [v] d ops k s tr K:=⟨_, .same f v rfl he,hK⟩
end
variable {h h':List (Nat×aJ)} {n n':Nat} {t t':List (Nat×AV)}
theorem Ue {nx:Nat} {bf:Option (List Nat)} {d:Option Nat} {ops:List jD} {k:Nat} {s:AS} {tr:List (Nat×List Nat×List Nat)} {K:List Fr} {nm:Nat} {f:FuncId} {avs:List AV} {pvs:List PV} {r:PV} (he:EvX P f pvs r) (ha:mU avs=some pvs) (hK:RW P Q nx bf n ops (k+1) (s.tc d (.v r) []) (x6 bf k [] [] tr) K):
  CR P Q nx bf n nm (.v (.fn (.func f))) avs d ops k s tr K:=⟨_, .ext f avs pvs r rfl ha he,hK⟩
theorem aj {a:SC} {K:List Fr} {N:Nat} {s:AS} (h:CW P Q a (.lp (yL P Q a K N)::K) s):yL P Q a K N s:=by
 refine w9 (qY (fun e s' hs=> ?_) h)
 cases e<;>exact hs
theorem ak {a:SC} {K:List Fr} {N:Nat} {s:AS} {α:Type} (m:α->Nat) (st:α->AS) (ok:α->Prop) (a0:α) (hN: ∀x,N<=(st x).nx) (h0:ok a0) (hle:(st a0).Le s)
  (hr: ∀x,ok x-> ∀R:AS->Prop,(∀y,ok y->m y<m x-> ∀s',(st y).Le s'->R s')->CW P Q a (.lp R::K) (st x)):yL P Q a K N s:=by
 refine KT m st ok a0 hN h0 hle fun x hx=> ?_
 refine qY (fun e s' hs=> ?_) (hr x hx (fun s'=> ∃y,ok y/\m y<m x/\(st y).Le s') fun y h1 h2 s' h3=>⟨y,h1,h2,h3⟩)
 cases e<;>exact hs
def dw (t:List (Nat×AV)) (n:Nat):List (Nat×AV)->Prop
 |[]=>True
 |(k,v)::r=>aS t k=v/\v.bd n=true/\dw t n r
def du (h:List (Nat×aJ)) (n:Nat):List (Nat×aJ)->Prop
 |[]=>True
 |(k,v)::r=>aC h k=some v/\k<n/\(∀c∈v.cells,c.bd n=true)/\du h n r
theorem AS.Le.ofZ (z:List (Nat×PV)) (ns:List Nat) (hns: ∀m∈ns,1000<=m/\aC h m=none) (hz: ∀q∈z,view (aC h') 9 (aS t' q.1)=some q.2/\ ∀m∈bJ (aC h') 9 (aS t' q.1),m∈ns) (hn:n<=n') (ht:dw t' n t) (hh:du h' n h):(AS.mk (z.map (fun q=>(q.1,AV.v q.2))++t) h n).Le ⟨t',h',n'⟩:=by
 have h1: ∀(t:List (Nat×AV)),dw t' n t-> ∀p∈t,aS t' p.1=p.2/\p.2.bd n=true:=by
  intro t
  induction t with
  |nil=>intro _ p hp;cases hp
  |cons q t ih=>
   obtain⟨k,v⟩:=q;intro hq p hp;rcases cu.1 hp with rfl|hp
   ·exact⟨hq.1,hq.2.1⟩
   ·exact ih hq.2.2 p hp
 have h2: ∀(h:List (Nat×aJ)),du h' n h-> ∀p∈h,aC h' p.1=some p.2/\p.1<n/\ ∀c∈p.2.cells,c.bd n=true:=by
  intro h
  induction h with
  |nil=>intro _ p hp;cases hp
  |cons q h ih=>
   obtain⟨k,v⟩:=q;intro hq p hp;rcases cu.1 hp with rfl|hp
   ·exact⟨hq.1,hq.2.1,hq.2.2.1⟩
   ·exact ih hq.2.2.2 p hp
 refine⟨⟨ns,hns,fun p hp=> ?_⟩,fun p hp=>(h2 h hh p hp).1,hn,fun p hp=> ?_,fun p hp=>(h2 h hh p hp).2⟩<;>rcases iF.1 hp with hp|hp
 ·obtain⟨q,hq,rfl⟩:=cE.1 hp;exact .inr ⟨q.2,rfl,(hz q hq).1,(hz q hq).2⟩
 ·exact .inl (h1 t ht p hp).1
 ·obtain⟨q,hq,rfl⟩:=cE.1 hp;rfl
 ·exact(h1 t ht p hp).2
theorem AS.Le.of (hn:n<=n') (ht:dw t' n t) (hh:du h' n h):(AS.mk t h n).Le ⟨t',h',n'⟩:=AS.Le.ofZ [] [] (fun _ h=>by cases h) (fun _ h=>by cases h) hn ht hh
end
theorem allM_nil {α:Type} (p:α->Prop):(∀x,x∈([]:List α)->p x)=True:=by simp
theorem allM_cons {α:Type} (a:α) (l:List α) (p:α->Prop):(∀x,x∈a::l->p x)=(p a/\ ∀x,x∈l->p x):=by simp
theorem Vj (k:IntKind) (n:Int):PV.byte (.i k n)=UInt8.ofNat n.toNat:=rfl
theorem zu (n:Int):PV.isByte (.i .u8 n)=True:=rfl
theorem QS (x:PV):AV.byte (.v x)=x.byte:=rfl
theorem J8 (x:PV):AV.isByte (.v x)=x.isByte:=rfl
theorem Ht (c:UInt8):UInt8.ofNat c.toNat=c:=by simp
def aK (l:Bytes):List AV:=l.map fun c=> .v (u8 c)
theorem Tw (l:Bytes):List.map (fun c:UInt8=>AV.v (PV.i IntKind.u8 (c.toNat:Int))) l=aK l:=rfl
theorem ko (l:Bytes):(aK l).length=l.length:=by simp[aK]
theorem jw (l:Bytes):List.take l.length (aK l)=aK l:=cZ (by simp[aK])
theorem kj (l m:Bytes):aK l++aK m=aK (l++m):=by simp[aK]
theorem G3 (l:Bytes):(∀y,y∈aK l->y.one=true)=True:=by
 simp only[eq_iff_iff,iff_true];intro y hy;obtain⟨c,-,rfl⟩:=cE.1 hy;rfl
theorem ar (l:Bytes) (n:Nat):(∀y,y∈aK l->y.bd n=true)=True:=by
 simp only[eq_iff_iff,iff_true];intro y hy;obtain⟨c,-,rfl⟩:=cE.1 hy;rfl
theorem ju (l:Bytes):(aK l).map AV.byte=l:=by
 induction l with
 |nil=>rfl
 |cons c l ih=>simp_all[aK,AV.byte,PV.byte,u8]
theorem Ke (l:Bytes):(∀y,y∈aK l->y= .v (u8 y.byte))=True:=by
 simp only[eq_iff_iff,iff_true];intro y hy;obtain⟨c,-,rfl⟩:=cE.1 hy;simp[AV.byte,PV.byte,u8]
theorem aM (f:Nat->Option Nat) (l:Bytes):AV.aX.renL f (aK l)=some (aK l):=by
 induction l with
 |nil=>rfl
 |cons c l ih=>
  have:AV.aX.renL f (AV.v (u8 c)::aK l)=some (AV.v (u8 c)::aK l):=by simp[AV.aX.renL,AV.aX,ih]
  exact this
theorem aR (k:Nat) (j:Option Nat) (s:AS) (l:Bytes):bc (fF k j s) (aK l)=some (aK l):=by
 induction l with
 |nil=>rfl
 |cons c l ih=>
  have:bc (fF k j s) (AV.v (u8 c)::aK l)=some (AV.v (u8 c)::aK l):=by simp[bc,fF,e7,view,ih]
  exact this
theorem X8:((0:Nat):Int)=0:=rfl
theorem X9:((1:Nat):Int)=1:=rfl
theorem DF {α β:Type} (l:List α) (f:α->β):List.take l.length (l.map f)=l.map f:=by rw[<-aG (f:=f),cl]
def cellsOf (l:List PV):List AV:=(l.flatMap PV.cells).map .v
theorem an (l:List PV) (n:Nat):(∀c,c∈cellsOf l->c.bd n=true)=True:=by
 simp only[eq_iff_iff,iff_true];intro c hc;simp only[cellsOf,cE]at hc;obtain⟨y,-,rfl⟩:=hc;rfl
theorem fX (hf:Nat->Option aJ) (f:Nat) (l:List PV):bc (view hf (f+1)) (l.map .v)=some l:=by
 induction l with
 |nil=>rfl
 |cons x l ih=>simp[bc,view,ih]
theorem Sr (l:List PV):PV.cells (.agg l)=l:=rfl
theorem YW (x:Bool):PV.cells (.b x)=[.b x]:=rfl
theorem UP (x:Bool):AV.cells (.v (.b x))=[.v (.b x)]:=rfl
theorem YZ (x:Bool):PV.one (.b x)=true:=rfl
theorem U0 (x:Bool):AV.ot (.v (.b x))=true:=rfl
theorem YX (k:IntKind) (n:Int):PV.cells (.i k n)=[.i k n]:=rfl
theorem UQ (k:IntKind) (n:Int):AV.cells (.v (.i k n))=[.v (.i k n)]:=rfl
theorem Y1 (k:IntKind) (n:Int):PV.one (.i k n)=true:=rfl
theorem U1 (k:IntKind) (n:Int):AV.ot (.v (.i k n))=true:=rfl
theorem YY (x:Bytes):PV.cells (.s x)=[.s x]:=rfl
theorem UR (x:Bytes):AV.cells (.v (.s x))=[.v (.s x)]:=rfl
theorem Y2 (x:Bytes):PV.one (.s x)=true:=rfl
theorem U2 (x:Bytes):AV.ot (.v (.s x))=true:=rfl
theorem Sv (l:List PV):PV.cells (.tup l)=[.tup l]:=rfl
theorem Mt (l:List PV):AV.cells (.v (.tup l))=[.v (.tup l)]:=rfl
theorem SA (l:List PV):PV.one (.tup l)=false:=rfl
theorem My (l:List PV):AV.ot (.v (.tup l))=false:=rfl
theorem Wx (l:List PV):PV.cells (.sl l)=[.sl l]:=rfl
theorem Q2 (l:List PV):AV.cells (.v (.sl l))=[.v (.sl l)]:=rfl
theorem WD (l:List PV):PV.one (.sl l)=true:=rfl
theorem Ra (l:List PV):AV.ot (.v (.sl l))=true:=rfl
theorem Wu (f:Fn):PV.cells (.fn f)=[.fn f]:=rfl
theorem QZ (f:Fn):AV.cells (.v (.fn f))=[.v (.fn f)]:=rfl
theorem Wz (f:Fn):PV.one (.fn f)=true:=rfl
theorem Q7 (f:Fn):AV.ot (.v (.fn f))=true:=rfl
theorem Ss:PV.cells (.fn0)=[.fn0]:=rfl
theorem Mq:AV.cells (.v (.fn0))=[.v (.fn0)]:=rfl
theorem Sx:PV.one (.fn0)=true:=rfl
theorem Mv:AV.ot (.v (.fn0))=true:=rfl
theorem Wv:PV.cells (.p0)=[.p0]:=rfl
theorem Q0:AV.cells (.v (.p0))=[.v (.p0)]:=rfl
theorem WA:PV.one (.p0)=true:=rfl
theorem Q8:AV.ot (.v (.p0))=true:=rfl
theorem St:PV.cells (.if0)=[.if0]:=rfl
theorem Mr:AV.cells (.v (.if0))=[.v (.if0)]:=rfl
theorem Sy:PV.one (.if0)=true:=rfl
theorem Mw:AV.ot (.v (.if0))=true:=rfl
theorem Su (t:TypeId) (v:PV):PV.cells (.ifc t v)=[.ifc t v]:=rfl
theorem Ms (t:TypeId) (v:PV):AV.cells (.v (.ifc t v))=[.v (.ifc t v)]:=rfl
theorem Sz (t:TypeId) (v:PV):PV.one (.ifc t v)=true:=rfl
theorem Mx (t:TypeId) (v:PV):AV.ot (.v (.ifc t v))=true:=rfl
theorem Sw (l:List PV):PV.one (.agg l)=false:=rfl
theorem Mp (l:List PV):AV.cells (.v (.agg l))=l.map .v:=rfl
theorem Mu (l:List PV):AV.ot (.v (.agg l))=true:=rfl
theorem XV (n v o:Nat):AV.cells (.p n v o)=[.p n v o]:=rfl
theorem XZ (n v o:Nat):AV.ot (.p n v o)=true:=rfl
theorem X2 (n v o:Nat):AV.one (.p n v o)=true:=rfl
theorem UL (x:PV) (o:Nat):AV.cells (.pp x o)=[.pp x o]:=rfl
theorem UW (x:PV) (o:Nat):AV.ot (.pp x o)=true:=rfl
theorem U6 (x:PV) (o:Nat):AV.one (.pp x o)=true:=rfl
theorem UM (n v o l z:Nat):AV.cells (.rs n v o l z)=[.rs n v o l z]:=rfl
theorem UX (n v o l z:Nat):AV.ot (.rs n v o l z)=true:=rfl
theorem U7 (n v o l z:Nat):AV.one (.rs n v o l z)=true:=rfl
theorem UJ (l:List PV):AV.cells (.fs l)=[.fs l]:=rfl
theorem UT (l:List PV):AV.ot (.fs l)=true:=rfl
theorem U4 (l:List PV):AV.one (.fs l)=true:=rfl
theorem UN:AV.cells (.sn)=[.sn]:=rfl
theorem UY:AV.ot (.sn)=true:=rfl
theorem U8:AV.one (.sn)=true:=rfl
theorem UI (f:Fn) (a c:List AV):AV.cells (.fn f a c)=[.fn f a c]:=rfl
theorem US (f:Fn) (a c:List AV):AV.ot (.fn f a c)=true:=rfl
theorem U3 (f:Fn) (a c:List AV):AV.one (.fn f a c)=true:=rfl
theorem Ww (x:PV) (o:Nat):PV.cells (.pt x o)=[.pt x o]:=rfl
theorem Q1 (x:PV) (o:Nat):AV.cells (.v (.pt x o))=[.v (.pt x o)]:=rfl
theorem WC (x:PV) (o:Nat):PV.one (.pt x o)=true:=rfl
theorem Q9 (x:PV) (o:Nat):AV.ot (.v (.pt x o))=true:=rfl
theorem Wt (f:FuncId) (a c:List PV):PV.cells (.fc f a c)=[.fc f a c]:=rfl
theorem QY (f:FuncId) (a c:List PV):AV.cells (.v (.fc f a c))=[.v (.fc f a c)]:=rfl
theorem Wy (f:FuncId) (a c:List PV):PV.one (.fc f a c)=true:=rfl
theorem Q6 (f:FuncId) (a c:List PV):AV.ot (.v (.fc f a c))=true:=rfl
theorem UO:AV.cells (.ub)=[.ub]:=rfl
theorem UZ:AV.ot (.ub)=true:=rfl
theorem U9:AV.one (.ub)=true:=rfl
theorem UK (n:Nat):AV.cells (.mp n)=[.mp n]:=rfl
theorem UU (n:Nat):AV.ot (.mp n)=true:=rfl
theorem U5 (n:Nat):AV.one (.mp n)=true:=rfl
theorem XX:AV.cells (.u)=[.u]:=rfl
theorem X1:AV.ot (.u)=false:=rfl
theorem X3:AV.one (.u)=false:=rfl
theorem QX (l:List AV):AV.cells (.tup l)=[.tup l]:=rfl
theorem Q5 (l:List AV):AV.ot (.tup l)=false:=rfl
theorem Rc (l:List AV):AV.one (.tup l)=false:=rfl
theorem QW (l:List AV):AV.cells (.agg l)=l:=rfl
theorem Q4 (l:List AV):AV.ot (.agg l)=l.all AV.one:=rfl
theorem Rb (l:List AV):AV.one (.agg l)=false:=rfl
theorem X4 (x:PV):AV.one (.v x)=x.one:=rfl
theorem Q3 (l:List AV):AV.isAgg (.agg l)=True:=rfl
theorem XY (l:List PV):AV.isAgg (.v (.agg l))=True:=rfl
attribute [irreducible] KW CW RW OW CR GR BX PX CV yL Qe
def Vu:Nat->List PV->List (Nat×AV)
 | _,[]=>[]
 |i,x::l=>(i, .v x)::Vu (i+1) l
def KA:Nat->List AV->List (Nat×AV)
 | _,[]=>[]
 |i,x::l=>(i,x)::KA (i+1) l
def KB:Nat->List aJ->List (Nat×aJ)
 | _,[]=>[]
 |i,x::l=>(i,x)::KB (i+1) l
theorem Vv (l:List PV):l.mapIdx (fun i x=>(i,AV.v x))=Vu 0 l:=by
 have: ∀(l:List PV) (k:Nat),l.mapIdx (fun i x=>(i+k,AV.v x))=Vu k l:=by
  intro l
  induction l with
  |nil=>intro k;rfl
  |cons x l ih=>
   intro k;rw[nU,Vu,<-ih (k+1)];have e:(fun i (x:PV)=>(i+1+k,AV.v x))=fun i x=>(i+(k+1),AV.v x):=by funext i x;congr 1;omega
   rw[e];simp
 exact this l 0
theorem Rx (l:List AV):l.mapIdx (fun i x=>(i,x))=KA 0 l:=by
 have: ∀(l:List AV) (k:Nat),l.mapIdx (fun i x=>(i+k,x))=KA k l:=by
  intro l
  induction l with
  |nil=>intro k;rfl
  |cons x l ih=>
   intro k;rw[nU,KA,<-ih (k+1)];have e:(fun i (x:AV)=>(i+1+k,x))=fun i x=>(i+(k+1),x):=by funext i x;congr 1;omega
   rw[e];simp
 exact this l 0
theorem Ry (l:List aJ):l.mapIdx (fun i x=>(i,x))=KB 0 l:=by
 have: ∀(l:List aJ) (k:Nat),l.mapIdx (fun i x=>(i+k,x))=KB k l:=by
  intro l
  induction l with
  |nil=>intro k;rfl
  |cons x l ih=>
   intro k;rw[nU,KB,<-ih (k+1)];have e:(fun i (x:aJ)=>(i+1+k,x))=fun i x=>(i+(k+1),x):=by funext i x;congr 1;omega
   rw[e];simp
 exact this l 0
theorem qX.w {P:Program} [cM P] (hm:P.follows .mixedOrders=true) {f:FuncId} {fn:Func} {sc:SC} {rs:List qn} (hent:Enters P f f) (hfn:P.funcs[f]?=some fn) (hb:fn.body.isSome=true) (hc:comp P fn.ntmps (fn.body.getD .skip)=some sc) (hr:gS P fn.results.toList=some rs)
  {args:List PV} {r:PV} (hlen:Nat.ble args.length fn.ntmps=true) (h:CW P (J6 rs r) sc [] ⟨Vu 0 args,[],1000⟩):qX P f args r:=
 qX.mk' hm hent hfn hb hc hr (dr hlen) (by rw[Vv];exact CW.start h)
theorem j4.w {P:Program} [cM P] (hm:P.follows .mixedOrders=true) {f:FuncId} {fn:Func} {sc:SC} {rs:List qn} (hent:Enters P f f) (hfn:P.funcs[f]?=some fn) (hb:fn.body.isSome=true) (hc:comp P fn.ntmps (fn.body.getD .skip)=some sc) (hr:gS P fn.results.toList=some rs)
  {obs:List aJ} {args:List AV} {fs:List (Option (Option aJ))} {j:Option Nat} {nw:Option aJ} {v:AV} (hlen:Nat.ble args.length fn.ntmps=true) (h:CW P (iQ rs obs fs j nw v) sc [] ⟨KA 0 args,KB 0 obs,1000⟩)
  {ns:List Nat} {nm:Nat} {obsA:List aJ} {avs:List AV} {v':AV} {up:List (Nat×Option aJ)} (hns:ns.length<=1000) (hnd:ns.Nodup) (hln:ns.length=obsA.length) (hob:bc (aJ.aX (dz ns)) obsA=some obs) (hav:bc (AV.aX (dz ns)) avs=some args)
  (hv:v.aX (gR ns nm)=some v') (hup:fL ns nm fs nw=some up):j4 P f nm (ns.zip obsA) avs v' up:=
 j4.mk' hm hent hfn hb hc hr (dr hlen) (by rw[Rx,Ry];exact h) hns hnd hln hob hav hv hup
attribute [go_sem] Bool.not_true Bool.not_false eq_self implies_true imp_false not_false_eq_true Qt Uj Ug Qq Qs Qr Ui Uh Uq QF QE QG QC QB QD Uo Un Up QA XN AV.off AV.off.offL Us Ur Ut qQ Uy XQ XW XP QI QH aav XE XA XD Xz L6 aas XK XF XB To Tn Uc aap aaq XC aaA aaz Km Kn PG PH fj dy dT SX.ev aS Gy H7 aC NC Ft lC AS.tc AS.set RL S5 QK aUn XU QM QP QO QL QQ lenOf bounds qR tR AV.YV AV.xR AV.L4 qc jy bc Sr YW UP YZ U0 YX UQ Y1 U1 YY UR Y2 U2 Sv Mt SA My Wx Q2 WD Ra Wu QZ Wz Q7 Ss Mq Sx Mv Wv Q0 WA Q8 St Mr Sy Mw Su Ms Sz Mx Sw Mp Mu XV XZ X2 UL UW U6 UM UX U7 UJ UT U4 UN UY U8 UI US U3 XX X1 X3 UK UU U5 QX Q5 Rc QW Q4 Rb X4 Q3 XY u8 allM_nil allM_cons Vj zu QS J8 Ht ne_eq Int.cast_ofNat_Int X8 X9 List.flatten_cons List.flatten_nil List.flatMap_cons List.flatMap_nil IntKind.bits Nat.min_def List.take_length DF List.length_map IntWalk.i64_in IntWalk.u8_in IntWalk.u64_in decide_true decide_false Int.toNat_natCast Int.toNat_zero Int.toNat_one ite_true ite_false List.length_cons List.length_nil List.map_cons List.map_nil List.all_cons List.all_nil Bool.and_true Bool.true_and Bool.and_self Option.map_some Option.map_none List.take_succ_cons List.take_zero List.drop_succ_cons List.drop_zero List.take_nil List.drop_nil List.getD_cons_zero List.getD_cons_succ List.nil_append List.cons_append List.append_nil Nat.zero_add Nat.add_zero Nat.le_refl true_and and_true and_self true_implies forall_const Nat.mul_one Nat.one_mul Tw ko jw kj G3 List.isEmpty_cons List.isEmpty_nil Bool.or_true Bool.true_or Bool.false_or Bool.or_false Bool.and_false Bool.false_and J6 LI HY view zN Mh Mg QR Mi Vu KA KB AV.nz PV.nz Ww Q1 WC Q9 Wt QY Wy Q6 UO UZ U9 XH XI
