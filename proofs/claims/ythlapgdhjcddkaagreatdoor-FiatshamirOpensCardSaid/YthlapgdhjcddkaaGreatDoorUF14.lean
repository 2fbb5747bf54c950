/- Part of the proof. -/
import Derived.IntWalk
import Derived.Attr
import Derived.Test.YthlapgdhjcddkaaGreatDoorUF13
set_option linter.all false
namespace Go.Dom
open Go.RowKit
inductive Fr where
 |seq (b:SC)
 |blk (id:Nat)
 |lp (R:AS->Prop)
 |asg (b:SC)
 |rg (t0:List (Nat×AV)) (R:AS->Prop)
 |bk (ns:List Nat) (t0:List (Nat×AV)) (obs:List (Nat×Option aI))
def KW (P:Program) [cW P] (Q:AX->AS->Prop):List Fr->AX->AS->Prop
 |[],e,s=>Q e s
 | .seq b::K, .normal,s=>aw P b (KW P Q K) s
 | .seq _::K, .exit j,s=>KW P Q K (.exit j) s
 | .seq _::K, .ret,s=>KW P Q K .ret s
 | .blk _::K, .normal,s=>KW P Q K .normal s
 | .blk id::K, .exit j,s=>if j=id then KW P Q K .normal s else KW P Q K (.exit j) s
 | .blk _::K, .ret,s=>KW P Q K .ret s
 | .lp R:: _, .normal,s=>R s
 | .lp _::K, .exit j,s=>KW P Q K (.exit j) s
 | .lp _::K, .ret,s=>KW P Q K .ret s
 | .asg b::K, .normal,s=>aw P b (KW P Q K) s
 | .asg _:: _, .exit _,_=>False
 | .asg _:: _, .ret,_=>False
 | .bk ns t0 obs::K,e,s=>(∀p∈s.h,∀c∈p.2.cells,c.off ns=true)/\KW P Q K e ⟨t0,my s.h obs,s.nx⟩
 | .rg t0 R:: _, .normal,s=>R {s with t:=t0}
 | .rg t0 _::K, .exit j,s=>KW P Q K (.exit j) {s with t:=t0}
 | .rg t0 _::K, .ret,s=>KW P Q K .ret {s with t:=t0}
section
variable (P:Program) [cW P] (Q:AX->AS->Prop)
def CW (sc:SC) (K:List Fr) (s:AS):Prop:=aw P sc (KW P Q K) s
def Sd (bf:Option (List Nat)) (tr:List (Nat×List Nat×List Nat)):Prop:=
 match bf with
 |none=>True
 |some b=>QX b tr=true
def xJ (bf:Option (List Nat)) (k:Nat) (rs:List Nat) (up:List (Nat×Option aI)) (tr:List (Nat×List Nat×List Nat)):List (Nat×List Nat×List Nat):=
 match bf with
 |none=>[]
 |some _=>(k,rs,up.map (·.1))::tr
def RW (nx:Nat) (bf:Option (List Nat)) (n:Nat) (ops:List j9) (k:Nat) (s:AS) (tr:List (Nat×List Nat×List Nat)) (K:List Fr):Prop:=
 match bf with
 |none=>sN P nx ops k s fun s'=>KW P Q K .normal {s' with nx:=n}
 |some b=>BF P nx ops k s tr fun s' tr=>QX b tr=true/\KW P Q K .normal {s' with nx:=n}
def OW (nx:Nat) (bf:Option (List Nat)) (n:Nat) (x:Option AO) (d:Option Nat) (ops:List j9) (k:Nat) (s:AS) (tr:List (Nat×List Nat×List Nat)) (K:List Fr):Prop:=
 Lh x fun ao=>RW P Q nx bf n ops (k+1) (s.sM d ao.v ao.up) (xJ bf k ao.rs ao.up tr) K
def CR (nx:Nat) (bf:Option (List Nat)) (n:Nat) (nm:Nat) (fv:AV) (avs:List AV) (d:Option Nat) (ops:List j9) (k:Nat) (s:AS) (tr:List (Nat×List Nat×List Nat)) (K:List Fr):Prop:=
 IJ P nm s.h fv avs fun ao=>RW P Q nx bf n ops (k+1) (s.sM d ao.v ao.up) (xJ bf k ao.rs ao.up tr) K
def GR (nx:Nat) (bf:Option (List Nat)) (n:Nat) (v:AV) (t:Nat) (want:Bool) (d:Option Nat) (o:SO) (ops:List j9) (k:Nat) (s:AS) (tr:List (Nat×List Nat×List Nat)) (K:List Fr):Prop:=
 SJ v t want s (fun s=>RW P Q nx bf n (⟨d,o,none⟩::ops) k s tr K) (fun s=>RW P Q nx bf n ops (k+1) (s.sM d (.v (.tup [])) []) (xJ bf k [] [] tr) K)
def CV (v:AV) (a b:SC) (K:List Fr) (s:AS):Prop:=I5 v (CW P Q a K s) (CW P Q b K s)
inductive BK where
 |cw (a b:SC) (K:List Fr) (s:AS)
 |gd (nx:Nat) (bf:Option (List Nat)) (n:Nat) (t:Nat) (want:Bool) (d:Option Nat) (o:SO) (ops:List j9) (k:Nat) (s:AS) (tr:List (Nat×List Nat×List Nat)) (K:List Fr)
 |ng (κ:BK)
def BX (c:Bool):BK->Prop
 | .cw a b K s=>zG c (CW P Q a K s) (CW P Q b K s)
 | .gd nx bf n t want d o ops k s tr K=>GR P Q nx bf n (.v (.b c)) t want d o ops k s tr K
 | .ng κ=>BX (!c) κ
def PX (p:Prop) (κ:BK):Prop:=(p->BX P Q true κ)/\(¬p->BX P Q false κ)
def QV (ps:List Nat) (a b:SC) (K:List Fr) (t0:List (Nat×AV)) (N:Nat) (fin:Bool) (xs:List (List PV)) (s:AS):Prop:=
 Zh (fun y Qx s1=>aw P a (fun e s2=>match e with
  | .normal=>aw P b Qx s2
  | _=>False) {s1 with t:=rk s1.t ps y}) (KW P Q K) t0 N fin xs s
def zA (a:SC) (K:List Fr) (N:Nat) (s:AS):Prop:=xp (aw P a) (KW P Q K) N s
variable {P Q}
variable {κ:BK}
theorem CW.start {sc:SC} {s:AS} (h:CW P Q sc [] s):aw P sc Q s:=by
 have:KW P Q []=Q:=by funext e s;rfl
 unfold CW at h;rw[this]at h;exact h
theorem jS.mk' {f:FuncId} {fn:Func} {sc:SC} {rs:List qK} (hm:P.follows .mixedOrders=true) (hent:Enters P f f) (hfn:P.funcs[f]?=some fn) (hb:fn.body.isSome=true) (hc:comp P fn.ntmps (fn.body.getD .skip)=some sc) (hr:iu P fn.results.toList=some rs)
  {obs:List aI} {args:List AV} {fs:List (Option (Option aI))} {j:Option Nat} {nw:Option aI} {v:AV} (hlen:args.length<=fn.ntmps) (h:CW P (gX rs obs fs j nw v) sc [] ⟨args.mapIdx (fun i x=>(i,x)),obs.mapIdx (fun i x=>(i,x)),1000⟩)
  {ns:List Nat} {nm:Nat} {obsA:List aI} {avs:List AV} {v':AV} {up:List (Nat×Option aI)} (hns:ns.length<=1000) (hnd:ns.Nodup) (hln:ns.length=obsA.length) (hob:bA (aI.aR (dq ns)) obsA=some obs) (hav:bA (AV.aR (dq ns)) avs=some args)
  (hv:v.aR (ie ns nm)=some v') (hup:fh ns nm fs nw=some up):jS P f nm (ns.zip obsA) avs v' up:=by
 obtain⟨code,hcode⟩:=vG.1 hb;rw[hcode]at hc;exact jS.O0 hm hent hfn hcode hc hr hlen (CW.start h) hns hnd hln hob hav hv hup
theorem Rc (K:List Fr) (s:AS):CW P Q .skip K s=KW P Q K .normal s:=rfl
theorem Vy (a b:SC) (K:List Fr) (s:AS):CW P Q (.seq a b) K s=CW P Q a (.seq b::K) s:=by
 simp only[CW,aw];congr 1
 funext e s'
 cases e<;>rfl
theorem Vv (id:Nat) (a:SC) (K:List Fr) (s:AS):CW P Q (.blk id a) K s=CW P Q a (.blk id::K) s:=by
 simp only[CW,aw];congr 1
 funext e s'
 cases e<;>rfl
theorem Q9 (x:SX) (a b:SC) (K:List Fr) (s:AS):CW P Q (.cond x a b) K s=CV P Q (x.ev (aO s.t)) a b K s:=rfl
theorem abN (c:Bool) (a b:SC) (K:List Fr) (s:AS):CV P Q (.v (.b c)) a b K s=BX P Q c (.cw a b K s):=rfl
theorem Y7 (a b:SC) (K:List Fr) (s:AS):BX P Q true (.cw a b K s)=CW P Q a K s:=by simp only[BX,th]
theorem Y3 (a b:SC) (K:List Fr) (s:AS):BX P Q false (.cw a b K s)=CW P Q b K s:=by simp only[BX,qN]
theorem Uw (κ:BK):BX P Q true (.ng κ)=BX P Q false κ:=by simp only[BX,dy]
theorem Uv (κ:BK):BX P Q false (.ng κ)=BX P Q true κ:=by simp only[BX,dW]
theorem Vs (c:Bool) (κ:BK):BX P Q (!c) κ=BX P Q c (.ng κ):=by simp only[BX]
theorem Q6 {c:Bool} (h:c=true):BX P Q c κ=BX P Q true κ:=by rw[h]
theorem Q5 {c:Bool} (h:c=false):BX P Q c κ=BX P Q false κ:=by rw[h]
theorem Mj {p:Prop} (h:p):PX P Q p κ=BX P Q true κ:=by simp only[PX,h,true_implies,qw,false_implies,and_true]
theorem Mi {p:Prop} (h: ¬p):PX P Q p κ=BX P Q false κ:=by simp only[PX,h,false_implies,E4,true_implies,sF]
theorem abX (κ:BK):PX P Q True κ=BX P Q true κ:=Mj trivial
theorem abW (κ:BK):PX P Q False κ=BX P Q false κ:=Mi id
theorem abJ (p:Prop) [Decidable p] (κ:BK):BX P Q (decide p) κ=PX P Q p κ:=by
 by_cases h:p
 ·rw[Q6 (aQ h),Mj h]
 ·rw[Q5 (aS h),Mi h]
theorem abK (x y:Int) (κ:BK):BX P Q (x==y) κ=PX P Q (x=y) κ:=by
 by_cases h:x=y
 ·rw[Q6 (by simpa using h),Mj h]
 ·rw[Q5 (by simpa using h),Mi h]
theorem Y4 (x y:Int) (κ:BK):BX P Q (x !=y) κ=PX P Q (x=y) (.ng κ):=by
 by_cases h:x=y
 ·rw[Q5 (by simpa using h),Mj h,Uw]
 ·rw[Q6 (by simpa using h),Mi h,Uv]
theorem BX.mk {c:Bool} (h1:c=true->BX P Q true κ) (h2:c=false->BX P Q false κ):BX P Q c κ:=by
 cases c
 ·exact h2 rfl
 ·exact h1 rfl
theorem PX.mk {p:Prop} (h1:p->BX P Q true κ) (h2: ¬p->BX P Q false κ):PX P Q p κ:=⟨h1,h2⟩
theorem Za (a b:SC) (K:List Fr) (s:AS):CV P Q .ub a b K s=(CW P Q a K s/\CW P Q b K s):=rfl
theorem Rb (a:SC) (K:List Fr) (s:AS):CW P Q (.loop a) K s=zA P Q a K s.nx s:=rfl
theorem Ra (id:Nat) (K:List Fr) (s:AS):CW P Q (.exit id) K s=KW P Q K (.exit id) s:=rfl
theorem Vx (K:List Fr) (s:AS):CW P Q .ret K s=KW P Q K .ret s:=rfl
theorem Vw (bf:Option (List Nat)) (ops:List j9) (K:List Fr) (s:AS):CW P Q (.reg bf ops) K s=RW P Q s.nx bf (s.nx+ops.length) ops 0 s [] K:=by
 cases bf<;>rfl
theorem VF (e:AX) (s:AS):KW P Q [] e s=Q e s:=rfl
theorem Rn (b:SC) (K:List Fr) (s:AS):KW P Q (.seq b::K) .normal s=CW P Q b K s:=rfl
theorem Rl (b:SC) (K:List Fr) (j:Nat) (s:AS):KW P Q (.seq b::K) (.exit j) s=KW P Q K (.exit j) s:=rfl
theorem Rp (b:SC) (K:List Fr) (s:AS):KW P Q (.seq b::K) .ret s=KW P Q K .ret s:=rfl
theorem Rj (i:Nat) (K:List Fr) (s:AS):KW P Q (.blk i::K) .normal s=KW P Q K .normal s:=rfl
theorem Ri (i:Nat) (K:List Fr) (j:Nat) (s:AS):KW P Q (.blk i::K) (.exit j) s=if j=i then KW P Q K .normal s else KW P Q K (.exit j) s:=rfl
theorem Rk (i:Nat) (K:List Fr) (s:AS):KW P Q (.blk i::K) .ret s=KW P Q K .ret s:=rfl
theorem Mb {x:SX} {ps:List Nat} {a b:SC} {K:List Fr} {s:AS} {g:FuncId} {caps:List PV} {fin:Bool} {xs:List (List PV)} (hi:ItP P g caps fin xs) (hx:x.ev (aO s.t)= .v (.fc g [] caps)) (hl: ∀y∈xs,y.length=ps.length) (h:QV P Q ps a b K s.t s.nx fin xs s):CW P Q (.rng x ps a b) K s:=by
 have e:sO [] s (KW P Q K)=KW P Q K:=by funext e s';simp[sO]
 refine⟨g,caps,fin,xs,[],by rw[hx];rfl,by rw[hx];simp[aW],by simp,hi,fun y hy=>⟨hl y hy, .inl rfl⟩,?_⟩
 rw[e];exact h
section
variable {ps:List Nat} {a b:SC} {K:List Fr} {t0:List (Nat×AV)} {N:Nat} {s:AS} {fin:Bool}
variable {xs ys:List (List PV)}
theorem Yg (h:KW P Q K .normal s):QV P Q ps a b K t0 N true [] s:=fun X h1 _ _=>h1 _ rfl h
theorem JV {s':AS} (hN:N<=s'.nx) (hle:s'.Le s) (h:QV P Q ps a b K t0 N fin ys s'):QV P Q ps a b K t0 N fin ys s:=fun X h1 h2 h3=>h3 ys s' s hN hle (h X h1 h2 h3)
theorem TY {y:List PV} (h:CW P Q a (.asg b:: .rg t0 (QV P Q ps a b K t0 N fin ys)::K) {s with t:=rk s.t ps y}):QV P Q ps a b K t0 N fin (y::ys) s:=by
 intro X h1 h2 h3;refine h2 y ys s (rC (fun e s2 hs=> ?_) h)
 cases e with
 |normal=>
  refine rC (fun e s3 hs3=> ?_) hs
  cases e with
  |normal=>exact hs3 X h1 h2 h3
  |exit j=>exact hs3
  |ret=>exact hs3
 |exit j=>exact hs
 |ret=>exact hs
theorem JU {α:Type} (st:α->AS) (ok:List (List PV)->α->Prop) (a0:α) (hN: ∀x,N<=(st x).nx) (h0:ok xs a0) (hle:(st a0).Le s) (hnil: ∀x,ok [] x->fin=true/\KW P Q K .normal (st x))
  (hcons: ∀y ys x,ok (y::ys) x-> ∀R:AS->Prop,(∀x',ok ys x'-> ∀s',(st x').Le s'->R s')->CW P Q a (.asg b:: .rg t0 R::K) {st x with t:=rk (st x).t ps y}):QV P Q ps a b K t0 N fin xs s:=by
 refine JV (hN a0) hle ?_;clear hle
 induction xs generalizing a0 with
 |nil=>
  obtain⟨rfl,h⟩:=hnil a0 h0;exact Yg h
 |cons y ys ih=>exact TY (hcons y ys a0 h0 _ fun x' hx' s' hs'=>JV (hN x') hs' (ih x' hx'))
theorem Yh {α:Type} (st:α->AS) (ok:List (List PV)->α->Prop) (a0:α) (hN: ∀x,N<=(st x).nx) (h0:ok xs a0) (hle:(st a0).Le s) (hnil: ∀x,ok [] x->KW P Q K .normal (st x))
  (hcons: ∀y ys x,ok (y::ys) x-> ∀R:AS->Prop,(∀x',ok ys x'-> ∀s',(st x').Le s'->R s')->CW P Q a (.asg b:: .rg t0 R::K) {st x with t:=rk (st x).t ps y}):QV P Q ps a b K t0 N true xs s:=
 JU st ok a0 hN h0 hle (fun x h=>⟨rfl,hnil x h⟩) hcons
theorem TZ {α:Type} (st:α->AS) (ok:List (List PV)->α->Prop) (a0:α) (hN: ∀x,N<=(st x).nx) (h0:ok xs a0) (hle:(st a0).Le s) (hnil: ∀x,¬ok [] x)
  (hcons: ∀y ys x,ok (y::ys) x-> ∀R:AS->Prop,(∀x',ok ys x'-> ∀s',(st x').Le s'->R s')->CW P Q a (.asg b:: .rg t0 R::K) {st x with t:=rk (st x).t ps y}):QV P Q ps a b K t0 N false xs s:=
 JU st ok a0 hN h0 hle (fun x h=>(hnil x h).elim) hcons
end
theorem Rh (b:SC) (K:List Fr) (s:AS):KW P Q (.asg b::K) .normal s=CW P Q b K s:=rfl
theorem Zd (ns:List Nat) (t0:List (Nat×AV)) (obs:List (Nat×Option aI)) (K:List Fr) (e:AX) (s:AS):KW P Q (.bk ns t0 obs::K) e s=((∀p∈s.h,∀c∈p.2.cells,c.off ns=true)/\KW P Q K e ⟨t0,my s.h obs,s.nx⟩):=rfl
theorem VH (t0:List (Nat×AV)) (R:AS->Prop) (K:List Fr) (s:AS):KW P Q (.rg t0 R::K) .normal s=R ⟨t0,s.h,s.nx⟩:=rfl
theorem VG (t0:List (Nat×AV)) (R:AS->Prop) (K:List Fr) (j:Nat) (s:AS):KW P Q (.rg t0 R::K) (.exit j) s=KW P Q K (.exit j) ⟨t0,s.h,s.nx⟩:=rfl
theorem VI (t0:List (Nat×AV)) (R:AS->Prop) (K:List Fr) (s:AS):KW P Q (.rg t0 R::K) .ret s=KW P Q K .ret ⟨t0,s.h,s.nx⟩:=rfl
theorem VD (R:AS->Prop) (K:List Fr) (s:AS):KW P Q (.lp R::K) .normal s=R s:=rfl
theorem VC (R:AS->Prop) (K:List Fr) (j:Nat) (s:AS):KW P Q (.lp R::K) (.exit j) s=KW P Q K (.exit j) s:=rfl
theorem VE (R:AS->Prop) (K:List Fr) (s:AS):KW P Q (.lp R::K) .ret s=KW P Q K .ret s:=rfl
section
variable (nx:Nat) (bf:Option (List Nat)) (n:Nat) (d:Option Nat) (ops:List j9) (k:Nat) (s:AS) (tr:List (Nat×List Nat×List Nat)) (K:List Fr)
variable {avs:List AV} {f:FuncId} {nm:Nat} {pvs:List PV}
theorem VO:RW P Q nx bf n [] k s tr K=(Sd bf tr/\KW P Q K .normal {s with nx:=n}):=by
 cases bf
 ·simp only[RW,sN,Sd,sF]
 ·rfl
def XW (P:Program) [cW P] (Q:AX->AS->Prop) (nx:Nat) (bf:Option (List Nat)) (n:Nat) (o:SO) (d:Option Nat) (ops:List j9) (k:Nat) (s:AS) (tr:List (Nat×List Nat×List Nat)) (K:List Fr):Prop:=
 match o with
 | .call f args=>CR P Q nx bf n (nx+k) (f.ev (aO s.t)) (args.map (SX.ev (aO s.t))) d ops k s tr K
 |o=>OW P Q nx bf n (fE (nx+k) o (aO s.t) (az s.h)) d ops k s tr K
theorem Zg (o:SO):RW P Q nx bf n (⟨d,o,none⟩::ops) k s tr K=XW P Q nx bf n o d ops k s tr K:=by
 cases o<;>cases bf<;>rfl
theorem Zf (o:SO) (t:Nat) (want:Bool):RW P Q nx bf n (⟨d,o,some (t,want)⟩::ops) k s tr K=GR P Q nx bf n (aO s.t t) t want d o ops k s tr K:=by
 cases bf<;>rfl
theorem Rt (v:AV) (p:Prop) (rs:List Nat) (up:List (Nat×Option aI)):OW P Q nx bf n (some ⟨v,p,rs,up⟩) d ops k s tr K=(p/\RW P Q nx bf n ops (k+1) (s.sM d v up) (xJ bf k rs up tr) K):=rfl
theorem Rs:OW P Q nx bf n none d ops k s tr K=False:=rfl
theorem abQ (x:Bool) (t:Nat) (want:Bool) (o:SO):GR P Q nx bf n (.v (.b x)) t want d o ops k s tr K=BX P Q x (.gd nx bf n t want d o ops k s tr K):=rfl
theorem Y6 (t:Nat) (o:SO):BX P Q true (.gd nx bf n t true d o ops k s tr K)=RW P Q nx bf n (⟨d,o,none⟩::ops) k (s.set t (.v (.b true))) tr K:=by simp only[BX,GR,SJ,th]
theorem Y2 (t:Nat) (o:SO):BX P Q false (.gd nx bf n t true d o ops k s tr K)=RW P Q nx bf n ops (k+1) ((s.set t (.v (.b false))).sM d (.v (.tup [])) []) (xJ bf k [] [] tr) K:=by simp only[BX,GR,SJ,qN]
theorem Y5 (t:Nat) (o:SO):BX P Q true (.gd nx bf n t false d o ops k s tr K)=RW P Q nx bf n ops (k+1) ((s.set t (.v (.b true))).sM d (.v (.tup [])) []) (xJ bf k [] [] tr) K:=by simp only[BX,GR,SJ,th]
theorem Y1 (t:Nat) (o:SO):BX P Q false (.gd nx bf n t false d o ops k s tr K)=RW P Q nx bf n (⟨d,o,none⟩::ops) k (s.set t (.v (.b false))) tr K:=by simp only[BX,GR,SJ,qN]
theorem Md (t:Nat) (want:Bool) (o:SO):GR P Q nx bf n (.v (.tup [])) t want d o ops k s tr K=RW P Q nx bf n ops (k+1) (s.sM d (.v (.tup [])) []) (xJ bf k [] [] tr) K:=by simp only[GR,SJ]
theorem Ks:Sd none tr=True:=rfl
theorem Kt (b:List Nat):Sd (some b) tr=(QX b tr=true):=rfl
theorem Qq (rs:List Nat) (up:List (Nat×Option aI)):xJ none k rs up tr=[]:=rfl
theorem Qr (b:List Nat) (rs:List Nat) (up:List (Nat×Option aI)):xJ (some b) k rs up tr=(k,rs,up.map (·.1))::tr:=rfl
theorem fX {nx:Nat} {bf:Option (List Nat)} {n:Nat} {d:Option Nat} {ops:List j9} {k:Nat} {s:AS} {tr:List (Nat×List Nat×List Nat)} {K:List Fr} {r:PV} (he:qG P f pvs r) (ha:o7 avs=some pvs) (hK:RW P Q nx bf n ops (k+1) (s.sM d (.v r) []) (xJ bf k [] [] tr) K):
  CR P Q nx bf n nm (.v (.fn (.func f))) avs d ops k s tr K:=⟨_, .pure f avs pvs r rfl ha he,hK⟩
theorem Y9 {nx:Nat} {bf:Option (List Nat)} {n:Nat} {d:Option Nat} {ops:List j9} {k:Nat} {s:AS} {tr:List (Nat×List Nat×List Nat)} {K:List Fr} {a c:List AV}:
  CR P Q nx bf n nm (.fn (.func f) a c) avs d ops k s tr K=CR P Q nx bf n nm (.v (.fn (.func f))) (a++(avs++c)) d ops k s tr K:=by
 have h: ∀ao,mL P nm (az s.h) (.fn (.func f) a c) avs ao↔mL P nm (az s.h) (.v (.fn (.func f))) (a++(avs++c)) ao:=by
  intro ao;constructor
  ·intro h
   cases h with
   |pure f avs pvs r hfv hargs he=>exact .pure f avs pvs r hfv hargs he
   |view f avs pvs r hfv hargs hr he=>exact .view f avs pvs r hfv hargs hr he
   |k9 f avs pvs r hfv hargs hlo he=>exact .k9 f avs pvs r hfv hargs hlo he
   |eff f avs hs v up hfv hhs he=>exact .eff f avs hs v up hfv hhs he
   |same f v hfv he=>exact .same f v hfv he
   |ext f avs pvs r hfv hargs he=>exact .ext f avs pvs r hfv hargs he
  ·intro h
   cases h with
   |pure f avs pvs r hfv hargs he=>exact .pure f avs pvs r hfv hargs he
   |view f avs pvs r hfv hargs hr he=>exact .view f avs pvs r hfv hargs hr he
   |k9 f avs pvs r hfv hargs hlo he=>exact .k9 f avs pvs r hfv hargs hlo he
   |eff f avs hs v up hfv hhs he=>exact .eff f avs hs v up hfv hhs he
   |same f v hfv he=>exact .same f v hfv he
   |ext f avs pvs r hfv hargs he=>exact .ext f avs pvs r hfv hargs he
 unfold CR IJ;simp only[h]
theorem Y8 {nx:Nat} {bf:Option (List Nat)} {n:Nat} {d:Option Nat} {ops:List j9} {k:Nat} {s:AS} {tr:List (Nat×List Nat×List Nat)} {K:List Fr} {a c:List PV}:
  CR P Q nx bf n nm (.v (.fc f a c)) avs d ops k s tr K=CR P Q nx bf n nm (.v (.fn (.func f))) (a.map .v++(avs++c.map .v)) d ops k s tr K:=by
 have h: ∀ao,mL P nm (az s.h) (.v (.fc f a c)) avs ao↔mL P nm (az s.h) (.v (.fn (.func f))) (a.map .v++(avs++c.map .v)) ao:=by
  intro ao;constructor
  ·intro h
   cases h with
   |pure f avs pvs r hfv hargs he=>exact .pure f avs pvs r hfv hargs he
   |view f avs pvs r hfv hargs hr he=>exact .view f avs pvs r hfv hargs hr he
   |k9 f avs pvs r hfv hargs hlo he=>exact .k9 f avs pvs r hfv hargs hlo he
   |eff f avs hs v up hfv hhs he=>exact .eff f avs hs v up hfv hhs he
   |same f v hfv he=>exact .same f v hfv he
   |ext f avs pvs r hfv hargs he=>exact .ext f avs pvs r hfv hargs he
  ·intro h
   cases h with
   |pure f avs pvs r hfv hargs he=>exact .pure f avs pvs r hfv hargs he
   |view f avs pvs r hfv hargs hr he=>exact .view f avs pvs r hfv hargs hr he
   |k9 f avs pvs r hfv hargs hlo he=>exact .k9 f avs pvs r hfv hargs hlo he
   |eff f avs hs v up hfv hhs he=>exact .eff f avs hs v up hfv hhs he
   |same f v hfv he=>exact .same f v hfv he
   |ext f avs pvs r hfv hargs he=>exact .ext f avs pvs r hfv hargs he
 unfold CR IJ;simp only[h]
theorem lO {nx:Nat} {bf:Option (List Nat)} {n:Nat} {d:Option Nat} {ops:List j9} {k:Nat} {s:AS} {tr:List (Nat×List Nat×List Nat)} {K:List Fr} {r:PV} (he:qG P f pvs r) (ha:bA (view (az s.h) 9) avs=some pvs) (hr:r.flat=true) (hK:RW P Q nx bf n ops (k+1) (s.sM d (.v r) []) (xJ bf k (avs.flatMap (aW (az s.h) 9)) [] tr) K):
  CR P Q nx bf n nm (.v (.fn (.func f))) avs d ops k s tr K:=⟨_, .view f avs pvs r rfl ha hr he,hK⟩
theorem II {nx:Nat} {bf:Option (List Nat)} {n:Nat} {d:Option Nat} {ops:List j9} {k:Nat} {s:AS} {tr:List (Nat×List Nat×List Nat)} {K:List Fr} {r:PV} (ns:List Nat) (he:qG P f pvs r) (hlo:ns.all (fun n=>decide (1000<=n))=true) (hv:avs.flatMap (aW (az s.h) 9)=ns) (ha:bA (view (az s.h) 9) avs=some pvs)
  (hK:RW P Q nx bf n ops (k+1) (s.sM d (.v r) (ns.map fun n=>(n,none))) (xJ bf k ns (ns.map fun n=>(n,none)) tr) K):
  CR P Q nx bf n nm (.v (.fn (.func f))) avs d ops k s tr K:=by
 subst hv;exact⟨_, .k9 f avs pvs r rfl ha (fun n hn=>of_decide_eq_true (bz.1 hlo n hn)) he,hK⟩
theorem bK {nx:Nat} {bf:Option (List Nat)} {n:Nat} {d:Option Nat} {ops:List j9} {k:Nat} {s:AS} {tr:List (Nat×List Nat×List Nat)} {K:List Fr} {hs:List (Nat×aI)} {v:AV} {up:List (Nat×Option aI)} (he:jS P f nm hs avs v up) (hh: ∀p∈hs,az s.h p.1=some p.2) (hK:RW P Q nx bf n ops (k+1) (s.sM d v up) (xJ bf k (hs.map (·.1)) up tr) K):
  CR P Q nx bf n nm (.v (.fn (.func f))) avs d ops k s tr K:=⟨_, .eff f avs hs v up rfl hh he,hK⟩
theorem Q7 {nx:Nat} {bf:Option (List Nat)} {n:Nat} {d:Option Nat} {ops:List j9} {k:Nat} {s:AS} {tr:List (Nat×List Nat×List Nat)} {K:List Fr} {v:AV} (he:EvS P f) (hK:RW P Q nx bf n ops (k+1) (s.sM d v []) (xJ bf k [] [] tr) K):
  CR P Q nx bf n nm (.v (.fn (.func f))) [v] d ops k s tr K:=⟨_, .same f v rfl he,hK⟩
end
variable {h h':List (Nat×aI)} {t t':List (Nat×AV)}
theorem Vu {nx:Nat} {bf:Option (List Nat)} {n:Nat} {d:Option Nat} {ops:List j9} {k:Nat} {s:AS} {tr:List (Nat×List Nat×List Nat)} {K:List Fr} {nm:Nat} {f:FuncId} {avs:List AV} {pvs:List PV} {r:PV} (he:EvX P f pvs r) (ha:o7 avs=some pvs) (hK:RW P Q nx bf n ops (k+1) (s.sM d (.v r) []) (xJ bf k [] [] tr) K):
  CR P Q nx bf n nm (.v (.fn (.func f))) avs d ops k s tr K:=⟨_, .ext f avs pvs r rfl ha he,hK⟩
theorem aq {a:SC} {K:List Fr} {N:Nat} {s:AS} (h:CW P Q a (.lp (zA P Q a K N)::K) s):zA P Q a K N s:=by
 refine xB (rC (fun e s' hs=> ?_) h)
 cases e<;>exact hs
theorem ah {a:SC} {K:List Fr} {N:Nat} {s:AS} {α:Type} (m:α->Nat) (st:α->AS) (ok:α->Prop) (a0:α) (hN: ∀x,N<=(st x).nx) (h0:ok a0) (hle:(st a0).Le s)
  (hr: ∀x,ok x-> ∀R:AS->Prop,(∀y,ok y->m y<m x-> ∀s',(st y).Le s'->R s')->CW P Q a (.lp R::K) (st x)):zA P Q a K N s:=by
 refine KV m st ok a0 hN h0 hle fun x hx=> ?_
 refine rC (fun e s' hs=> ?_) (hr x hx (fun s'=> ∃y,ok y/\m y<m x/\(st y).Le s') fun y h1 h2 s' h3=>⟨y,h1,h2,h3⟩)
 cases e<;>exact hs
def cU (t:List (Nat×AV)) (n:Nat):List (Nat×AV)->Prop
 |[]=>True
 |(k,v)::r=>aO t k=v/\v.bd n=true/\cU t n r
def cT (h:List (Nat×aI)) (n:Nat):List (Nat×aI)->Prop
 |[]=>True
 |(k,v)::r=>az h k=some v/\k<n/\(∀c∈v.cells,c.bd n=true)/\cT h n r
theorem AS.Le.ofF {n n':Nat} (z:List (Nat×PV)) (zh:List (Nat×aI)) (ns:List Nat) (hns: ∀m∈ns,1000<=m/\az (zh++h) m=none) (hz: ∀q∈z,view (az h') 9 (aO t' q.1)=some q.2/\ ∀m∈aW (az h') 9 (aO t' q.1),m∈ns) (hzh: ∀q∈zh,(∃ob,az h' q.1=some ob/\sX (az h') ns ob q.2)/\q.1<n/\ ∀c∈q.2.cells,c.bd n=true) (hn:n<=n') (ht:cU t' n t) (hh:cT h' n h):(AS.mk (z.map (fun q=>(q.1,AV.v q.2))++t) (zh++h) n).Le ⟨t',h',n'⟩:=by
 have h1: ∀(t:List (Nat×AV)),cU t' n t-> ∀p∈t,aO t' p.1=p.2/\p.2.bd n=true:=by
  intro t
  induction t with
  |nil=>intro _ p hp;cases hp
  |cons q t ih=>
   obtain⟨k,v⟩:=q;intro hq p hp;rcases cM.1 hp with rfl|hp
   ·exact⟨hq.1,hq.2.1⟩
   ·exact ih hq.2.2 p hp
 have h2: ∀(h:List (Nat×aI)),cT h' n h-> ∀p∈h,az h' p.1=some p.2/\p.1<n/\ ∀c∈p.2.cells,c.bd n=true:=by
  intro h
  induction h with
  |nil=>intro _ p hp;cases hp
  |cons q h ih=>
   obtain⟨k,v⟩:=q;intro hq p hp;rcases cM.1 hp with rfl|hp
   ·exact⟨hq.1,hq.2.1,hq.2.2.1⟩
   ·exact ih hq.2.2.2 p hp
 refine⟨⟨ns,hns,fun p hp=> ?_,fun p hp=> ?_⟩,hn,fun p hp=> ?_,fun p hp=> ?_⟩<;>rcases iA.1 hp with hp|hp
 ·obtain⟨q,hq,rfl⟩:=cx.1 hp;exact .inr ⟨q.2,rfl,(hz q hq).1,(hz q hq).2⟩
 ·exact .inl (h1 t ht p hp).1
 ·exact(hzh p hp).1
 ·exact⟨_,(h2 h hh p hp).1,sX.refl _ _ _⟩
 ·obtain⟨q,hq,rfl⟩:=cx.1 hp;rfl
 ·exact(h1 t ht p hp).2
 ·exact(hzh p hp).2
 ·exact(h2 h hh p hp).2
theorem AS.Le.ofZ {n n':Nat} (z:List (Nat×PV)) (ns:List Nat) (hns: ∀m∈ns,1000<=m/\az h m=none) (hz: ∀q∈z,view (az h') 9 (aO t' q.1)=some q.2/\ ∀m∈aW (az h') 9 (aO t' q.1),m∈ns) (hn:n<=n') (ht:cU t' n t) (hh:cT h' n h):(AS.mk (z.map (fun q=>(q.1,AV.v q.2))++t) h n).Le ⟨t',h',n'⟩:=AS.Le.ofF z [] ns hns hz (fun _ h=>by cases h) hn ht hh
theorem sX.snoc {hf:Nat->Option aI} {ns:List Nat} {v:Nat} {A:List AV} {x:AV} {z:PV} {g:Bool} {e:Option TypeId} (h:view hf 9 x=some z) (hn: ∀n∈aW hf 9 x,n∈ns):sX hf ns ⟨v,A++[x],g,e⟩ ⟨v,A++[.v z],g,e⟩:=by
 refine⟨rfl,rfl,rfl,by simp,fun j a b ha hb=> ?_⟩
 simp only at ha hb
 by_cases hj:j<A.length
 ·rw[sr hj]at ha hb;rw[ha]at hb;injection hb with hb;exact .inl hb.symm
 ·rw[r9 (by omega)]at ha hb
  have:j-A.length=0:=by
   have:=(dc.1 ha).1;simp at this;omega
  rw[this]at ha hb;simp only[List.getElem?_cons_zero,ar]at ha hb;subst ha;subst hb;exact .inr ⟨z,rfl,h,hn⟩
theorem AS.Le.of {n n':Nat} (hn:n<=n') (ht:cU t' n t) (hh:cT h' n h):(AS.mk t h n).Le ⟨t',h',n'⟩:=AS.Le.ofZ [] [] (fun _ h=>by cases h) (fun _ h=>by cases h) hn ht hh
end
theorem allM_nil {α:Type} (p:α->Prop):(∀x,x∈([]:List α)->p x)=True:=by simp
theorem allM_cons {α:Type} (a:α) (l:List α) (p:α->Prop):(∀x,x∈a::l->p x)=(p a/\ ∀x,x∈l->p x):=by simp
theorem Ws (k:IntKind) (n:Int):PV.byte (.i k n)=UInt8.ofNat n.toNat:=rfl
theorem Am (n:Int):PV.isByte (.i .u8 n)=True:=rfl
theorem RG (x:PV):AV.byte (.v x)=x.byte:=rfl
theorem Kg (x:PV):AV.isByte (.v x)=x.isByte:=rfl
theorem HX (c:UInt8):UInt8.ofNat c.toNat=c:=by simp
def aM (l:Bytes):List AV:=l.map fun c=> .v (u8 c)
theorem UG (l:Bytes):List.map (fun c:UInt8=>AV.v (PV.i IntKind.u8 (c.toNat:Int))) l=aM l:=rfl
theorem ny (l:Bytes):(aM l).length=l.length:=by simp[aM]
theorem kf (l:Bytes):List.take l.length (aM l)=aM l:=cQ (by simp[aM])
theorem kW (l m:Bytes):aM l++aM m=aM (l++m):=by simp[aM]
theorem Hs (l:Bytes):(∀y,y∈aM l->y.one=true)=True:=by
 simp only[eq_iff_iff,iff_true];intro y hy;obtain⟨c,-,rfl⟩:=cx.1 hy;rfl
theorem ak (l:Bytes) (n:Nat):(∀y,y∈aM l->y.bd n=true)=True:=by
 simp only[eq_iff_iff,iff_true];intro y hy;obtain⟨c,-,rfl⟩:=cx.1 hy;rfl
theorem mn (l:Bytes):(aM l).map AV.byte=l:=by
 induction l with
 |nil=>rfl
 |cons c l ih=>simp_all[aM,AV.byte,PV.byte,u8]
theorem Kj (l:Bytes):(∀y,y∈aM l->y= .v (u8 y.byte))=True:=by
 simp only[eq_iff_iff,iff_true];intro y hy;obtain⟨c,-,rfl⟩:=cx.1 hy;simp[AV.byte,PV.byte,u8]
theorem aG (f:Nat->Option Nat) (l:Bytes):AV.aR.renL f (aM l)=some (aM l):=by
 induction l with
 |nil=>rfl
 |cons c l ih=>
  have:AV.aR.renL f (AV.v (u8 c)::aM l)=some (AV.v (u8 c)::aM l):=by simp[AV.aR.renL,AV.aR,ih]
  exact this
theorem aK (k:Nat) (j:Option Nat) (s:AS) (l:Bytes):bA (fp k j s) (aM l)=some (aM l):=by
 induction l with
 |nil=>rfl
 |cons c l ih=>
  have:bA (fp k j s) (AV.v (u8 c)::aM l)=some (AV.v (u8 c)::aM l):=by simp[bA,fp,eA,view,ih]
  exact this
theorem ZB:((0:Nat):Int)=0:=rfl
theorem ZC:((1:Nat):Int)=1:=rfl
theorem Ee {α β:Type} (l:List α) (f:α->β):List.take l.length (l.map f)=l.map f:=by rw[<-au (f:=f),bm]
def cellsOf (l:List PV):List AV:=(l.flatMap PV.cells).map .v
theorem aj (l:List PV) (n:Nat):(∀c,c∈cellsOf l->c.bd n=true)=True:=by
 simp only[eq_iff_iff,iff_true];intro c hc;simp only[cellsOf,cx]at hc;obtain⟨y,-,rfl⟩:=hc;rfl
theorem iW (hf:Nat->Option aI) (f:Nat) (l:List PV):bA (view hf (f+1)) (l.map .v)=some l:=by
 induction l with
 |nil=>rfl
 |cons x l ih=>simp[bA,view,ih]
theorem Tw (l:List PV):PV.cells (.agg l)=l:=rfl
theorem aao (x:Bool):PV.cells (.b x)=[.b x]:=rfl
theorem V2 (x:Bool):AV.cells (.v (.b x))=[.v (.b x)]:=rfl
theorem aar (x:Bool):PV.one (.b x)=true:=rfl
theorem Wc (x:Bool):AV.ph (.v (.b x))=true:=rfl
theorem aap (k:IntKind) (n:Int):PV.cells (.i k n)=[.i k n]:=rfl
theorem V3 (k:IntKind) (n:Int):AV.cells (.v (.i k n))=[.v (.i k n)]:=rfl
theorem aas (k:IntKind) (n:Int):PV.one (.i k n)=true:=rfl
theorem Wd (k:IntKind) (n:Int):AV.ph (.v (.i k n))=true:=rfl
theorem aaq (x:Bytes):PV.cells (.s x)=[.s x]:=rfl
theorem V4 (x:Bytes):AV.cells (.v (.s x))=[.v (.s x)]:=rfl
theorem aat (x:Bytes):PV.one (.s x)=true:=rfl
theorem We (x:Bytes):AV.ph (.v (.s x))=true:=rfl
theorem TA (l:List PV):PV.cells (.tup l)=[.tup l]:=rfl
theorem MB (l:List PV):AV.cells (.v (.tup l))=[.v (.tup l)]:=rfl
theorem TF (l:List PV):PV.one (.tup l)=false:=rfl
theorem MG (l:List PV):AV.ph (.v (.tup l))=false:=rfl
theorem X1 (l:List PV):PV.cells (.sl l)=[.sl l]:=rfl
theorem RP (l:List PV):AV.cells (.v (.sl l))=[.v (.sl l)]:=rfl
theorem X6 (l:List PV):PV.one (.sl l)=true:=rfl
theorem RY (l:List PV):AV.ph (.v (.sl l))=true:=rfl
theorem XV (f:Fn):PV.cells (.fn f)=[.fn f]:=rfl
theorem RM (f:Fn):AV.cells (.v (.fn f))=[.v (.fn f)]:=rfl
theorem X3 (f:Fn):PV.one (.fn f)=true:=rfl
theorem RU (f:Fn):AV.ph (.v (.fn f))=true:=rfl
theorem Tx:PV.cells (.fn0)=[.fn0]:=rfl
theorem My:AV.cells (.v (.fn0))=[.v (.fn0)]:=rfl
theorem TC:PV.one (.fn0)=true:=rfl
theorem MD:AV.ph (.v (.fn0))=true:=rfl
theorem XY:PV.cells (.p0)=[.p0]:=rfl
theorem RN:AV.cells (.v (.p0))=[.v (.p0)]:=rfl
theorem X4:PV.one (.p0)=true:=rfl
theorem RV:AV.ph (.v (.p0))=true:=rfl
theorem Ty:PV.cells (.if0)=[.if0]:=rfl
theorem Mz:AV.cells (.v (.if0))=[.v (.if0)]:=rfl
theorem TD:PV.one (.if0)=true:=rfl
theorem ME:AV.ph (.v (.if0))=true:=rfl
theorem Tz (t:TypeId) (v:PV):PV.cells (.ifc t v)=[.ifc t v]:=rfl
theorem MA (t:TypeId) (v:PV):AV.cells (.v (.ifc t v))=[.v (.ifc t v)]:=rfl
theorem TE (t:TypeId) (v:PV):PV.one (.ifc t v)=true:=rfl
theorem MF (t:TypeId) (v:PV):AV.ph (.v (.ifc t v))=true:=rfl
theorem TB (l:List PV):PV.one (.agg l)=false:=rfl
theorem Mx (l:List PV):AV.cells (.v (.agg l))=l.map .v:=rfl
theorem MC (l:List PV):AV.ph (.v (.agg l))=true:=rfl
theorem Zm (n v o:Nat):AV.cells (.p n v o)=[.p n v o]:=rfl
theorem Zq (n v o:Nat):AV.ph (.p n v o)=true:=rfl
theorem Zs (n v o:Nat):AV.one (.p n v o)=true:=rfl
theorem VY (x:PV) (o:Nat):AV.cells (.pp x o)=[.pp x o]:=rfl
theorem V8 (x:PV) (o:Nat):AV.ph (.pp x o)=true:=rfl
theorem Wj (x:PV) (o:Nat):AV.one (.pp x o)=true:=rfl
theorem VZ (n v o l z:Nat):AV.cells (.rs n v o l z)=[.rs n v o l z]:=rfl
theorem V9 (n v o l z:Nat):AV.ph (.rs n v o l z)=true:=rfl
theorem Wk (n v o l z:Nat):AV.one (.rs n v o l z)=true:=rfl
theorem VW (l:List PV):AV.cells (.fs l)=[.fs l]:=rfl
theorem V6 (l:List PV):AV.ph (.fs l)=true:=rfl
theorem Wh (l:List PV):AV.one (.fs l)=true:=rfl
theorem V0:AV.cells (.sn)=[.sn]:=rfl
theorem Wa:AV.ph (.sn)=true:=rfl
theorem Wl:AV.one (.sn)=true:=rfl
theorem VV (f:Fn) (a c:List AV):AV.cells (.fn f a c)=[.fn f a c]:=rfl
theorem V5 (f:Fn) (a c:List AV):AV.ph (.fn f a c)=true:=rfl
theorem Wg (f:Fn) (a c:List AV):AV.one (.fn f a c)=true:=rfl
theorem XZ (x:PV) (o:Nat):PV.cells (.pt x o)=[.pt x o]:=rfl
theorem RO (x:PV) (o:Nat):AV.cells (.v (.pt x o))=[.v (.pt x o)]:=rfl
theorem X5 (x:PV) (o:Nat):PV.one (.pt x o)=true:=rfl
theorem RX (x:PV) (o:Nat):AV.ph (.v (.pt x o))=true:=rfl
theorem XU (f:FuncId) (a c:List PV):PV.cells (.fc f a c)=[.fc f a c]:=rfl
theorem RL (f:FuncId) (a c:List PV):AV.cells (.v (.fc f a c))=[.v (.fc f a c)]:=rfl
theorem X2 (f:FuncId) (a c:List PV):PV.one (.fc f a c)=true:=rfl
theorem RT (f:FuncId) (a c:List PV):AV.ph (.v (.fc f a c))=true:=rfl
theorem V1:AV.cells (.ub)=[.ub]:=rfl
theorem Wb:AV.ph (.ub)=true:=rfl
theorem Wm:AV.one (.ub)=true:=rfl
theorem VX (n:Nat):AV.cells (.mp n)=[.mp n]:=rfl
theorem V7 (n:Nat):AV.ph (.mp n)=true:=rfl
theorem Wi (n:Nat):AV.one (.mp n)=true:=rfl
theorem Zn:AV.cells (.u)=[.u]:=rfl
theorem Zr:AV.ph (.u)=false:=rfl
theorem Zt:AV.one (.u)=false:=rfl
theorem RK (l:List AV):AV.cells (.tup l)=[.tup l]:=rfl
theorem RS (l:List AV):AV.ph (.tup l)=false:=rfl
theorem R4 (l:List AV):AV.one (.tup l)=false:=rfl
theorem RJ (l:List AV):AV.cells (.agg l)=l:=rfl
theorem RR (l:List AV):AV.ph (.agg l)=l.all AV.one:=rfl
theorem RZ (l:List AV):AV.one (.agg l)=false:=rfl
theorem Zu (x:PV):AV.one (.v x)=x.one:=rfl
theorem RQ (l:List AV):AV.isAgg (.agg l)=True:=rfl
theorem Zo (l:List PV):AV.isAgg (.v (.agg l))=True:=rfl
attribute [irreducible] KW CW RW OW CR GR BX PX CV zA QV
def WG:Nat->List PV->List (Nat×AV)
 | _,[]=>[]
 |i,x::l=>(i, .v x)::WG (i+1) l
def KC:Nat->List AV->List (Nat×AV)
 | _,[]=>[]
 |i,x::l=>(i,x)::KC (i+1) l
def KD:Nat->List aI->List (Nat×aI)
 | _,[]=>[]
 |i,x::l=>(i,x)::KD (i+1) l
theorem WH (l:List PV):l.mapIdx (fun i x=>(i,AV.v x))=WG 0 l:=by
 have: ∀(l:List PV) (k:Nat),l.mapIdx (fun i x=>(i+k,AV.v x))=WG k l:=by
  intro l
  induction l with
  |nil=>intro k;rfl
  |cons x l ih=>
   intro k;rw[oQ,WG,<-ih (k+1)];have e:(fun i (x:PV)=>(i+1+k,AV.v x))=fun i x=>(i+(k+1),AV.v x):=by funext i x;congr 1;omega
   rw[e];simp
 exact this l 0
theorem Sq (l:List AV):l.mapIdx (fun i x=>(i,x))=KC 0 l:=by
 have: ∀(l:List AV) (k:Nat),l.mapIdx (fun i x=>(i+k,x))=KC k l:=by
  intro l
  induction l with
  |nil=>intro k;rfl
  |cons x l ih=>
   intro k;rw[oQ,KC,<-ih (k+1)];have e:(fun i (x:AV)=>(i+1+k,x))=fun i x=>(i+(k+1),x):=by funext i x;congr 1;omega
   rw[e];simp
 exact this l 0
theorem Sr (l:List aI):l.mapIdx (fun i x=>(i,x))=KD 0 l:=by
 have: ∀(l:List aI) (k:Nat),l.mapIdx (fun i x=>(i+k,x))=KD k l:=by
  intro l
  induction l with
  |nil=>intro k;rfl
  |cons x l ih=>
   intro k;rw[oQ,KD,<-ih (k+1)];have e:(fun i (x:aI)=>(i+1+k,x))=fun i x=>(i+(k+1),x):=by funext i x;congr 1;omega
   rw[e];simp
 exact this l 0
theorem qG.w {P:Program} [cW P] (hm:P.follows .mixedOrders=true) {f:FuncId} {fn:Func} {sc:SC} {rs:List qK} (hent:Enters P f f) (hfn:P.funcs[f]?=some fn) (hb:fn.body.isSome=true) (hc:comp P fn.ntmps (fn.body.getD .skip)=some sc) (hr:iu P fn.results.toList=some rs)
  {args:List PV} {r:PV} (hlen:Nat.ble args.length fn.ntmps=true) (h:CW P (Kf rs r) sc [] ⟨WG 0 args,[],1000⟩):qG P f args r:=
 qG.mk' hm hent hfn hb hc hr (cd hlen) (by rw[WH];exact CW.start h)
theorem jS.w {P:Program} [cW P] (hm:P.follows .mixedOrders=true) {f:FuncId} {fn:Func} {sc:SC} {rs:List qK} (hent:Enters P f f) (hfn:P.funcs[f]?=some fn) (hb:fn.body.isSome=true) (hc:comp P fn.ntmps (fn.body.getD .skip)=some sc) (hr:iu P fn.results.toList=some rs)
  {obs:List aI} {args:List AV} {fs:List (Option (Option aI))} {j:Option Nat} {nw:Option aI} {v:AV} (hlen:Nat.ble args.length fn.ntmps=true) (h:CW P (gX rs obs fs j nw v) sc [] ⟨KC 0 args,KD 0 obs,1000⟩)
  {ns:List Nat} {nm:Nat} {obsA:List aI} {avs:List AV} {v':AV} {up:List (Nat×Option aI)} (hns:ns.length<=1000) (hnd:ns.Nodup) (hln:ns.length=obsA.length) (hob:bA (aI.aR (dq ns)) obsA=some obs) (hav:bA (AV.aR (dq ns)) avs=some args)
  (hv:v.aR (ie ns nm)=some v') (hup:fh ns nm fs nw=some up):jS P f nm (ns.zip obsA) avs v' up:=
 jS.mk' hm hent hfn hb hc hr (cd hlen) (by rw[Sq,Sr];exact h) hns hnd hln hob hav hv hup
attribute [go_sem] Bool.not_true Bool.not_false eq_self implies_true imp_false not_false_eq_true Rc Vy Vv Q9 Rb Ra Vx Vw VF Rn Rl Rp Rj Ri Rk VD VC VE Rh Zd AV.off AV.off.offL VH VG VI rk VO Zg XW Zf Rt Rs abQ Y6 Y2 Y5 Y1 Md abN Za Y7 Y3 Uw Uv Vs abJ abK Y4 abX abW Ks Kt Qq Qr fE dP eu SX.ev aO G0 Iu az N1 FQ my AS.sM AS.set SN T9 Ry aUn Zk RA RD RC Rz RE lenOf bounds rp uz AV.pvL AV.AZ AV.L7 HP kp bA Tw aao V2 aar Wc aap V3 aas Wd aaq V4 aat We TA MB TF MG X1 RP X6 RY XV RM X3 RU Tx My TC MD XY RN X4 RV Ty Mz TD ME Tz MA TE MF TB Mx MC Zm Zq Zs VY V8 Wj VZ V9 Wk VW V6 Wh V0 Wa Wl VV V5 Wg Zn Zr Zt VX V7 Wi RK RS R4 RJ RR RZ Zu RQ Zo u8 allM_nil allM_cons Ws Am RG Kg HX ne_eq Int.cast_ofNat_Int ZB ZC List.flatten_cons List.flatten_nil List.flatMap_cons List.flatMap_nil IntKind.bits Nat.min_def List.take_length Ee List.length_map IntWalk.i64_in IntWalk.u8_in IntWalk.u64_in decide_true decide_false Int.toNat_natCast Int.toNat_zero Int.toNat_one ite_true ite_false List.length_cons List.length_nil List.map_cons List.map_nil List.all_cons List.all_nil Bool.and_true Bool.true_and Bool.and_self Option.map_some Option.map_none List.take_succ_cons List.take_zero List.drop_succ_cons List.drop_zero List.take_nil List.drop_nil List.getD_cons_zero List.getD_cons_succ List.nil_append List.cons_append List.append_nil Nat.zero_add Nat.add_zero Nat.le_refl true_and and_true and_self true_implies forall_const Nat.mul_one Nat.one_mul UG ny kf kW Hs List.isEmpty_cons List.isEmpty_nil Bool.or_true Bool.true_or Bool.false_or Bool.or_false Bool.and_false Bool.false_and Kf LB Il view Az Mo Mn RF Mp WG KC KD AV.nz PV.nz XZ RO X5 RX XU RL X2 RT V1 Wb Wm Y8 Y9
