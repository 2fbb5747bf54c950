/-
  Part of the proof, part FA15. Own work.
-/
import Derived.IntWalk
import Derived.Attr
import Derived.Test.YtfdjchnefpefbaaGreatDoorFA14
set_option linter.all false
namespace Go.Dom
open Go.RowKit
inductive Fr where
 |seq (b:SC)
 |blk (id:Nat)
 |lp (R:AS->Prop)
 |asg (b:SC)
 |rg (t0:List (Nat×AV)) (R:AS->Prop)
 |bk (ns:List Nat) (t0:List (Nat×AV)) (obs:List (Nat×Option au))
def KW (P:Program) [bY P] (Q:AX->AS->Prop):List Fr->AX->AS->Prop
 |[],e,s=>Q e s
 | .seq b::K, .normal,s=>aw P b (KW P Q K) s
 | .seq _::K, .exit j,s=>KW P Q K (.exit j) s
 | .seq _::K, .ret,s=>KW P Q K .ret s
 | .blk _::K, .normal,s=>KW P Q K .normal s
 | .blk id::K, .exit j,s=>if j=id then KW P Q K .normal s else KW P Q K (.exit j) s
 | .blk _::K, .ret,s=>KW P Q K .ret s
 | .lp R:: _, .normal,s=>R s
 | .lp _::K, .exit j,s=>KW P Q K (.exit j) s
 | .lp _::K, .ret,s=>KW P Q K .ret s
 | .asg b::K, .normal,s=>aw P b (KW P Q K) s
 | .asg _:: _, .exit _,_=>False
 | .asg _:: _, .ret,_=>False
 | .bk ns t0 obs::K,e,s=>(∀p∈s.h,∀c∈p.2.cells,c.off ns=true)/\KW P Q K e ⟨t0,kq s.h obs,s.nx⟩
 | .rg t0 R:: _, .normal,s=>R {s with t:=t0}
 | .rg t0 _::K, .exit j,s=>KW P Q K (.exit j) {s with t:=t0}
 | .rg t0 _::K, .ret,s=>KW P Q K .ret {s with t:=t0}
section
variable (P:Program) [bY P] (Q:AX->AS->Prop)
def CW (sc:SC) (K:List Fr) (s:AS):Prop:=aw P sc (KW P Q K) s
def OU (bf:Option (List Nat)) (tr:List (Nat×List Nat×List Nat)):Prop:=
 match bf with
 |none=>True
 |some b=>NW b tr=true
def At (bf:Option (List Nat)) (k:Nat) (rs:List Nat) (up:List (Nat×Option au)) (tr:List (Nat×List Nat×List Nat)):List (Nat×List Nat×List Nat):=
 match bf with
 |none=>[]
 |some _=>(k,rs,up.map (·.1))::tr
def RW (nx:Nat) (bf:Option (List Nat)) (n:Nat) (ops:List jd) (k:Nat) (s:AS) (tr:List (Nat×List Nat×List Nat)) (K:List Fr):Prop:=
 match bf with
 |none=>pZ P nx ops k s fun s'=>KW P Q K .normal {s' with nx:=n}
 |some b=>y5 P nx ops k s tr fun s' tr=>NW b tr=true/\KW P Q K .normal {s' with nx:=n}
def OW (nx:Nat) (bf:Option (List Nat)) (n:Nat) (x:Option AO) (d:Option Nat) (ops:List jd) (k:Nat) (s:AS) (tr:List (Nat×List Nat×List Nat)) (K:List Fr):Prop:=
 I0 x fun ao=>RW P Q nx bf n ops (k+1) (s.um d ao.v ao.up) (At bf k ao.rs ao.up tr) K
def CR (nx:Nat) (bf:Option (List Nat)) (n:Nat) (nm:Nat) (fv:AV) (avs:List AV) (d:Option Nat) (ops:List jd) (k:Nat) (s:AS) (tr:List (Nat×List Nat×List Nat)) (K:List Fr):Prop:=
 F9 P nm s.h fv avs fun ao=>RW P Q nx bf n ops (k+1) (s.um d ao.v ao.up) (At bf k ao.rs ao.up tr) K
def GR (nx:Nat) (bf:Option (List Nat)) (n:Nat) (v:AV) (t:Nat) (want:Bool) (d:Option Nat) (o:SO) (ops:List jd) (k:Nat) (s:AS) (tr:List (Nat×List Nat×List Nat)) (K:List Fr):Prop:=
 Pn v t want s (fun s=>RW P Q nx bf n (⟨d,o,none⟩::ops) k s tr K) (fun s=>RW P Q nx bf n ops (k+1) (s.um d (.v (.tup [])) []) (At bf k [] [] tr) K)
def CV (v:AV) (a b:SC) (K:List Fr) (s:AS):Prop:=Gx v (CW P Q a K s) (CW P Q b K s)
inductive BK where
 |cw (a b:SC) (K:List Fr) (s:AS)
 |gd (nx:Nat) (bf:Option (List Nat)) (n:Nat) (t:Nat) (want:Bool) (d:Option Nat) (o:SO) (ops:List jd) (k:Nat) (s:AS) (tr:List (Nat×List Nat×List Nat)) (K:List Fr)
 |ng (κ:BK)
def BX (c:Bool):BK->Prop
 | .cw a b K s=>wM c (CW P Q a K s) (CW P Q b K s)
 | .gd nx bf n t want d o ops k s tr K=>GR P Q nx bf n (.v (.b c)) t want d o ops k s tr K
 | .ng κ=>BX (!c) κ
def PX (p:Prop) (κ:BK):Prop:=(p->BX P Q true κ)/\(¬p->BX P Q false κ)
def NV (ps:List Nat) (a b:SC) (K:List Fr) (t0:List (Nat×AV)) (N:Nat) (fin:Bool) (xs:List (List PV)) (s:AS):Prop:=
 Vy (fun y Qx s1=>aw P a (fun e s2=>match e with
  | .normal=>aw P b Qx s2
  | _=>False) {s1 with t:=oW s1.t ps y}) (KW P Q K) t0 N fin xs s
def wI (a:SC) (K:List Fr) (N:Nat) (s:AS):Prop:=ur (aw P a) (KW P Q K) N s
variable {P Q}
theorem CW.start {sc:SC} {s:AS} (h:CW P Q sc [] s):aw P sc Q s:=by
 have:KW P Q []=Q:=by funext e s;rfl
 unfold CW at h;rw[this]at h;exact h
theorem iB.mk' {f:FuncId} {fn:Func} {sc:SC} {rs:List ov} (hm:P.follows .mixedOrders=true) (hent:Enters P f f) (hfn:P.funcs[f]?=some fn) (hb:fn.body.isSome=true) (hc:comp P fn.ntmps (fn.body.getD .skip)=some sc) (hr:fG P fn.results.toList=some rs)
  {obs:List au} {args:List AV} {fs:List (Option (Option au))} {j:Option Nat} {nw:Option au} {v:AV} (hlen:args.length<=fn.ntmps) (h:CW P (ga rs obs fs j nw v) sc [] ⟨args.mapIdx (fun i x=>(i,x)),obs.mapIdx (fun i x=>(i,x)),1000⟩)
  {ns:List Nat} {nm:Nat} {obsA:List au} {avs:List AV} {v':AV} {up:List (Nat×Option au)} (hns:ns.length<=1000) (hnd:ns.Nodup) (hln:ns.length=obsA.length) (hob:aQ (au.aF (cq ns)) obsA=some obs) (hav:aQ (AV.aF (cq ns)) avs=some args)
  (hv:v.aF (gb ns nm)=some v') (hup:eK ns nm fs nw=some up):iB P f nm (ns.zip obsA) avs v' up:=by
 obtain⟨code,hcode⟩:=sO.1 hb;rw[hcode]at hc;exact iB.L7 hm hent hfn hcode hc hr hlen (CW.start h) hns hnd hln hob hav hv hup
theorem N3 (K:List Fr) (s:AS):CW P Q .skip K s=KW P Q K .normal s:=rfl
theorem R7 (a b:SC) (K:List Fr) (s:AS):CW P Q (.seq a b) K s=CW P Q a (.seq b::K) s:=by
 simp only[CW,aw];congr 1
 funext e s'
 cases e<;>rfl
theorem R4 (id:Nat) (a:SC) (K:List Fr) (s:AS):CW P Q (.blk id a) K s=CW P Q a (.blk id::K) s:=by
 simp only[CW,aw];congr 1
 funext e s'
 cases e<;>rfl
theorem N0 (x:SX) (a b:SC) (K:List Fr) (s:AS):CW P Q (.cond x a b) K s=CV P Q (x.ev (aK s.t)) a b K s:=rfl
theorem XP (c:Bool) (a b:SC) (K:List Fr) (s:AS):CV P Q (.v (.b c)) a b K s=BX P Q c (.cw a b K s):=rfl
theorem Vm (a b:SC) (K:List Fr) (s:AS):BX P Q true (.cw a b K s)=CW P Q a K s:=by simp only[BX,qm]
theorem Vi (a b:SC) (K:List Fr) (s:AS):BX P Q false (.cw a b K s)=CW P Q b K s:=by simp only[BX,oB]
theorem QY (κ:BK):BX P Q true (.ng κ)=BX P Q false κ:=by simp only[BX,bR]
theorem QX (κ:BK):BX P Q false (.ng κ)=BX P Q true κ:=by simp only[BX,bZ]
theorem RX (c:Bool) (κ:BK):BX P Q (!c) κ=BX P Q c (.ng κ):=by simp only[BX]
theorem NY {c:Bool} {κ:BK} (h:c=true):BX P Q c κ=BX P Q true κ:=by rw[h]
theorem NX {c:Bool} {κ:BK} (h:c=false):BX P Q c κ=BX P Q false κ:=by rw[h]
theorem JV {p:Prop} {κ:BK} (h:p):PX P Q p κ=BX P Q true κ:=by simp only[PX,h,true_implies,not_true_eq_false,false_implies,and_true]
theorem JU {p:Prop} {κ:BK} (h: ¬p):PX P Q p κ=BX P Q false κ:=by simp only[PX,h,false_implies,not_false_eq_true,true_implies,true_and]
theorem X4 (κ:BK):PX P Q True κ=BX P Q true κ:=JV trivial
theorem X3 (κ:BK):PX P Q False κ=BX P Q false κ:=JU id
theorem XI (p:Prop) [Decidable p] (κ:BK):BX P Q (decide p) κ=PX P Q p κ:=by
 by_cases h:p
 ·rw[NY (decide_eq_true h),JV h]
 ·rw[NX (decide_eq_false h),JU h]
theorem XK (x y:Int) (κ:BK):BX P Q (x==y) κ=PX P Q (x=y) κ:=by
 by_cases h:x=y
 ·rw[NY (by simpa using h),JV h]
 ·rw[NX (by simpa using h),JU h]
theorem Vj (x y:Int) (κ:BK):BX P Q (x !=y) κ=PX P Q (x=y) (.ng κ):=by
 by_cases h:x=y
 ·rw[NX (by simpa using h),JV h,QY]
 ·rw[NY (by simpa using h),JU h,QX]
theorem BX.mk {c:Bool} {κ:BK} (h1:c=true->BX P Q true κ) (h2:c=false->BX P Q false κ):BX P Q c κ:=by
 cases c
 ·exact h2 rfl
 ·exact h1 rfl
theorem PX.mk {p:Prop} {κ:BK} (h1:p->BX P Q true κ) (h2: ¬p->BX P Q false κ):PX P Q p κ:=⟨h1,h2⟩
theorem Vs (a b:SC) (K:List Fr) (s:AS):CV P Q .ub a b K s=(CW P Q a K s/\CW P Q b K s):=rfl
theorem N2 (a:SC) (K:List Fr) (s:AS):CW P Q (.loop a) K s=wI P Q a K s.nx s:=rfl
theorem N1 (id:Nat) (K:List Fr) (s:AS):CW P Q (.exit id) K s=KW P Q K (.exit id) s:=rfl
theorem R6 (K:List Fr) (s:AS):CW P Q .ret K s=KW P Q K .ret s:=rfl
theorem R5 (bf:Option (List Nat)) (ops:List jd) (K:List Fr) (s:AS):CW P Q (.reg bf ops) K s=RW P Q s.nx bf (s.nx+ops.length) ops 0 s [] K:=by
 cases bf<;>rfl
theorem Sd (e:AX) (s:AS):KW P Q [] e s=Q e s:=rfl
theorem Od (b:SC) (K:List Fr) (s:AS):KW P Q (.seq b::K) .normal s=CW P Q b K s:=rfl
theorem Oc (b:SC) (K:List Fr) (j:Nat) (s:AS):KW P Q (.seq b::K) (.exit j) s=KW P Q K (.exit j) s:=rfl
theorem Oe (b:SC) (K:List Fr) (s:AS):KW P Q (.seq b::K) .ret s=KW P Q K .ret s:=rfl
theorem Oa (i:Nat) (K:List Fr) (s:AS):KW P Q (.blk i::K) .normal s=KW P Q K .normal s:=rfl
theorem N9 (i:Nat) (K:List Fr) (j:Nat) (s:AS):KW P Q (.blk i::K) (.exit j) s=if j=i then KW P Q K .normal s else KW P Q K (.exit j) s:=rfl
theorem Ob (i:Nat) (K:List Fr) (s:AS):KW P Q (.blk i::K) .ret s=KW P Q K .ret s:=rfl
theorem JP {x:SX} {ps:List Nat} {a b:SC} {K:List Fr} {s:AS} {g:FuncId} {caps:List PV} {fin:Bool} {xs:List (List PV)} (hi:Xv P g caps fin xs) (hx:x.ev (aK s.t)= .v (.fc g [] caps)) (hl: ∀y∈xs,y.length=ps.length) (h:NV P Q ps a b K s.t s.nx fin xs s):CW P Q (.rng x ps a b) K s:=by
 have e:p9 [] s (KW P Q K)=KW P Q K:=by funext e s';simp[p9]
 refine⟨g,caps,fin,xs,[],by rw[hx];rfl,by rw[hx];simp[aL],by simp,hi,fun y hy=>⟨hl y hy, .inl rfl⟩,?_⟩
 rw[e];exact h
section
variable {ps:List Nat} {a b:SC} {K:List Fr} {t0:List (Nat×AV)} {N:Nat} {s:AS} {fin:Bool}
theorem UF (h:KW P Q K .normal s):NV P Q ps a b K t0 N true [] s:=fun X h1 _ _=>h1 _ rfl h
theorem Hu {s':AS} {ys:List (List PV)} (hN:N<=s'.nx) (hle:s'.Le s) (h:NV P Q ps a b K t0 N fin ys s'):NV P Q ps a b K t0 N fin ys s:=fun X h1 h2 h3=>h3 ys s' s hN hle (h X h1 h2 h3)
theorem Qs {y:List PV} {ys:List (List PV)} (h:CW P Q a (.asg b:: .rg t0 (NV P Q ps a b K t0 N fin ys)::K) {s with t:=oW s.t ps y}):NV P Q ps a b K t0 N fin (y::ys) s:=by
 intro X h1 h2 h3;refine h2 y ys s (pf (fun e s2 hs=> ?_) h)
 cases e with
 |normal=>
  refine pf (fun e s3 hs3=> ?_) hs
  cases e with
  |normal=>exact hs3 X h1 h2 h3
  |exit j=>exact hs3
  |ret=>exact hs3
 |exit j=>exact hs
 |ret=>exact hs
theorem Ht {xs:List (List PV)} {α:Type} (st:α->AS) (ok:List (List PV)->α->Prop) (a0:α) (hN: ∀x,N<=(st x).nx) (h0:ok xs a0) (hle:(st a0).Le s) (hnil: ∀x,ok [] x->fin=true/\KW P Q K .normal (st x))
  (hcons: ∀y ys x,ok (y::ys) x-> ∀R:AS->Prop,(∀x',ok ys x'-> ∀s',(st x').Le s'->R s')->CW P Q a (.asg b:: .rg t0 R::K) {st x with t:=oW (st x).t ps y}):NV P Q ps a b K t0 N fin xs s:=by
 refine Hu (hN a0) hle ?_;clear hle
 induction xs generalizing a0 with
 |nil=>
  obtain⟨rfl,h⟩:=hnil a0 h0;exact UF h
 |cons y ys ih=>exact Qs (hcons y ys a0 h0 _ fun x' hx' s' hs'=>Hu (hN x') hs' (ih x' hx'))
theorem UG {xs:List (List PV)} {α:Type} (st:α->AS) (ok:List (List PV)->α->Prop) (a0:α) (hN: ∀x,N<=(st x).nx) (h0:ok xs a0) (hle:(st a0).Le s) (hnil: ∀x,ok [] x->KW P Q K .normal (st x))
  (hcons: ∀y ys x,ok (y::ys) x-> ∀R:AS->Prop,(∀x',ok ys x'-> ∀s',(st x').Le s'->R s')->CW P Q a (.asg b:: .rg t0 R::K) {st x with t:=oW (st x).t ps y}):NV P Q ps a b K t0 N true xs s:=
 Ht st ok a0 hN h0 hle (fun x h=>⟨rfl,hnil x h⟩) hcons
theorem Qt {xs:List (List PV)} {α:Type} (st:α->AS) (ok:List (List PV)->α->Prop) (a0:α) (hN: ∀x,N<=(st x).nx) (h0:ok xs a0) (hle:(st a0).Le s) (hnil: ∀x,¬ok [] x)
  (hcons: ∀y ys x,ok (y::ys) x-> ∀R:AS->Prop,(∀x',ok ys x'-> ∀s',(st x').Le s'->R s')->CW P Q a (.asg b:: .rg t0 R::K) {st x with t:=oW (st x).t ps y}):NV P Q ps a b K t0 N false xs s:=
 Ht st ok a0 hN h0 hle (fun x h=>(hnil x h).elim) hcons
end
theorem N8 (b:SC) (K:List Fr) (s:AS):KW P Q (.asg b::K) .normal s=CW P Q b K s:=rfl
theorem Vu (ns:List Nat) (t0:List (Nat×AV)) (obs:List (Nat×Option au)) (K:List Fr) (e:AX) (s:AS):KW P Q (.bk ns t0 obs::K) e s=((∀p∈s.h,∀c∈p.2.cells,c.off ns=true)/\KW P Q K e ⟨t0,kq s.h obs,s.nx⟩):=rfl
theorem Sf (t0:List (Nat×AV)) (R:AS->Prop) (K:List Fr) (s:AS):KW P Q (.rg t0 R::K) .normal s=R ⟨t0,s.h,s.nx⟩:=rfl
theorem Se (t0:List (Nat×AV)) (R:AS->Prop) (K:List Fr) (j:Nat) (s:AS):KW P Q (.rg t0 R::K) (.exit j) s=KW P Q K (.exit j) ⟨t0,s.h,s.nx⟩:=rfl
theorem Sg (t0:List (Nat×AV)) (R:AS->Prop) (K:List Fr) (s:AS):KW P Q (.rg t0 R::K) .ret s=KW P Q K .ret ⟨t0,s.h,s.nx⟩:=rfl
theorem Sb (R:AS->Prop) (K:List Fr) (s:AS):KW P Q (.lp R::K) .normal s=R s:=rfl
theorem Sa (R:AS->Prop) (K:List Fr) (j:Nat) (s:AS):KW P Q (.lp R::K) (.exit j) s=KW P Q K (.exit j) s:=rfl
theorem Sc (R:AS->Prop) (K:List Fr) (s:AS):KW P Q (.lp R::K) .ret s=KW P Q K .ret s:=rfl
section
variable (nx:Nat) (bf:Option (List Nat)) (n:Nat) (d:Option Nat) (ops:List jd) (k:Nat) (s:AS) (tr:List (Nat×List Nat×List Nat)) (K:List Fr)
theorem Sn:RW P Q nx bf n [] k s tr K=(OU bf tr/\KW P Q K .normal {s with nx:=n}):=by
 cases bf
 ·simp only[RW,pZ,OU,true_and]
 ·rfl
def XW (P:Program) [bY P] (Q:AX->AS->Prop) (nx:Nat) (bf:Option (List Nat)) (n:Nat) (o:SO) (d:Option Nat) (ops:List jd) (k:Nat) (s:AS) (tr:List (Nat×List Nat×List Nat)) (K:List Fr):Prop:=
 match o with
 | .call f args=>CR P Q nx bf n (nx+k) (f.ev (aK s.t)) (args.map (SX.ev (aK s.t))) d ops k s tr K
 |o=>OW P Q nx bf n (ep (nx+k) o (aK s.t) (aj s.h)) d ops k s tr K
theorem Vx (o:SO):RW P Q nx bf n (⟨d,o,none⟩::ops) k s tr K=XW P Q nx bf n o d ops k s tr K:=by
 cases o<;>cases bf<;>rfl
theorem Vw (o:SO) (t:Nat) (want:Bool):RW P Q nx bf n (⟨d,o,some (t,want)⟩::ops) k s tr K=GR P Q nx bf n (aK s.t t) t want d o ops k s tr K:=by
 cases bf<;>rfl
theorem Og (v:AV) (p:Prop) (rs:List Nat) (up:List (Nat×Option au)):OW P Q nx bf n (some ⟨v,p,rs,up⟩) d ops k s tr K=(p/\RW P Q nx bf n ops (k+1) (s.um d v up) (At bf k rs up tr) K):=rfl
theorem Of:OW P Q nx bf n none d ops k s tr K=False:=rfl
theorem XV (x:Bool) (t:Nat) (want:Bool) (o:SO):GR P Q nx bf n (.v (.b x)) t want d o ops k s tr K=BX P Q x (.gd nx bf n t want d o ops k s tr K):=rfl
theorem Vl (t:Nat) (o:SO):BX P Q true (.gd nx bf n t true d o ops k s tr K)=RW P Q nx bf n (⟨d,o,none⟩::ops) k (s.set t (.v (.b true))) tr K:=by simp only[BX,GR,Pn,qm]
theorem Vh (t:Nat) (o:SO):BX P Q false (.gd nx bf n t true d o ops k s tr K)=RW P Q nx bf n ops (k+1) ((s.set t (.v (.b false))).um d (.v (.tup [])) []) (At bf k [] [] tr) K:=by simp only[BX,GR,Pn,oB]
theorem Vk (t:Nat) (o:SO):BX P Q true (.gd nx bf n t false d o ops k s tr K)=RW P Q nx bf n ops (k+1) ((s.set t (.v (.b true))).um d (.v (.tup [])) []) (At bf k [] [] tr) K:=by simp only[BX,GR,Pn,qm]
theorem Vg (t:Nat) (o:SO):BX P Q false (.gd nx bf n t false d o ops k s tr K)=RW P Q nx bf n (⟨d,o,none⟩::ops) k (s.set t (.v (.b false))) tr K:=by simp only[BX,GR,Pn,oB]
theorem JR (t:Nat) (want:Bool) (o:SO):GR P Q nx bf n (.v (.tup [])) t want d o ops k s tr K=RW P Q nx bf n ops (k+1) (s.um d (.v (.tup [])) []) (At bf k [] [] tr) K:=by simp only[GR,Pn]
theorem H9:OU none tr=True:=rfl
theorem Ia (b:List Nat):OU (some b) tr=(NW b tr=true):=rfl
theorem Nw (rs:List Nat) (up:List (Nat×Option au)):At none k rs up tr=[]:=rfl
theorem Nx (b:List Nat) (rs:List Nat) (up:List (Nat×Option au)):At (some b) k rs up tr=(k,rs,up.map (·.1))::tr:=rfl
theorem il {nx:Nat} {bf:Option (List Nat)} {n:Nat} {d:Option Nat} {ops:List jd} {k:Nat} {s:AS} {tr:List (Nat×List Nat×List Nat)} {K:List Fr} {nm:Nat} {f:FuncId} {avs:List AV} {pvs:List PV} {r:PV} (he:aA P f pvs r) (ha:mM avs=some pvs) (hK:RW P Q nx bf n ops (k+1) (s.um d (.v r) []) (At bf k [] [] tr) K):
  CR P Q nx bf n nm (.v (.fn (.func f))) avs d ops k s tr K:=⟨_, .pure f avs pvs r rfl ha he,hK⟩
theorem Vr {nx:Nat} {bf:Option (List Nat)} {n:Nat} {d:Option Nat} {ops:List jd} {k:Nat} {s:AS} {tr:List (Nat×List Nat×List Nat)} {K:List Fr} {nm:Nat} {f:FuncId} {a c avs:List AV}:
  CR P Q nx bf n nm (.fn (.func f) a c) avs d ops k s tr K=CR P Q nx bf n nm (.v (.fn (.func f))) (a++(avs++c)) d ops k s tr K:=by
 have h: ∀ao,kD P nm (aj s.h) (.fn (.func f) a c) avs ao↔kD P nm (aj s.h) (.v (.fn (.func f))) (a++(avs++c)) ao:=by
  intro ao;constructor
  ·intro h
   cases h with
   |pure f avs pvs r hfv hargs he=>exact .pure f avs pvs r hfv hargs he
   |view f avs pvs r hfv hargs hr he=>exact .view f avs pvs r hfv hargs hr he
   |jA f avs pvs r hfv hargs hlo he=>exact .jA f avs pvs r hfv hargs hlo he
   |eff f avs hs v up hfv hhs he=>exact .eff f avs hs v up hfv hhs he
   |same f v hfv he=>exact .same f v hfv he
   |ext f avs pvs r hfv hargs he=>exact .ext f avs pvs r hfv hargs he
  ·intro h
   cases h with
   |pure f avs pvs r hfv hargs he=>exact .pure f avs pvs r hfv hargs he
   |view f avs pvs r hfv hargs hr he=>exact .view f avs pvs r hfv hargs hr he
   |jA f avs pvs r hfv hargs hlo he=>exact .jA f avs pvs r hfv hargs hlo he
   |eff f avs hs v up hfv hhs he=>exact .eff f avs hs v up hfv hhs he
   |same f v hfv he=>exact .same f v hfv he
   |ext f avs pvs r hfv hargs he=>exact .ext f avs pvs r hfv hargs he
 unfold CR F9;simp only[h]
theorem Vq {nx:Nat} {bf:Option (List Nat)} {n:Nat} {d:Option Nat} {ops:List jd} {k:Nat} {s:AS} {tr:List (Nat×List Nat×List Nat)} {K:List Fr} {nm:Nat} {f:FuncId} {a c:List PV} {avs:List AV}:
  CR P Q nx bf n nm (.v (.fc f a c)) avs d ops k s tr K=CR P Q nx bf n nm (.v (.fn (.func f))) (a.map .v++(avs++c.map .v)) d ops k s tr K:=by
 have h: ∀ao,kD P nm (aj s.h) (.v (.fc f a c)) avs ao↔kD P nm (aj s.h) (.v (.fn (.func f))) (a.map .v++(avs++c.map .v)) ao:=by
  intro ao;constructor
  ·intro h
   cases h with
   |pure f avs pvs r hfv hargs he=>exact .pure f avs pvs r hfv hargs he
   |view f avs pvs r hfv hargs hr he=>exact .view f avs pvs r hfv hargs hr he
   |jA f avs pvs r hfv hargs hlo he=>exact .jA f avs pvs r hfv hargs hlo he
   |eff f avs hs v up hfv hhs he=>exact .eff f avs hs v up hfv hhs he
   |same f v hfv he=>exact .same f v hfv he
   |ext f avs pvs r hfv hargs he=>exact .ext f avs pvs r hfv hargs he
  ·intro h
   cases h with
   |pure f avs pvs r hfv hargs he=>exact .pure f avs pvs r hfv hargs he
   |view f avs pvs r hfv hargs hr he=>exact .view f avs pvs r hfv hargs hr he
   |jA f avs pvs r hfv hargs hlo he=>exact .jA f avs pvs r hfv hargs hlo he
   |eff f avs hs v up hfv hhs he=>exact .eff f avs hs v up hfv hhs he
   |same f v hfv he=>exact .same f v hfv he
   |ext f avs pvs r hfv hargs he=>exact .ext f avs pvs r hfv hargs he
 unfold CR F9;simp only[h]
theorem o9 {nx:Nat} {bf:Option (List Nat)} {n:Nat} {d:Option Nat} {ops:List jd} {k:Nat} {s:AS} {tr:List (Nat×List Nat×List Nat)} {K:List Fr} {nm:Nat} {f:FuncId} {avs:List AV} {pvs:List PV} {r:PV} (he:aA P f pvs r) (ha:aQ (view (aj s.h) 9) avs=some pvs) (hr:r.flat=true) (hK:RW P Q nx bf n ops (k+1) (s.um d (.v r) []) (At bf k (avs.flatMap (aL (aj s.h) 9)) [] tr) K):
  CR P Q nx bf n nm (.v (.fn (.func f))) avs d ops k s tr K:=⟨_, .view f avs pvs r rfl ha hr he,hK⟩
theorem ny {nx:Nat} {bf:Option (List Nat)} {n:Nat} {d:Option Nat} {ops:List jd} {k:Nat} {s:AS} {tr:List (Nat×List Nat×List Nat)} {K:List Fr} {nm:Nat} {f:FuncId} {avs:List AV} {pvs:List PV} {r:PV} (ns:List Nat) (he:aA P f pvs r) (hlo:ns.all (fun n=>decide (1000<=n))=true) (hv:avs.flatMap (aL (aj s.h) 9)=ns) (ha:aQ (view (aj s.h) 9) avs=some pvs)
  (hK:RW P Q nx bf n ops (k+1) (s.um d (.v r) (ns.map fun n=>(n,none))) (At bf k ns (ns.map fun n=>(n,none)) tr) K):
  CR P Q nx bf n nm (.v (.fn (.func f))) avs d ops k s tr K:=by
 subst hv;exact⟨_, .jA f avs pvs r rfl ha (fun n hn=>of_decide_eq_true (bz.1 hlo n hn)) he,hK⟩
theorem bC {nx:Nat} {bf:Option (List Nat)} {n:Nat} {d:Option Nat} {ops:List jd} {k:Nat} {s:AS} {tr:List (Nat×List Nat×List Nat)} {K:List Fr} {nm:Nat} {f:FuncId} {avs:List AV} {hs:List (Nat×au)} {v:AV} {up:List (Nat×Option au)} (he:iB P f nm hs avs v up) (hh: ∀p∈hs,aj s.h p.1=some p.2) (hK:RW P Q nx bf n ops (k+1) (s.um d v up) (At bf k (hs.map (·.1)) up tr) K):
  CR P Q nx bf n nm (.v (.fn (.func f))) avs d ops k s tr K:=⟨_, .eff f avs hs v up rfl hh he,hK⟩
theorem NZ {nx:Nat} {bf:Option (List Nat)} {n:Nat} {d:Option Nat} {ops:List jd} {k:Nat} {s:AS} {tr:List (Nat×List Nat×List Nat)} {K:List Fr} {nm:Nat} {f:FuncId} {v:AV} (he:XT P f) (hK:RW P Q nx bf n ops (k+1) (s.um d v []) (At bf k [] [] tr) K):
  CR P Q nx bf n nm (.v (.fn (.func f))) [v] d ops k s tr K:=⟨_, .same f v rfl he,hK⟩
end
theorem RZ {nx:Nat} {bf:Option (List Nat)} {n:Nat} {d:Option Nat} {ops:List jd} {k:Nat} {s:AS} {tr:List (Nat×List Nat×List Nat)} {K:List Fr} {nm:Nat} {f:FuncId} {avs:List AV} {pvs:List PV} {r:PV} (he:XU P f pvs r) (ha:mM avs=some pvs) (hK:RW P Q nx bf n ops (k+1) (s.um d (.v r) []) (At bf k [] [] tr) K):
  CR P Q nx bf n nm (.v (.fn (.func f))) avs d ops k s tr K:=⟨_, .ext f avs pvs r rfl ha he,hK⟩
theorem ah {a:SC} {K:List Fr} {N:Nat} {s:AS} (h:CW P Q a (.lp (wI P Q a K N)::K) s):wI P Q a K N s:=by
 refine uD (pf (fun e s' hs=> ?_) h)
 cases e<;>exact hs
theorem af {a:SC} {K:List Fr} {N:Nat} {s:AS} {α:Type} (m:α->Nat) (st:α->AS) (ok:α->Prop) (a0:α) (hN: ∀x,N<=(st x).nx) (h0:ok a0) (hle:(st a0).Le s)
  (hr: ∀x,ok x-> ∀R:AS->Prop,(∀y,ok y->m y<m x-> ∀s',(st y).Le s'->R s')->CW P Q a (.lp R::K) (st x)):wI P Q a K N s:=by
 refine IL m st ok a0 hN h0 hle fun x hx=> ?_
 refine pf (fun e s' hs=> ?_) (hr x hx (fun s'=> ∃y,ok y/\m y<m x/\(st y).Le s') fun y h1 h2 s' h3=>⟨y,h1,h2,h3⟩)
 cases e<;>exact hs
def dM (t:List (Nat×AV)) (n:Nat):List (Nat×AV)->Prop
 |[]=>True
 |(k,v)::r=>aK t k=v/\v.bd n=true/\dM t n r
def dL (h:List (Nat×au)) (n:Nat):List (Nat×au)->Prop
 |[]=>True
 |(k,v)::r=>aj h k=some v/\k<n/\(∀c∈v.cells,c.bd n=true)/\dL h n r
theorem AS.Le.TN {t t':List (Nat×AV)} {h h':List (Nat×au)} {n n':Nat} (z:List (Nat×PV)) (ns:List Nat) (hns: ∀m∈ns,1000<=m/\aj h m=none) (hz: ∀q∈z,view (aj h') 9 (aK t' q.1)=some q.2/\ ∀m∈aL (aj h') 9 (aK t' q.1),m∈ns) (hn:n<=n') (ht:dM t' n t) (hh:dL h' n h):(AS.mk (z.map (fun q=>(q.1,AV.v q.2))++t) h n).Le ⟨t',h',n'⟩:=by
 have h1: ∀(t:List (Nat×AV)),dM t' n t-> ∀p∈t,aK t' p.1=p.2/\p.2.bd n=true:=by
  intro t
  induction t with
  |nil=>intro _ p hp;cases hp
  |cons q t ih=>
   obtain⟨k,v⟩:=q;intro hq p hp;rcases bL.1 hp with rfl|hp
   ·exact⟨hq.1,hq.2.1⟩
   ·exact ih hq.2.2 p hp
 have h2: ∀(h:List (Nat×au)),dL h' n h-> ∀p∈h,aj h' p.1=some p.2/\p.1<n/\ ∀c∈p.2.cells,c.bd n=true:=by
  intro h
  induction h with
  |nil=>intro _ p hp;cases hp
  |cons q h ih=>
   obtain⟨k,v⟩:=q;intro hq p hp;rcases bL.1 hp with rfl|hp
   ·exact⟨hq.1,hq.2.1,hq.2.2.1⟩
   ·exact ih hq.2.2.2 p hp
 refine⟨⟨ns,hns,fun p hp=> ?_⟩,fun p hp=>(h2 h hh p hp).1,hn,fun p hp=> ?_,fun p hp=>(h2 h hh p hp).2⟩<;>rcases fJ.1 hp with hp|hp
 ·obtain⟨q,hq,rfl⟩:=bw.1 hp;exact .inr ⟨q.2,rfl,(hz q hq).1,(hz q hq).2⟩
 ·exact .inl (h1 t ht p hp).1
 ·obtain⟨q,hq,rfl⟩:=bw.1 hp;rfl
 ·exact(h1 t ht p hp).2
theorem AS.Le.of {t t':List (Nat×AV)} {h h':List (Nat×au)} {n n':Nat} (hn:n<=n') (ht:dM t' n t) (hh:dL h' n h):(AS.mk t h n).Le ⟨t',h',n'⟩:=AS.Le.TN [] [] (fun _ h=>by cases h) (fun _ h=>by cases h) hn ht hh
end
theorem allM_nil {α:Type} (p:α->Prop):(∀x,x∈([]:List α)->p x)=True:=by simp
theorem allM_cons {α:Type} (a:α) (l:List α) (p:α->Prop):(∀x,x∈a::l->p x)=(p a/\ ∀x,x∈l->p x):=by simp
theorem S5 (k:IntKind) (n:Int):PV.byte (.i k n)=UInt8.ofNat n.toNat:=rfl
theorem xC (n:Int):PV.isByte (.i .u8 n)=True:=rfl
theorem Oo (x:PV):AV.byte (.v x)=x.byte:=rfl
theorem HZ (x:PV):AV.isByte (.v x)=x.isByte:=rfl
theorem Fh (c:UInt8):UInt8.ofNat c.toNat=c:=by simp
def ay (l:Bytes):List AV:=l.map fun c=> .v (u8 c)
theorem Q4 (l:Bytes):List.map (fun c:UInt8=>AV.v (PV.i IntKind.u8 (c.toNat:Int))) l=ay l:=rfl
theorem iC (l:Bytes):(ay l).length=l.length:=by simp[ay]
theorem iV (l:Bytes):List.take l.length (ay l)=ay l:=cd (by simp[ay])
theorem jw (l m:Bytes):ay l++ay m=ay (l++m):=by simp[ay]
theorem EL (l:Bytes):(∀y,y∈ay l->y.one=true)=True:=by
 simp only[eq_iff_iff,iff_true];intro y hy;obtain⟨c,-,rfl⟩:=bw.1 hy;rfl
theorem ak (l:Bytes) (n:Nat):(∀y,y∈ay l->y.bd n=true)=True:=by
 simp only[eq_iff_iff,iff_true];intro y hy;obtain⟨c,-,rfl⟩:=bw.1 hy;rfl
theorem iT (l:Bytes):(ay l).map AV.byte=l:=by
 induction l with
 |nil=>rfl
 |cons c l ih=>simp_all[ay,AV.byte,PV.byte,u8]
theorem H3 (l:Bytes):(∀y,y∈ay l->y= .v (u8 y.byte))=True:=by
 simp only[eq_iff_iff,iff_true];intro y hy;obtain⟨c,-,rfl⟩:=bw.1 hy;simp[AV.byte,PV.byte,u8]
theorem ax (f:Nat->Option Nat) (l:Bytes):AV.aF.renL f (ay l)=some (ay l):=by
 induction l with
 |nil=>rfl
 |cons c l ih=>
  have:AV.aF.renL f (AV.v (u8 c)::ay l)=some (AV.v (u8 c)::ay l):=by simp[AV.aF.renL,AV.aF,ih]
  exact this
theorem aB (k:Nat) (j:Option Nat) (s:AS) (l:Bytes):aQ (fh k j s) (ay l)=some (ay l):=by
 induction l with
 |nil=>rfl
 |cons c l ih=>
  have:aQ (fh k j s) (AV.v (u8 c)::ay l)=some (AV.v (u8 c)::ay l):=by simp[aQ,fh,dT,view,ih]
  exact this
theorem VP:((0:Nat):Int)=0:=rfl
theorem VQ:((1:Nat):Int)=1:=rfl
theorem BO {α β:Type} (l:List α) (f:α->β):List.take l.length (l.map f)=l.map f:=by rw[<-aE (f:=f),cK]
def cellsOf (l:List PV):List AV:=(l.flatMap PV.cells).map .v
theorem ai (l:List PV) (n:Nat):(∀c,c∈cellsOf l->c.bd n=true)=True:=by
 simp only[eq_iff_iff,iff_true];intro c hc;simp only[cellsOf,bw]at hc;obtain⟨y,-,rfl⟩:=hc;rfl
theorem eJ (hf:Nat->Option au) (f:Nat) (l:List PV):aQ (view hf (f+1)) (l.map .v)=some l:=by
 induction l with
 |nil=>rfl
 |cons x l ih=>simp[aQ,view,ih]
theorem P8 (l:List PV):PV.cells (.agg l)=l:=rfl
theorem Wj (x:Bool):PV.cells (.b x)=[.b x]:=rfl
theorem SA (x:Bool):AV.cells (.v (.b x))=[.v (.b x)]:=rfl
theorem Wm (x:Bool):PV.one (.b x)=true:=rfl
theorem SN (x:Bool):AV.mQ (.v (.b x))=true:=rfl
theorem Wk (k:IntKind) (n:Int):PV.cells (.i k n)=[.i k n]:=rfl
theorem SD (k:IntKind) (n:Int):AV.cells (.v (.i k n))=[.v (.i k n)]:=rfl
theorem Wn (k:IntKind) (n:Int):PV.one (.i k n)=true:=rfl
theorem SP (k:IntKind) (n:Int):AV.mQ (.v (.i k n))=true:=rfl
theorem Wl (x:Bytes):PV.cells (.s x)=[.s x]:=rfl
theorem SE (x:Bytes):AV.cells (.v (.s x))=[.v (.s x)]:=rfl
theorem Wo (x:Bytes):PV.one (.s x)=true:=rfl
theorem SQ (x:Bytes):AV.mQ (.v (.s x))=true:=rfl
theorem Qc (l:List PV):PV.cells (.tup l)=[.tup l]:=rfl
theorem Kc (l:List PV):AV.cells (.v (.tup l))=[.v (.tup l)]:=rfl
theorem Qi (l:List PV):PV.one (.tup l)=false:=rfl
theorem Kh (l:List PV):AV.mQ (.v (.tup l))=false:=rfl
theorem Uo (l:List PV):PV.cells (.sl l)=[.sl l]:=rfl
theorem OC (l:List PV):AV.cells (.v (.sl l))=[.v (.sl l)]:=rfl
theorem Ut (l:List PV):PV.one (.sl l)=true:=rfl
theorem OK (l:List PV):AV.mQ (.v (.sl l))=true:=rfl
theorem Ul (f:Fn):PV.cells (.fn f)=[.fn f]:=rfl
theorem Oz (f:Fn):AV.cells (.v (.fn f))=[.v (.fn f)]:=rfl
theorem Uq (f:Fn):PV.one (.fn f)=true:=rfl
theorem OH (f:Fn):AV.mQ (.v (.fn f))=true:=rfl
theorem P9:PV.cells (.fn0)=[.fn0]:=rfl
theorem J9:AV.cells (.v (.fn0))=[.v (.fn0)]:=rfl
theorem Qe:PV.one (.fn0)=true:=rfl
theorem Ke:AV.mQ (.v (.fn0))=true:=rfl
theorem Um:PV.cells (.p0)=[.p0]:=rfl
theorem OA:AV.cells (.v (.p0))=[.v (.p0)]:=rfl
theorem Ur:PV.one (.p0)=true:=rfl
theorem OI:AV.mQ (.v (.p0))=true:=rfl
theorem Qa:PV.cells (.if0)=[.if0]:=rfl
theorem Ka:AV.cells (.v (.if0))=[.v (.if0)]:=rfl
theorem Qg:PV.one (.if0)=true:=rfl
theorem Kf:AV.mQ (.v (.if0))=true:=rfl
theorem Qb (t:TypeId) (v:PV):PV.cells (.ifc t v)=[.ifc t v]:=rfl
theorem Kb (t:TypeId) (v:PV):AV.cells (.v (.ifc t v))=[.v (.ifc t v)]:=rfl
theorem Qh (t:TypeId) (v:PV):PV.one (.ifc t v)=true:=rfl
theorem Kg (t:TypeId) (v:PV):AV.mQ (.v (.ifc t v))=true:=rfl
theorem Qd (l:List PV):PV.one (.agg l)=false:=rfl
theorem J8 (l:List PV):AV.cells (.v (.agg l))=l.map .v:=rfl
theorem Kd (l:List PV):AV.mQ (.v (.agg l))=true:=rfl
theorem VC (n v o:Nat):AV.cells (.p n v o)=[.p n v o]:=rfl
theorem VF (n v o:Nat):AV.mQ (.p n v o)=true:=rfl
theorem VH (n v o:Nat):AV.one (.p n v o)=true:=rfl
theorem Sw (x:PV) (o:Nat):AV.cells (.pp x o)=[.pp x o]:=rfl
theorem SI (x:PV) (o:Nat):AV.mQ (.pp x o)=true:=rfl
theorem SW (x:PV) (o:Nat):AV.one (.pp x o)=true:=rfl
theorem Sx (n v o l z:Nat):AV.cells (.rs n v o l z)=[.rs n v o l z]:=rfl
theorem SJ (n v o l z:Nat):AV.mQ (.rs n v o l z)=true:=rfl
theorem SY (n v o l z:Nat):AV.one (.rs n v o l z)=true:=rfl
theorem Su (l:List PV):AV.cells (.fs l)=[.fs l]:=rfl
theorem SG (l:List PV):AV.mQ (.fs l)=true:=rfl
theorem SU (l:List PV):AV.one (.fs l)=true:=rfl
theorem Sy:AV.cells (.sn)=[.sn]:=rfl
theorem SL:AV.mQ (.sn)=true:=rfl
theorem SZ:AV.one (.sn)=true:=rfl
theorem St (f:Fn) (a c:List AV):AV.cells (.fn f a c)=[.fn f a c]:=rfl
theorem SF (f:Fn) (a c:List AV):AV.mQ (.fn f a c)=true:=rfl
theorem SS (f:Fn) (a c:List AV):AV.one (.fn f a c)=true:=rfl
theorem Un (x:PV) (o:Nat):PV.cells (.pt x o)=[.pt x o]:=rfl
theorem OB (x:PV) (o:Nat):AV.cells (.v (.pt x o))=[.v (.pt x o)]:=rfl
theorem Us (x:PV) (o:Nat):PV.one (.pt x o)=true:=rfl
theorem OJ (x:PV) (o:Nat):AV.mQ (.v (.pt x o))=true:=rfl
theorem Uk (f:FuncId) (a c:List PV):PV.cells (.fc f a c)=[.fc f a c]:=rfl
theorem Oy (f:FuncId) (a c:List PV):AV.cells (.v (.fc f a c))=[.v (.fc f a c)]:=rfl
theorem Up (f:FuncId) (a c:List PV):PV.one (.fc f a c)=true:=rfl
theorem OG (f:FuncId) (a c:List PV):AV.mQ (.v (.fc f a c))=true:=rfl
theorem Sz:AV.cells (.ub)=[.ub]:=rfl
theorem SM:AV.mQ (.ub)=true:=rfl
theorem S1:AV.one (.ub)=true:=rfl
theorem Sv (n:Nat):AV.cells (.mp n)=[.mp n]:=rfl
theorem SH (n:Nat):AV.mQ (.mp n)=true:=rfl
theorem SV (n:Nat):AV.one (.mp n)=true:=rfl
theorem VD:AV.cells (.u)=[.u]:=rfl
theorem VG:AV.mQ (.u)=false:=rfl
theorem VI:AV.one (.u)=false:=rfl
theorem Ox (l:List AV):AV.cells (.tup l)=[.tup l]:=rfl
theorem OF (l:List AV):AV.mQ (.tup l)=false:=rfl
theorem OM (l:List AV):AV.one (.tup l)=false:=rfl
theorem Ow (l:List AV):AV.cells (.agg l)=l:=rfl
theorem OE (l:List AV):AV.mQ (.agg l)=l.all AV.one:=rfl
theorem OL (l:List AV):AV.one (.agg l)=false:=rfl
theorem VJ (x:PV):AV.one (.v x)=x.one:=rfl
theorem OD (l:List AV):AV.isAgg (.agg l)=True:=rfl
theorem VE (l:List PV):AV.isAgg (.v (.agg l))=True:=rfl
attribute [irreducible] KW CW RW OW CR GR BX PX CV wI NV
def Te:Nat->List PV->List (Nat×AV)
 | _,[]=>[]
 |i,x::l=>(i, .v x)::Te (i+1) l
def Ip:Nat->List AV->List (Nat×AV)
 | _,[]=>[]
 |i,x::l=>(i,x)::Ip (i+1) l
def Iq:Nat->List au->List (Nat×au)
 | _,[]=>[]
 |i,x::l=>(i,x)::Iq (i+1) l
theorem Tf (l:List PV):l.mapIdx (fun i x=>(i,AV.v x))=Te 0 l:=by
 have: ∀(l:List PV) (k:Nat),l.mapIdx (fun i x=>(i+k,AV.v x))=Te k l:=by
  intro l
  induction l with
  |nil=>intro k;rfl
  |cons x l ih=>
   intro k;rw[mE,Te,<-ih (k+1)];have e:(fun i (x:PV)=>(i+1+k,AV.v x))=fun i x=>(i+(k+1),AV.v x):=by funext i x;congr 1;omega
   rw[e];simp
 exact this l 0
theorem O9 (l:List AV):l.mapIdx (fun i x=>(i,x))=Ip 0 l:=by
 have: ∀(l:List AV) (k:Nat),l.mapIdx (fun i x=>(i+k,x))=Ip k l:=by
  intro l
  induction l with
  |nil=>intro k;rfl
  |cons x l ih=>
   intro k;rw[mE,Ip,<-ih (k+1)];have e:(fun i (x:AV)=>(i+1+k,x))=fun i x=>(i+(k+1),x):=by funext i x;congr 1;omega
   rw[e];simp
 exact this l 0
theorem Pa (l:List au):l.mapIdx (fun i x=>(i,x))=Iq 0 l:=by
 have: ∀(l:List au) (k:Nat),l.mapIdx (fun i x=>(i+k,x))=Iq k l:=by
  intro l
  induction l with
  |nil=>intro k;rfl
  |cons x l ih=>
   intro k;rw[mE,Iq,<-ih (k+1)];have e:(fun i (x:au)=>(i+1+k,x))=fun i x=>(i+(k+1),x):=by funext i x;congr 1;omega
   rw[e];simp
 exact this l 0
theorem aA.w {P:Program} [bY P] (hm:P.follows .mixedOrders=true) {f:FuncId} {fn:Func} {sc:SC} {rs:List ov} (hent:Enters P f f) (hfn:P.funcs[f]?=some fn) (hb:fn.body.isSome=true) (hc:comp P fn.ntmps (fn.body.getD .skip)=some sc) (hr:fG P fn.results.toList=some rs)
  {args:List PV} {r:PV} (hlen:Nat.ble args.length fn.ntmps=true) (h:CW P (HX rs r) sc [] ⟨Te 0 args,[],1000⟩):aA P f args r:=
 aA.mk' hm hent hfn hb hc hr (cC hlen) (by rw[Tf];exact CW.start h)
theorem iB.w {P:Program} [bY P] (hm:P.follows .mixedOrders=true) {f:FuncId} {fn:Func} {sc:SC} {rs:List ov} (hent:Enters P f f) (hfn:P.funcs[f]?=some fn) (hb:fn.body.isSome=true) (hc:comp P fn.ntmps (fn.body.getD .skip)=some sc) (hr:fG P fn.results.toList=some rs)
  {obs:List au} {args:List AV} {fs:List (Option (Option au))} {j:Option Nat} {nw:Option au} {v:AV} (hlen:Nat.ble args.length fn.ntmps=true) (h:CW P (ga rs obs fs j nw v) sc [] ⟨Ip 0 args,Iq 0 obs,1000⟩)
  {ns:List Nat} {nm:Nat} {obsA:List au} {avs:List AV} {v':AV} {up:List (Nat×Option au)} (hns:ns.length<=1000) (hnd:ns.Nodup) (hln:ns.length=obsA.length) (hob:aQ (au.aF (cq ns)) obsA=some obs) (hav:aQ (AV.aF (cq ns)) avs=some args)
  (hv:v.aF (gb ns nm)=some v') (hup:eK ns nm fs nw=some up):iB P f nm (ns.zip obsA) avs v' up:=
 iB.mk' hm hent hfn hb hc hr (cC hlen) (by rw[O9,Pa];exact h) hns hnd hln hob hav hv hup
attribute [go_sem] Bool.not_true Bool.not_false eq_self implies_true imp_false not_false_eq_true N3 R7 R4 N0 N2 N1 R6 R5 Sd Od Oc Oe Oa N9 Ob Sb Sa Sc N8 Vu AV.off AV.off.offL Sf Se Sg oW Sn Vx XW Vw Og Of XV Vl Vh Vk Vg JR XP Vs Vm Vi QY QX RX XI XK Vj X4 X3 H9 Ia Nw Nx ep cz cT SX.ev aK El FU aj Lv Dk kq AS.um AS.set Pu QD Oh Xx VB Oj Ol Ok Oi Om lenOf bounds oX rq AV.Wi AV.Ad AV.RA Fb iY aQ P8 Wj SA Wm SN Wk SD Wn SP Wl SE Wo SQ Qc Kc Qi Kh Uo OC Ut OK Ul Oz Uq OH P9 J9 Qe Ke Um OA Ur OI Qa Ka Qg Kf Qb Kb Qh Kg Qd J8 Kd VC VF VH Sw SI SW Sx SJ SY Su SG SU Sy SL SZ St SF SS VD VG VI Sv SH SV Ox OF OM Ow OE OL VJ OD VE u8 allM_nil allM_cons S5 xC Oo HZ Fh ne_eq Int.cast_ofNat_Int VP VQ List.flatten_cons List.flatten_nil List.flatMap_cons List.flatMap_nil IntKind.bits Nat.min_def List.take_length BO List.length_map IntWalk.i64_in IntWalk.u8_in IntWalk.u64_in decide_true decide_false Int.toNat_natCast Int.toNat_zero Int.toNat_one ite_true ite_false List.length_cons List.length_nil List.map_cons List.map_nil List.all_cons List.all_nil Bool.and_true Bool.true_and Bool.and_self Option.map_some Option.map_none List.take_succ_cons List.take_zero List.drop_succ_cons List.drop_zero List.take_nil List.drop_nil List.getD_cons_zero List.getD_cons_succ List.nil_append List.cons_append List.append_nil Nat.zero_add Nat.add_zero Nat.le_refl true_and and_true and_self true_implies forall_const Nat.mul_one Nat.one_mul Q4 iC iV jw EL List.isEmpty_cons List.isEmpty_nil Bool.or_true Bool.true_or Bool.false_or Bool.or_false Bool.and_false Bool.false_and HX Jk FJ view xR J0 JZ On J1 Te Ip Iq AV.nz PV.nz Un OB Us OJ Uk Oy Up OG Sz SM S1 Vq Vr
end Go.Dom
