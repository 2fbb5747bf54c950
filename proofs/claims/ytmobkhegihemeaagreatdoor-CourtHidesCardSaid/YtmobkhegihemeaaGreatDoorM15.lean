/-
  Part of the proof, part 15. Own work.
-/
import Derived.IntWalk
import Derived.Attr
import Derived.Test.YtmobkhegihemeaaGreatDoorM14
set_option linter.all false
namespace Go.Dom
open Go.RowKit
inductive Fr where
 |seq (b:SC)
 |blk (id:Nat)
 |lp (R:AS→Prop)
 |asg (b:SC)
 |rg (t0:List (Nat×AV)) (R:AS→Prop)
 |bk (ns:List Nat) (t0:List (Nat×AV)) (obs:List (Nat×Option AObj))
def KW (P:Program) [Tabs P] (Q:AX→AS→Prop):List Fr→AX→AS→Prop
 |[],e,s=>Q e s
 | .seq b::K, .normal,s=>aw P b (KW P Q K) s
 | .seq _::K, .exit j,s=>KW P Q K (.exit j) s
 | .seq _::K, .ret,s=>KW P Q K .ret s
 | .blk _::K, .normal,s=>KW P Q K .normal s
 | .blk id::K, .exit j,s=>if j=id then KW P Q K .normal s else KW P Q K (.exit j) s
 | .blk _::K, .ret,s=>KW P Q K .ret s
 | .lp R:: _, .normal,s=>R s
 | .lp _::K, .exit j,s=>KW P Q K (.exit j) s
 | .lp _::K, .ret,s=>KW P Q K .ret s
 | .asg b::K, .normal,s=>aw P b (KW P Q K) s
 | .asg _:: _, .exit _,_=>False
 | .asg _:: _, .ret,_=>False
 | .bk ns t0 obs::K,e,s=>(∀p∈s.h,∀c∈p.2.cells,c.off ns=true)∧KW P Q K e ⟨t0,hputs s.h obs,s.nx⟩
 | .rg t0 R:: _, .normal,s=>R {s with t:=t0}
 | .rg t0 _::K, .exit j,s=>KW P Q K (.exit j) {s with t:=t0}
 | .rg t0 _::K, .ret,s=>KW P Q K .ret {s with t:=t0}
section
variable (P:Program) [Tabs P] (Q:AX→AS→Prop)
def CW (sc:SC) (K:List Fr) (s:AS):Prop:=aw P sc (KW P Q K) s
def chkO (bf:Option (List Nat)) (tr:List (Nat×List Nat×List Nat)):Prop:=
 match bf with
 |none=>True
 |some b=>chk b tr=true
def trU (bf:Option (List Nat)) (k:Nat) (rs:List Nat) (up:List (Nat×Option AObj)) (tr:List (Nat×List Nat×List Nat)):List (Nat×List Nat×List Nat):=
 match bf with
 |none=>[]
 |some _=>(k,rs,up.map (·.1))::tr
def RW (nx:Nat) (bf:Option (List Nat)) (n:Nat) (ops:List SOp) (k:Nat) (s:AS) (tr:List (Nat×List Nat×List Nat)) (K:List Fr):Prop:=
 match bf with
 |none=>awOps P nx ops k s fun s'=>KW P Q K .normal {s' with nx:=n}
 |some b=>awTr P nx ops k s tr fun s' tr=>chk b tr=true∧KW P Q K .normal {s' with nx:=n}
def OW (nx:Nat) (bf:Option (List Nat)) (n:Nat) (x:Option AO) (d:Option Nat) (ops:List SOp) (k:Nat) (s:AS) (tr:List (Nat×List Nat×List Nat)) (K:List Fr):Prop:=
 optW x fun ao=>RW P Q nx bf n ops (k+1) (s.upd d ao.v ao.up) (trU bf k ao.rs ao.up tr) K
def CR (nx:Nat) (bf:Option (List Nat)) (n:Nat) (nm:Nat) (fv:AV) (avs:List AV) (d:Option Nat) (ops:List SOp) (k:Nat) (s:AS) (tr:List (Nat×List Nat×List Nat)) (K:List Fr):Prop:=
 CallW P nm s.h fv avs fun ao=>RW P Q nx bf n ops (k+1) (s.upd d ao.v ao.up) (trU bf k ao.rs ao.up tr) K
def GR (nx:Nat) (bf:Option (List Nat)) (n:Nat) (v:AV) (t:Nat) (want:Bool) (d:Option Nat) (o:SO) (ops:List SOp) (k:Nat) (s:AS) (tr:List (Nat×List Nat×List Nat)) (K:List Fr):Prop:=
 gdW v t want s (fun s=>RW P Q nx bf n (⟨d,o,none⟩::ops) k s tr K) (fun s=>RW P Q nx bf n ops (k+1) (s.upd d (.v (.tup [])) []) (trU bf k [] [] tr) K)
def CV (v:AV) (a b:SC) (K:List Fr) (s:AS):Prop:=condW v (CW P Q a K s) (CW P Q b K s)
inductive BK where
 |cw (a b:SC) (K:List Fr) (s:AS)
 |gd (nx:Nat) (bf:Option (List Nat)) (n:Nat) (t:Nat) (want:Bool) (d:Option Nat) (o:SO) (ops:List SOp) (k:Nat) (s:AS) (tr:List (Nat×List Nat×List Nat)) (K:List Fr)
 |ng (κ:BK)
def BX (c:Bool):BK→Prop
 | .cw a b K s=>bcase c (CW P Q a K s) (CW P Q b K s)
 | .gd nx bf n t want d o ops k s tr K=>GR P Q nx bf n (.v (.b c)) t want d o ops k s tr K
 | .ng κ=>BX (!c) κ
def PX (p:Prop) (κ:BK):Prop:=(p→BX P Q true κ)∧(¬p→BX P Q false κ)
def RgR (ps:List Nat) (a b:SC) (K:List Fr) (t0:List (Nat×AV)) (N:Nat) (fin:Bool) (xs:List (List PV)) (s:AS):Prop:=
 RngW (fun y Qx s1=>aw P a (fun e s2=>match e with
  | .normal=>aw P b Qx s2
  | _=>False) {s1 with t:=setPs s1.t ps y}) (KW P Q K) t0 N fin xs s
def LoopR (a:SC) (K:List Fr) (N:Nat) (s:AS):Prop:=LoopW (aw P a) (KW P Q K) N s
variable {P Q}
theorem CW.start {sc:SC} {s:AS} (h:CW P Q sc [] s):aw P sc Q s:=by
 have:KW P Q []=Q:=by funext e s;rfl
 unfold CW at h;rw[this]at h;exact h
theorem EvA.mk' {f:FuncId} {fn:Func} {sc:SC} {rs:List SRes} (hm:P.follows .mixedOrders=true) (hent:Enters P f f) (hfn:P.funcs[f]?=some fn) (hb:fn.body.isSome=true) (hc:comp P fn.ntmps (fn.body.getD .skip)=some sc) (hr:compRes P fn.results.toList=some rs)
  {obs:List AObj} {args:List AV} {fs:List (Option (Option AObj))} {j:Option Nat} {nw:Option AObj} {v:AV} (hlen:args.length≤fn.ntmps) (h:CW P (RetA rs obs fs j nw v) sc [] ⟨args.mapIdx (fun i x=>(i,x)),obs.mapIdx (fun i x=>(i,x)),1000⟩)
  {ns:List Nat} {nm:Nat} {obsA:List AObj} {avs:List AV} {v':AV} {up:List (Nat×Option AObj)} (hns:ns.length≤1000) (hnd:ns.Nodup) (hln:ns.length=obsA.length) (hob:mapO (AObj.ren (ixOf ns)) obsA=some obs) (hav:mapO (AV.ren (ixOf ns)) avs=some args)
  (hv:v.ren (bkOf ns nm)=some v') (hup:upsOf ns nm fs nw=some up):EvA P f nm (ns.zip obsA) avs v' up:=by
 obtain⟨code,hcode⟩:=Option.isSome_iff_exists.1 hb;rw[hcode]at hc;exact EvA.of_aw hm hent hfn hcode hc hr hlen (CW.start h) hns hnd hln hob hav hv hup
theorem CW_skip (K:List Fr) (s:AS):CW P Q .skip K s=KW P Q K .normal s:=rfl
theorem CW_seq (a b:SC) (K:List Fr) (s:AS):CW P Q (.seq a b) K s=CW P Q a (.seq b::K) s:=by
 simp only[CW,aw];congr 1
 funext e s'
 cases e<;>rfl
theorem CW_blk (id:Nat) (a:SC) (K:List Fr) (s:AS):CW P Q (.blk id a) K s=CW P Q a (.blk id::K) s:=by
 simp only[CW,aw];congr 1
 funext e s'
 cases e<;>rfl
theorem CW_cond (x:SX) (a b:SC) (K:List Fr) (s:AS):CW P Q (.cond x a b) K s=CV P Q (x.ev (tget s.t)) a b K s:=rfl
theorem CV_b (c:Bool) (a b:SC) (K:List Fr) (s:AS):CV P Q (.v (.b c)) a b K s=BX P Q c (.cw a b K s):=rfl
theorem BX_tc (a b:SC) (K:List Fr) (s:AS):BX P Q true (.cw a b K s)=CW P Q a K s:=by simp only[BX,bcase_true]
theorem BX_fc (a b:SC) (K:List Fr) (s:AS):BX P Q false (.cw a b K s)=CW P Q b K s:=by simp only[BX,bcase_false]
theorem BX_tn (κ:BK):BX P Q true (.ng κ)=BX P Q false κ:=by simp only[BX,Bool.not_true]
theorem BX_fn (κ:BK):BX P Q false (.ng κ)=BX P Q true κ:=by simp only[BX,Bool.not_false]
theorem BX_not (c:Bool) (κ:BK):BX P Q (!c) κ=BX P Q c (.ng κ):=by simp only[BX]
theorem BX_T {c:Bool} {κ:BK} (h:c=true):BX P Q c κ=BX P Q true κ:=by rw[h]
theorem BX_F {c:Bool} {κ:BK} (h:c=false):BX P Q c κ=BX P Q false κ:=by rw[h]
theorem PX_T {p:Prop} {κ:BK} (h:p):PX P Q p κ=BX P Q true κ:=by simp only[PX,h,true_implies,not_true_eq_false,false_implies,and_true]
theorem PX_F {p:Prop} {κ:BK} (h: ¬p):PX P Q p κ=BX P Q false κ:=by simp only[PX,h,false_implies,not_false_eq_true,true_implies,true_and]
theorem PX_t (κ:BK):PX P Q True κ=BX P Q true κ:=PX_T trivial
theorem PX_f (κ:BK):PX P Q False κ=BX P Q false κ:=PX_F id
theorem BX_d (p:Prop) [Decidable p] (κ:BK):BX P Q (decide p) κ=PX P Q p κ:=by
 by_cases h:p
 ·rw[BX_T (decide_eq_true h),PX_T h]
 ·rw[BX_F (decide_eq_false h),PX_F h]
theorem BX_e (x y:Int) (κ:BK):BX P Q (x==y) κ=PX P Q (x=y) κ:=by
 by_cases h:x=y
 ·rw[BX_T (by simpa using h),PX_T h]
 ·rw[BX_F (by simpa using h),PX_F h]
theorem BX_ne (x y:Int) (κ:BK):BX P Q (x !=y) κ=PX P Q (x=y) (.ng κ):=by
 by_cases h:x=y
 ·rw[BX_F (by simpa using h),PX_T h,BX_tn]
 ·rw[BX_T (by simpa using h),PX_F h,BX_fn]
theorem BX.mk {c:Bool} {κ:BK} (h1:c=true→BX P Q true κ) (h2:c=false→BX P Q false κ):BX P Q c κ:=by
 cases c
 ·exact h2 rfl
 ·exact h1 rfl
theorem PX.mk {p:Prop} {κ:BK} (h1:p→BX P Q true κ) (h2: ¬p→BX P Q false κ):PX P Q p κ:=⟨h1,h2⟩
theorem CV_ub (a b:SC) (K:List Fr) (s:AS):CV P Q .ub a b K s=(CW P Q a K s∧CW P Q b K s):=rfl
theorem CW_loop (a:SC) (K:List Fr) (s:AS):CW P Q (.loop a) K s=LoopR P Q a K s.nx s:=rfl
theorem CW_exit (id:Nat) (K:List Fr) (s:AS):CW P Q (.exit id) K s=KW P Q K (.exit id) s:=rfl
theorem CW_ret (K:List Fr) (s:AS):CW P Q .ret K s=KW P Q K .ret s:=rfl
theorem CW_reg (bf:Option (List Nat)) (ops:List SOp) (K:List Fr) (s:AS):CW P Q (.reg bf ops) K s=RW P Q s.nx bf (s.nx+ops.length) ops 0 s [] K:=by
 cases bf<;>rfl
theorem KW_nil (e:AX) (s:AS):KW P Q [] e s=Q e s:=rfl
theorem KW_seqN (b:SC) (K:List Fr) (s:AS):KW P Q (.seq b::K) .normal s=CW P Q b K s:=rfl
theorem KW_seqE (b:SC) (K:List Fr) (j:Nat) (s:AS):KW P Q (.seq b::K) (.exit j) s=KW P Q K (.exit j) s:=rfl
theorem KW_seqR (b:SC) (K:List Fr) (s:AS):KW P Q (.seq b::K) .ret s=KW P Q K .ret s:=rfl
theorem KW_blkN (i:Nat) (K:List Fr) (s:AS):KW P Q (.blk i::K) .normal s=KW P Q K .normal s:=rfl
theorem KW_blkE (i:Nat) (K:List Fr) (j:Nat) (s:AS):KW P Q (.blk i::K) (.exit j) s=if j=i then KW P Q K .normal s else KW P Q K (.exit j) s:=rfl
theorem KW_blkR (i:Nat) (K:List Fr) (s:AS):KW P Q (.blk i::K) .ret s=KW P Q K .ret s:=rfl
theorem CW_rng {x:SX} {ps:List Nat} {a b:SC} {K:List Fr} {s:AS} {g:FuncId} {caps:List PV} {fin:Bool} {xs:List (List PV)} (hi:ItP P g caps fin xs) (hx:x.ev (tget s.t)= .v (.fc g [] caps)) (hl: ∀y∈xs,y.length=ps.length) (h:RgR P Q ps a b K s.t s.nx fin xs s):CW P Q (.rng x ps a b) K s:=by
 have e:backQ [] s (KW P Q K)=KW P Q K:=by funext e s';simp[backQ]
 refine⟨g,caps,fin,xs,[],by rw[hx];rfl,by rw[hx];simp[viewN],by simp,hi,fun y hy=>⟨hl y hy, .inl rfl⟩,?_⟩
 rw[e];exact h
section
variable {ps:List Nat} {a b:SC} {K:List Fr} {t0:List (Nat×AV)} {N:Nat} {s:AS} {fin:Bool}
theorem rg_nil (h:KW P Q K .normal s):RgR P Q ps a b K t0 N true [] s:=fun X h1 _ _=>h1 _ rfl h
theorem rg_weak {s':AS} {ys:List (List PV)} (hN:N≤s'.nx) (hle:s'.Le s) (h:RgR P Q ps a b K t0 N fin ys s'):RgR P Q ps a b K t0 N fin ys s:=fun X h1 h2 h3=>h3 ys s' s hN hle (h X h1 h2 h3)
theorem rg_cons {y:List PV} {ys:List (List PV)} (h:CW P Q a (.asg b:: .rg t0 (RgR P Q ps a b K t0 N fin ys)::K) {s with t:=setPs s.t ps y}):RgR P Q ps a b K t0 N fin (y::ys) s:=by
 intro X h1 h2 h3;refine h2 y ys s (aw_mono (fun e s2 hs=> ?_) h)
 cases e with
 |normal=>
  refine aw_mono (fun e s3 hs3=> ?_) hs
  cases e with
  |normal=>exact hs3 X h1 h2 h3
  |exit j=>exact hs3
  |ret=>exact hs3
 |exit j=>exact hs
 |ret=>exact hs
theorem rg_runG {xs:List (List PV)} {α:Type} (st:α→AS) (ok:List (List PV)→α→Prop) (a0:α) (hN: ∀x,N≤(st x).nx) (h0:ok xs a0) (hle:(st a0).Le s) (hnil: ∀x,ok [] x→fin=true∧KW P Q K .normal (st x))
  (hcons: ∀y ys x,ok (y::ys) x→ ∀R:AS→Prop,(∀x',ok ys x'→ ∀s',(st x').Le s'→R s')→CW P Q a (.asg b:: .rg t0 R::K) {st x with t:=setPs (st x).t ps y}):RgR P Q ps a b K t0 N fin xs s:=by
 refine rg_weak (hN a0) hle ?_;clear hle
 induction xs generalizing a0 with
 |nil=>
  obtain⟨rfl,h⟩:=hnil a0 h0;exact rg_nil h
 |cons y ys ih=>exact rg_cons (hcons y ys a0 h0 _ fun x' hx' s' hs'=>rg_weak (hN x') hs' (ih x' hx'))
theorem rg_run {xs:List (List PV)} {α:Type} (st:α→AS) (ok:List (List PV)→α→Prop) (a0:α) (hN: ∀x,N≤(st x).nx) (h0:ok xs a0) (hle:(st a0).Le s) (hnil: ∀x,ok [] x→KW P Q K .normal (st x))
  (hcons: ∀y ys x,ok (y::ys) x→ ∀R:AS→Prop,(∀x',ok ys x'→ ∀s',(st x').Le s'→R s')→CW P Q a (.asg b:: .rg t0 R::K) {st x with t:=setPs (st x).t ps y}):RgR P Q ps a b K t0 N true xs s:=
 rg_runG st ok a0 hN h0 hle (fun x h=>⟨rfl,hnil x h⟩) hcons
theorem rg_runI {xs:List (List PV)} {α:Type} (st:α→AS) (ok:List (List PV)→α→Prop) (a0:α) (hN: ∀x,N≤(st x).nx) (h0:ok xs a0) (hle:(st a0).Le s) (hnil: ∀x,¬ok [] x)
  (hcons: ∀y ys x,ok (y::ys) x→ ∀R:AS→Prop,(∀x',ok ys x'→ ∀s',(st x').Le s'→R s')→CW P Q a (.asg b:: .rg t0 R::K) {st x with t:=setPs (st x).t ps y}):RgR P Q ps a b K t0 N false xs s:=
 rg_runG st ok a0 hN h0 hle (fun x h=>(hnil x h).elim) hcons
end
theorem KW_asgN (b:SC) (K:List Fr) (s:AS):KW P Q (.asg b::K) .normal s=CW P Q b K s:=rfl
theorem KW_bk (ns:List Nat) (t0:List (Nat×AV)) (obs:List (Nat×Option AObj)) (K:List Fr) (e:AX) (s:AS):KW P Q (.bk ns t0 obs::K) e s=((∀p∈s.h,∀c∈p.2.cells,c.off ns=true)∧KW P Q K e ⟨t0,hputs s.h obs,s.nx⟩):=rfl
theorem KW_rgN (t0:List (Nat×AV)) (R:AS→Prop) (K:List Fr) (s:AS):KW P Q (.rg t0 R::K) .normal s=R ⟨t0,s.h,s.nx⟩:=rfl
theorem KW_rgE (t0:List (Nat×AV)) (R:AS→Prop) (K:List Fr) (j:Nat) (s:AS):KW P Q (.rg t0 R::K) (.exit j) s=KW P Q K (.exit j) ⟨t0,s.h,s.nx⟩:=rfl
theorem KW_rgR (t0:List (Nat×AV)) (R:AS→Prop) (K:List Fr) (s:AS):KW P Q (.rg t0 R::K) .ret s=KW P Q K .ret ⟨t0,s.h,s.nx⟩:=rfl
theorem KW_lpN (R:AS→Prop) (K:List Fr) (s:AS):KW P Q (.lp R::K) .normal s=R s:=rfl
theorem KW_lpE (R:AS→Prop) (K:List Fr) (j:Nat) (s:AS):KW P Q (.lp R::K) (.exit j) s=KW P Q K (.exit j) s:=rfl
theorem KW_lpR (R:AS→Prop) (K:List Fr) (s:AS):KW P Q (.lp R::K) .ret s=KW P Q K .ret s:=rfl
section
variable (nx:Nat) (bf:Option (List Nat)) (n:Nat) (d:Option Nat) (ops:List SOp) (k:Nat) (s:AS) (tr:List (Nat×List Nat×List Nat)) (K:List Fr)
theorem RW_nil:RW P Q nx bf n [] k s tr K=(chkO bf tr∧KW P Q K .normal {s with nx:=n}):=by
 cases bf
 ·simp only[RW,awOps,chkO,true_and]
 ·rfl
def XW (P:Program) [Tabs P] (Q:AX→AS→Prop) (nx:Nat) (bf:Option (List Nat)) (n:Nat) (o:SO) (d:Option Nat) (ops:List SOp) (k:Nat) (s:AS) (tr:List (Nat×List Nat×List Nat)) (K:List Fr):Prop:=
 match o with
 | .call f args=>CR P Q nx bf n (nx+k) (f.ev (tget s.t)) (args.map (SX.ev (tget s.t))) d ops k s tr K
 |o=>OW P Q nx bf n (aop (nx+k) o (tget s.t) (hget s.h)) d ops k s tr K
theorem RW_op (o:SO):RW P Q nx bf n (⟨d,o,none⟩::ops) k s tr K=XW P Q nx bf n o d ops k s tr K:=by
 cases o<;>cases bf<;>rfl
theorem RW_gd (o:SO) (t:Nat) (want:Bool):RW P Q nx bf n (⟨d,o,some (t,want)⟩::ops) k s tr K=GR P Q nx bf n (tget s.t t) t want d o ops k s tr K:=by
 cases bf<;>rfl
theorem OW_some (v:AV) (p:Prop) (rs:List Nat) (up:List (Nat×Option AObj)):OW P Q nx bf n (some ⟨v,p,rs,up⟩) d ops k s tr K=(p∧RW P Q nx bf n ops (k+1) (s.upd d v up) (trU bf k rs up tr) K):=rfl
theorem OW_none:OW P Q nx bf n none d ops k s tr K=False:=rfl
theorem GR_b (x:Bool) (t:Nat) (want:Bool) (o:SO):GR P Q nx bf n (.v (.b x)) t want d o ops k s tr K=BX P Q x (.gd nx bf n t want d o ops k s tr K):=rfl
theorem BX_tT (t:Nat) (o:SO):BX P Q true (.gd nx bf n t true d o ops k s tr K)=RW P Q nx bf n (⟨d,o,none⟩::ops) k (s.set t (.v (.b true))) tr K:=by simp only[BX,GR,gdW,bcase_true]
theorem BX_fT (t:Nat) (o:SO):BX P Q false (.gd nx bf n t true d o ops k s tr K)=RW P Q nx bf n ops (k+1) ((s.set t (.v (.b false))).upd d (.v (.tup [])) []) (trU bf k [] [] tr) K:=by simp only[BX,GR,gdW,bcase_false]
theorem BX_tF (t:Nat) (o:SO):BX P Q true (.gd nx bf n t false d o ops k s tr K)=RW P Q nx bf n ops (k+1) ((s.set t (.v (.b true))).upd d (.v (.tup [])) []) (trU bf k [] [] tr) K:=by simp only[BX,GR,gdW,bcase_true]
theorem BX_fF (t:Nat) (o:SO):BX P Q false (.gd nx bf n t false d o ops k s tr K)=RW P Q nx bf n (⟨d,o,none⟩::ops) k (s.set t (.v (.b false))) tr K:=by simp only[BX,GR,gdW,bcase_false]
theorem GR_undef (t:Nat) (want:Bool) (o:SO):GR P Q nx bf n (.v (.tup [])) t want d o ops k s tr K=RW P Q nx bf n ops (k+1) (s.upd d (.v (.tup [])) []) (trU bf k [] [] tr) K:=by simp only[GR,gdW]
theorem chkO_none:chkO none tr=True:=rfl
theorem chkO_some (b:List Nat):chkO (some b) tr=(chk b tr=true):=rfl
theorem trU_none (rs:List Nat) (up:List (Nat×Option AObj)):trU none k rs up tr=[]:=rfl
theorem trU_some (b:List Nat) (rs:List Nat) (up:List (Nat×Option AObj)):trU (some b) k rs up tr=(k,rs,up.map (·.1))::tr:=rfl
theorem CR_pure {nx:Nat} {bf:Option (List Nat)} {n:Nat} {d:Option Nat} {ops:List SOp} {k:Nat} {s:AS} {tr:List (Nat×List Nat×List Nat)} {K:List Fr} {nm:Nat} {f:FuncId} {avs:List AV} {pvs:List PV} {r:PV} (he:EvP P f pvs r) (ha:pvArgs avs=some pvs) (hK:RW P Q nx bf n ops (k+1) (s.upd d (.v r) []) (trU bf k [] [] tr) K):
  CR P Q nx bf n nm (.v (.fn (.func f))) avs d ops k s tr K:=⟨_, .pure f avs pvs r rfl ha he,hK⟩
theorem CR_fn {nx:Nat} {bf:Option (List Nat)} {n:Nat} {d:Option Nat} {ops:List SOp} {k:Nat} {s:AS} {tr:List (Nat×List Nat×List Nat)} {K:List Fr} {nm:Nat} {f:FuncId} {a c avs:List AV}:
  CR P Q nx bf n nm (.fn (.func f) a c) avs d ops k s tr K=CR P Q nx bf n nm (.v (.fn (.func f))) (a++(avs++c)) d ops k s tr K:=by
 have h: ∀ao,ACall P nm (hget s.h) (.fn (.func f) a c) avs ao↔ACall P nm (hget s.h) (.v (.fn (.func f))) (a++(avs++c)) ao:=by
  intro ao;constructor
  ·intro h
   cases h with
   |pure f avs pvs r hfv hargs he=>exact .pure f avs pvs r hfv hargs he
   |view f avs pvs r hfv hargs hr he=>exact .view f avs pvs r hfv hargs hr he
   |give f avs pvs r hfv hargs hlo he=>exact .give f avs pvs r hfv hargs hlo he
   |eff f avs hs v up hfv hhs he=>exact .eff f avs hs v up hfv hhs he
   |same f v hfv he=>exact .same f v hfv he
   |ext f avs pvs r hfv hargs he=>exact .ext f avs pvs r hfv hargs he
  ·intro h
   cases h with
   |pure f avs pvs r hfv hargs he=>exact .pure f avs pvs r hfv hargs he
   |view f avs pvs r hfv hargs hr he=>exact .view f avs pvs r hfv hargs hr he
   |give f avs pvs r hfv hargs hlo he=>exact .give f avs pvs r hfv hargs hlo he
   |eff f avs hs v up hfv hhs he=>exact .eff f avs hs v up hfv hhs he
   |same f v hfv he=>exact .same f v hfv he
   |ext f avs pvs r hfv hargs he=>exact .ext f avs pvs r hfv hargs he
 unfold CR CallW;simp only[h]
theorem CR_fc {nx:Nat} {bf:Option (List Nat)} {n:Nat} {d:Option Nat} {ops:List SOp} {k:Nat} {s:AS} {tr:List (Nat×List Nat×List Nat)} {K:List Fr} {nm:Nat} {f:FuncId} {a c:List PV} {avs:List AV}:
  CR P Q nx bf n nm (.v (.fc f a c)) avs d ops k s tr K=CR P Q nx bf n nm (.v (.fn (.func f))) (a.map .v++(avs++c.map .v)) d ops k s tr K:=by
 have h: ∀ao,ACall P nm (hget s.h) (.v (.fc f a c)) avs ao↔ACall P nm (hget s.h) (.v (.fn (.func f))) (a.map .v++(avs++c.map .v)) ao:=by
  intro ao;constructor
  ·intro h
   cases h with
   |pure f avs pvs r hfv hargs he=>exact .pure f avs pvs r hfv hargs he
   |view f avs pvs r hfv hargs hr he=>exact .view f avs pvs r hfv hargs hr he
   |give f avs pvs r hfv hargs hlo he=>exact .give f avs pvs r hfv hargs hlo he
   |eff f avs hs v up hfv hhs he=>exact .eff f avs hs v up hfv hhs he
   |same f v hfv he=>exact .same f v hfv he
   |ext f avs pvs r hfv hargs he=>exact .ext f avs pvs r hfv hargs he
  ·intro h
   cases h with
   |pure f avs pvs r hfv hargs he=>exact .pure f avs pvs r hfv hargs he
   |view f avs pvs r hfv hargs hr he=>exact .view f avs pvs r hfv hargs hr he
   |give f avs pvs r hfv hargs hlo he=>exact .give f avs pvs r hfv hargs hlo he
   |eff f avs hs v up hfv hhs he=>exact .eff f avs hs v up hfv hhs he
   |same f v hfv he=>exact .same f v hfv he
   |ext f avs pvs r hfv hargs he=>exact .ext f avs pvs r hfv hargs he
 unfold CR CallW;simp only[h]
theorem CR_view {nx:Nat} {bf:Option (List Nat)} {n:Nat} {d:Option Nat} {ops:List SOp} {k:Nat} {s:AS} {tr:List (Nat×List Nat×List Nat)} {K:List Fr} {nm:Nat} {f:FuncId} {avs:List AV} {pvs:List PV} {r:PV} (he:EvP P f pvs r) (ha:mapO (view (hget s.h) 9) avs=some pvs) (hr:r.flat=true) (hK:RW P Q nx bf n ops (k+1) (s.upd d (.v r) []) (trU bf k (avs.flatMap (viewN (hget s.h) 9)) [] tr) K):
  CR P Q nx bf n nm (.v (.fn (.func f))) avs d ops k s tr K:=⟨_, .view f avs pvs r rfl ha hr he,hK⟩
theorem CR_give {nx:Nat} {bf:Option (List Nat)} {n:Nat} {d:Option Nat} {ops:List SOp} {k:Nat} {s:AS} {tr:List (Nat×List Nat×List Nat)} {K:List Fr} {nm:Nat} {f:FuncId} {avs:List AV} {pvs:List PV} {r:PV} (ns:List Nat) (he:EvP P f pvs r) (hlo:ns.all (fun n=>decide (1000≤n))=true) (hv:avs.flatMap (viewN (hget s.h) 9)=ns) (ha:mapO (view (hget s.h) 9) avs=some pvs)
  (hK:RW P Q nx bf n ops (k+1) (s.upd d (.v r) (ns.map fun n=>(n,none))) (trU bf k ns (ns.map fun n=>(n,none)) tr) K):
  CR P Q nx bf n nm (.v (.fn (.func f))) avs d ops k s tr K:=by
 subst hv;exact⟨_, .give f avs pvs r rfl ha (fun n hn=>of_decide_eq_true (List.all_eq_true.1 hlo n hn)) he,hK⟩
theorem CR_eff {nx:Nat} {bf:Option (List Nat)} {n:Nat} {d:Option Nat} {ops:List SOp} {k:Nat} {s:AS} {tr:List (Nat×List Nat×List Nat)} {K:List Fr} {nm:Nat} {f:FuncId} {avs:List AV} {hs:List (Nat×AObj)} {v:AV} {up:List (Nat×Option AObj)} (he:EvA P f nm hs avs v up) (hh: ∀p∈hs,hget s.h p.1=some p.2) (hK:RW P Q nx bf n ops (k+1) (s.upd d v up) (trU bf k (hs.map (·.1)) up tr) K):
  CR P Q nx bf n nm (.v (.fn (.func f))) avs d ops k s tr K:=⟨_, .eff f avs hs v up rfl hh he,hK⟩
theorem CR_same {nx:Nat} {bf:Option (List Nat)} {n:Nat} {d:Option Nat} {ops:List SOp} {k:Nat} {s:AS} {tr:List (Nat×List Nat×List Nat)} {K:List Fr} {nm:Nat} {f:FuncId} {v:AV} (he:EvS P f) (hK:RW P Q nx bf n ops (k+1) (s.upd d v []) (trU bf k [] [] tr) K):
  CR P Q nx bf n nm (.v (.fn (.func f))) [v] d ops k s tr K:=⟨_, .same f v rfl he,hK⟩
end
theorem CR_ext {nx:Nat} {bf:Option (List Nat)} {n:Nat} {d:Option Nat} {ops:List SOp} {k:Nat} {s:AS} {tr:List (Nat×List Nat×List Nat)} {K:List Fr} {nm:Nat} {f:FuncId} {avs:List AV} {pvs:List PV} {r:PV} (he:EvX P f pvs r) (ha:pvArgs avs=some pvs) (hK:RW P Q nx bf n ops (k+1) (s.upd d (.v r) []) (trU bf k [] [] tr) K):
  CR P Q nx bf n nm (.v (.fn (.func f))) avs d ops k s tr K:=⟨_, .ext f avs pvs r rfl ha he,hK⟩
theorem loop_unroll' {a:SC} {K:List Fr} {N:Nat} {s:AS} (h:CW P Q a (.lp (LoopR P Q a K N)::K) s):LoopR P Q a K N s:=by
 refine loop_unroll (aw_mono (fun e s' hs=> ?_) h)
 cases e<;>exact hs
theorem loop_run {a:SC} {K:List Fr} {N:Nat} {s:AS} {α:Type} (m:α→Nat) (st:α→AS) (ok:α→Prop) (a0:α) (hN: ∀x,N≤(st x).nx) (h0:ok a0) (hle:(st a0).Le s)
  (hr: ∀x,ok x→ ∀R:AS→Prop,(∀y,ok y→m y<m x→ ∀s',(st y).Le s'→R s')→CW P Q a (.lp R::K) (st x)):LoopR P Q a K N s:=by
 refine loop_down m st ok a0 hN h0 hle fun x hx=> ?_
 refine aw_mono (fun e s' hs=> ?_) (hr x hx (fun s'=> ∃y,ok y∧m y<m x∧(st y).Le s') fun y h1 h2 s' h3=>⟨y,h1,h2,h3⟩)
 cases e<;>exact hs
def LeT (t:List (Nat×AV)) (n:Nat):List (Nat×AV)→Prop
 |[]=>True
 |(k,v)::r=>tget t k=v∧v.bd n=true∧LeT t n r
def LeH (h:List (Nat×AObj)) (n:Nat):List (Nat×AObj)→Prop
 |[]=>True
 |(k,v)::r=>hget h k=some v∧k<n∧(∀c∈v.cells,c.bd n=true)∧LeH h n r
theorem AS.Le.ofZ {t t':List (Nat×AV)} {h h':List (Nat×AObj)} {n n':Nat} (z:List (Nat×PV)) (ns:List Nat) (hns: ∀m∈ns,1000≤m∧hget h m=none) (hz: ∀q∈z,view (hget h') 9 (tget t' q.1)=some q.2∧ ∀m∈viewN (hget h') 9 (tget t' q.1),m∈ns) (hn:n≤n') (ht:LeT t' n t) (hh:LeH h' n h):(AS.mk (z.map (fun q=>(q.1,AV.v q.2))++t) h n).Le ⟨t',h',n'⟩:=by
 have h1: ∀(t:List (Nat×AV)),LeT t' n t→ ∀p∈t,tget t' p.1=p.2∧p.2.bd n=true:=by
  intro t
  induction t with
  |nil=>intro _ p hp;cases hp
  |cons q t ih=>
   obtain⟨k,v⟩:=q;intro hq p hp;rcases List.mem_cons.1 hp with rfl|hp
   ·exact⟨hq.1,hq.2.1⟩
   ·exact ih hq.2.2 p hp
 have h2: ∀(h:List (Nat×AObj)),LeH h' n h→ ∀p∈h,hget h' p.1=some p.2∧p.1<n∧ ∀c∈p.2.cells,c.bd n=true:=by
  intro h
  induction h with
  |nil=>intro _ p hp;cases hp
  |cons q h ih=>
   obtain⟨k,v⟩:=q;intro hq p hp;rcases List.mem_cons.1 hp with rfl|hp
   ·exact⟨hq.1,hq.2.1,hq.2.2.1⟩
   ·exact ih hq.2.2.2 p hp
 refine⟨⟨ns,hns,fun p hp=> ?_⟩,fun p hp=>(h2 h hh p hp).1,hn,fun p hp=> ?_,fun p hp=>(h2 h hh p hp).2⟩<;>rcases List.mem_append.1 hp with hp|hp
 ·obtain⟨q,hq,rfl⟩:=List.mem_map.1 hp;exact .inr ⟨q.2,rfl,(hz q hq).1,(hz q hq).2⟩
 ·exact .inl (h1 t ht p hp).1
 ·obtain⟨q,hq,rfl⟩:=List.mem_map.1 hp;rfl
 ·exact(h1 t ht p hp).2
theorem AS.Le.of {t t':List (Nat×AV)} {h h':List (Nat×AObj)} {n n':Nat} (hn:n≤n') (ht:LeT t' n t) (hh:LeH h' n h):(AS.mk t h n).Le ⟨t',h',n'⟩:=AS.Le.ofZ [] [] (fun _ h=>by cases h) (fun _ h=>by cases h) hn ht hh
end
theorem allM_nil {α:Type} (p:α→Prop):(∀x,x∈([]:List α)→p x)=True:=by simp
theorem allM_cons {α:Type} (a:α) (l:List α) (p:α→Prop):(∀x,x∈a::l→p x)=(p a∧ ∀x,x∈l→p x):=by simp
theorem byte_i (k:IntKind) (n:Int):PV.byte (.i k n)=UInt8.ofNat n.toNat:=rfl
theorem isByte_i (n:Int):PV.isByte (.i .u8 n)=True:=rfl
theorem abyte_v (x:PV):AV.byte (.v x)=x.byte:=rfl
theorem aisByte_v (x:PV):AV.isByte (.v x)=x.isByte:=rfl
theorem ofNat_byte (c:UInt8):UInt8.ofNat c.toNat=c:=by simp
def bcells (l:Bytes):List AV:=l.map fun c=> .v (u8 c)
theorem bfold (l:Bytes):List.map (fun c:UInt8=>AV.v (PV.i IntKind.u8 (c.toNat:Int))) l=bcells l:=rfl
theorem bcells_len (l:Bytes):(bcells l).length=l.length:=by simp[bcells]
theorem bcells_take (l:Bytes):List.take l.length (bcells l)=bcells l:=List.take_of_length_le (by simp[bcells])
theorem bcells_app (l m:Bytes):bcells l++bcells m=bcells (l++m):=by simp[bcells]
theorem bcells_one (l:Bytes):(∀y,y∈bcells l→y.one=true)=True:=by
 simp only[eq_iff_iff,iff_true];intro y hy;obtain⟨c,-,rfl⟩:=List.mem_map.1 hy;rfl
theorem bcells_bd (l:Bytes) (n:Nat):(∀y,y∈bcells l→y.bd n=true)=True:=by
 simp only[eq_iff_iff,iff_true];intro y hy;obtain⟨c,-,rfl⟩:=List.mem_map.1 hy;rfl
theorem bcells_byte (l:Bytes):(bcells l).map AV.byte=l:=by
 induction l with
 |nil=>rfl
 |cons c l ih=>simp_all[bcells,AV.byte,PV.byte,u8]
theorem bcells_u8 (l:Bytes):(∀y,y∈bcells l→y= .v (u8 y.byte))=True:=by
 simp only[eq_iff_iff,iff_true];intro y hy;obtain⟨c,-,rfl⟩:=List.mem_map.1 hy;simp[AV.byte,PV.byte,u8]
theorem renL_bcells (f:Nat→Option Nat) (l:Bytes):AV.ren.renL f (bcells l)=some (bcells l):=by
 induction l with
 |nil=>rfl
 |cons c l ih=>
  have:AV.ren.renL f (AV.v (u8 c)::bcells l)=some (AV.v (u8 c)::bcells l):=by simp[AV.ren.renL,AV.ren,ih]
  exact this
theorem mapO_outC_bcells (k:Nat) (j:Option Nat) (s:AS) (l:Bytes):mapO (outC k j s) (bcells l)=some (bcells l):=by
 induction l with
 |nil=>rfl
 |cons c l ih=>
  have:mapO (outC k j s) (AV.v (u8 c)::bcells l)=some (AV.v (u8 c)::bcells l):=by simp[mapO,outC,viewC,view,ih]
  exact this
theorem cast0:((0:Nat):Int)=0:=rfl
theorem cast1:((1:Nat):Int)=1:=rfl
theorem take_len_map {α β:Type} (l:List α) (f:α→β):List.take l.length (l.map f)=l.map f:=by rw[←List.length_map (f:=f),List.take_length]
def cellsOf (l:List PV):List AV:=(l.flatMap PV.cells).map .v
theorem bd_cellsOf (l:List PV) (n:Nat):(∀c,c∈cellsOf l→c.bd n=true)=True:=by
 simp only[eq_iff_iff,iff_true];intro c hc;simp only[cellsOf,List.mem_map]at hc;obtain⟨y,-,rfl⟩:=hc;rfl
theorem mapO_view_v (hf:Nat→Option AObj) (f:Nat) (l:List PV):mapO (view hf (f+1)) (l.map .v)=some l:=by
 induction l with
 |nil=>rfl
 |cons x l ih=>simp[mapO,view,ih]
theorem pvc_agg (l:List PV):PV.cells (.agg l)=l:=rfl
theorem pvc_b (x:Bool):PV.cells (.b x)=[.b x]:=rfl
theorem avc_vb (x:Bool):AV.cells (.v (.b x))=[.v (.b x)]:=rfl
theorem pvo_b (x:Bool):PV.one (.b x)=true:=rfl
theorem avk_vb (x:Bool):AV.okc (.v (.b x))=true:=rfl
theorem pvc_i (k:IntKind) (n:Int):PV.cells (.i k n)=[.i k n]:=rfl
theorem avc_vi (k:IntKind) (n:Int):AV.cells (.v (.i k n))=[.v (.i k n)]:=rfl
theorem pvo_i (k:IntKind) (n:Int):PV.one (.i k n)=true:=rfl
theorem avk_vi (k:IntKind) (n:Int):AV.okc (.v (.i k n))=true:=rfl
theorem pvc_s (x:Bytes):PV.cells (.s x)=[.s x]:=rfl
theorem avc_vs (x:Bytes):AV.cells (.v (.s x))=[.v (.s x)]:=rfl
theorem pvo_s (x:Bytes):PV.one (.s x)=true:=rfl
theorem avk_vs (x:Bytes):AV.okc (.v (.s x))=true:=rfl
theorem pvc_tup (l:List PV):PV.cells (.tup l)=[.tup l]:=rfl
theorem avc_vtup (l:List PV):AV.cells (.v (.tup l))=[.v (.tup l)]:=rfl
theorem pvo_tup (l:List PV):PV.one (.tup l)=false:=rfl
theorem avk_vtup (l:List PV):AV.okc (.v (.tup l))=false:=rfl
theorem pvc_sl (l:List PV):PV.cells (.sl l)=[.sl l]:=rfl
theorem avc_vsl (l:List PV):AV.cells (.v (.sl l))=[.v (.sl l)]:=rfl
theorem pvo_sl (l:List PV):PV.one (.sl l)=true:=rfl
theorem avk_vsl (l:List PV):AV.okc (.v (.sl l))=true:=rfl
theorem pvc_fn (f:Fn):PV.cells (.fn f)=[.fn f]:=rfl
theorem avc_vfn (f:Fn):AV.cells (.v (.fn f))=[.v (.fn f)]:=rfl
theorem pvo_fn (f:Fn):PV.one (.fn f)=true:=rfl
theorem avk_vfn (f:Fn):AV.okc (.v (.fn f))=true:=rfl
theorem pvc_fn0:PV.cells (.fn0)=[.fn0]:=rfl
theorem avc_vfn0:AV.cells (.v (.fn0))=[.v (.fn0)]:=rfl
theorem pvo_fn0:PV.one (.fn0)=true:=rfl
theorem avk_vfn0:AV.okc (.v (.fn0))=true:=rfl
theorem pvc_p0:PV.cells (.p0)=[.p0]:=rfl
theorem avc_vp0:AV.cells (.v (.p0))=[.v (.p0)]:=rfl
theorem pvo_p0:PV.one (.p0)=true:=rfl
theorem avk_vp0:AV.okc (.v (.p0))=true:=rfl
theorem pvc_if0:PV.cells (.if0)=[.if0]:=rfl
theorem avc_vif0:AV.cells (.v (.if0))=[.v (.if0)]:=rfl
theorem pvo_if0:PV.one (.if0)=true:=rfl
theorem avk_vif0:AV.okc (.v (.if0))=true:=rfl
theorem pvc_ifc (t:TypeId) (v:PV):PV.cells (.ifc t v)=[.ifc t v]:=rfl
theorem avc_vifc (t:TypeId) (v:PV):AV.cells (.v (.ifc t v))=[.v (.ifc t v)]:=rfl
theorem pvo_ifc (t:TypeId) (v:PV):PV.one (.ifc t v)=true:=rfl
theorem avk_vifc (t:TypeId) (v:PV):AV.okc (.v (.ifc t v))=true:=rfl
theorem pvo_agg (l:List PV):PV.one (.agg l)=false:=rfl
theorem avc_vagg (l:List PV):AV.cells (.v (.agg l))=l.map .v:=rfl
theorem avk_vagg (l:List PV):AV.okc (.v (.agg l))=true:=rfl
theorem avc_p (n v o:Nat):AV.cells (.p n v o)=[.p n v o]:=rfl
theorem avk_p (n v o:Nat):AV.okc (.p n v o)=true:=rfl
theorem avo_p (n v o:Nat):AV.one (.p n v o)=true:=rfl
theorem avc_pp (x:PV) (o:Nat):AV.cells (.pp x o)=[.pp x o]:=rfl
theorem avk_pp (x:PV) (o:Nat):AV.okc (.pp x o)=true:=rfl
theorem avo_pp (x:PV) (o:Nat):AV.one (.pp x o)=true:=rfl
theorem avc_rs (n v o l z:Nat):AV.cells (.rs n v o l z)=[.rs n v o l z]:=rfl
theorem avk_rs (n v o l z:Nat):AV.okc (.rs n v o l z)=true:=rfl
theorem avo_rs (n v o l z:Nat):AV.one (.rs n v o l z)=true:=rfl
theorem avc_fs (l:List PV):AV.cells (.fs l)=[.fs l]:=rfl
theorem avk_fs (l:List PV):AV.okc (.fs l)=true:=rfl
theorem avo_fs (l:List PV):AV.one (.fs l)=true:=rfl
theorem avc_sn:AV.cells (.sn)=[.sn]:=rfl
theorem avk_sn:AV.okc (.sn)=true:=rfl
theorem avo_sn:AV.one (.sn)=true:=rfl
theorem avc_fn (f:Fn) (a c:List AV):AV.cells (.fn f a c)=[.fn f a c]:=rfl
theorem avk_fn (f:Fn) (a c:List AV):AV.okc (.fn f a c)=true:=rfl
theorem avo_fn (f:Fn) (a c:List AV):AV.one (.fn f a c)=true:=rfl
theorem pvc_pt (x:PV) (o:Nat):PV.cells (.pt x o)=[.pt x o]:=rfl
theorem avc_vpt (x:PV) (o:Nat):AV.cells (.v (.pt x o))=[.v (.pt x o)]:=rfl
theorem pvo_pt (x:PV) (o:Nat):PV.one (.pt x o)=true:=rfl
theorem avk_vpt (x:PV) (o:Nat):AV.okc (.v (.pt x o))=true:=rfl
theorem pvc_fc (f:FuncId) (a c:List PV):PV.cells (.fc f a c)=[.fc f a c]:=rfl
theorem avc_vfc (f:FuncId) (a c:List PV):AV.cells (.v (.fc f a c))=[.v (.fc f a c)]:=rfl
theorem pvo_fc (f:FuncId) (a c:List PV):PV.one (.fc f a c)=true:=rfl
theorem avk_vfc (f:FuncId) (a c:List PV):AV.okc (.v (.fc f a c))=true:=rfl
theorem avc_ub:AV.cells (.ub)=[.ub]:=rfl
theorem avk_ub:AV.okc (.ub)=true:=rfl
theorem avo_ub:AV.one (.ub)=true:=rfl
theorem avc_mp (n:Nat):AV.cells (.mp n)=[.mp n]:=rfl
theorem avk_mp (n:Nat):AV.okc (.mp n)=true:=rfl
theorem avo_mp (n:Nat):AV.one (.mp n)=true:=rfl
theorem avc_u:AV.cells (.u)=[.u]:=rfl
theorem avk_u:AV.okc (.u)=false:=rfl
theorem avo_u:AV.one (.u)=false:=rfl
theorem avc_tup (l:List AV):AV.cells (.tup l)=[.tup l]:=rfl
theorem avk_tup (l:List AV):AV.okc (.tup l)=false:=rfl
theorem avo_tup (l:List AV):AV.one (.tup l)=false:=rfl
theorem avc_agg (l:List AV):AV.cells (.agg l)=l:=rfl
theorem avk_agg (l:List AV):AV.okc (.agg l)=l.all AV.one:=rfl
theorem avo_agg (l:List AV):AV.one (.agg l)=false:=rfl
theorem avo_v (x:PV):AV.one (.v x)=x.one:=rfl
theorem avi_agg (l:List AV):AV.isAgg (.agg l)=True:=rfl
theorem avi_v (l:List PV):AV.isAgg (.v (.agg l))=True:=rfl
attribute [irreducible] KW CW RW OW CR GR BX PX CV LoopR RgR
def ent:Nat→List PV→List (Nat×AV)
 | _,[]=>[]
 |i,x::l=>(i, .v x)::ent (i+1) l
def entA:Nat→List AV→List (Nat×AV)
 | _,[]=>[]
 |i,x::l=>(i,x)::entA (i+1) l
def entO:Nat→List AObj→List (Nat×AObj)
 | _,[]=>[]
 |i,x::l=>(i,x)::entO (i+1) l
theorem ent_eq (l:List PV):l.mapIdx (fun i x=>(i,AV.v x))=ent 0 l:=by
 have: ∀(l:List PV) (k:Nat),l.mapIdx (fun i x=>(i+k,AV.v x))=ent k l:=by
  intro l
  induction l with
  |nil=>intro k;rfl
  |cons x l ih=>
   intro k;rw[List.mapIdx_cons,ent,←ih (k+1)];have e:(fun i (x:PV)=>(i+1+k,AV.v x))=fun i x=>(i+(k+1),AV.v x):=by funext i x;congr 1;omega
   rw[e];simp
 exact this l 0
theorem entA_eq (l:List AV):l.mapIdx (fun i x=>(i,x))=entA 0 l:=by
 have: ∀(l:List AV) (k:Nat),l.mapIdx (fun i x=>(i+k,x))=entA k l:=by
  intro l
  induction l with
  |nil=>intro k;rfl
  |cons x l ih=>
   intro k;rw[List.mapIdx_cons,entA,←ih (k+1)];have e:(fun i (x:AV)=>(i+1+k,x))=fun i x=>(i+(k+1),x):=by funext i x;congr 1;omega
   rw[e];simp
 exact this l 0
theorem entO_eq (l:List AObj):l.mapIdx (fun i x=>(i,x))=entO 0 l:=by
 have: ∀(l:List AObj) (k:Nat),l.mapIdx (fun i x=>(i+k,x))=entO k l:=by
  intro l
  induction l with
  |nil=>intro k;rfl
  |cons x l ih=>
   intro k;rw[List.mapIdx_cons,entO,←ih (k+1)];have e:(fun i (x:AObj)=>(i+1+k,x))=fun i x=>(i+(k+1),x):=by funext i x;congr 1;omega
   rw[e];simp
 exact this l 0
theorem EvP.w {P:Program} [Tabs P] (hm:P.follows .mixedOrders=true) {f:FuncId} {fn:Func} {sc:SC} {rs:List SRes} (hent:Enters P f f) (hfn:P.funcs[f]?=some fn) (hb:fn.body.isSome=true) (hc:comp P fn.ntmps (fn.body.getD .skip)=some sc) (hr:compRes P fn.results.toList=some rs)
  {args:List PV} {r:PV} (hlen:Nat.ble args.length fn.ntmps=true) (h:CW P (RetQ rs r) sc [] ⟨ent 0 args,[],1000⟩):EvP P f args r:=
 EvP.mk' hm hent hfn hb hc hr (Nat.le_of_ble_eq_true hlen) (by rw[ent_eq];exact CW.start h)
theorem EvA.w {P:Program} [Tabs P] (hm:P.follows .mixedOrders=true) {f:FuncId} {fn:Func} {sc:SC} {rs:List SRes} (hent:Enters P f f) (hfn:P.funcs[f]?=some fn) (hb:fn.body.isSome=true) (hc:comp P fn.ntmps (fn.body.getD .skip)=some sc) (hr:compRes P fn.results.toList=some rs)
  {obs:List AObj} {args:List AV} {fs:List (Option (Option AObj))} {j:Option Nat} {nw:Option AObj} {v:AV} (hlen:Nat.ble args.length fn.ntmps=true) (h:CW P (RetA rs obs fs j nw v) sc [] ⟨entA 0 args,entO 0 obs,1000⟩)
  {ns:List Nat} {nm:Nat} {obsA:List AObj} {avs:List AV} {v':AV} {up:List (Nat×Option AObj)} (hns:ns.length≤1000) (hnd:ns.Nodup) (hln:ns.length=obsA.length) (hob:mapO (AObj.ren (ixOf ns)) obsA=some obs) (hav:mapO (AV.ren (ixOf ns)) avs=some args)
  (hv:v.ren (bkOf ns nm)=some v') (hup:upsOf ns nm fs nw=some up):EvA P f nm (ns.zip obsA) avs v' up:=
 EvA.mk' hm hent hfn hb hc hr (Nat.le_of_ble_eq_true hlen) (by rw[entA_eq,entO_eq];exact h) hns hnd hln hob hav hv hup
attribute [go_sem] Bool.not_true Bool.not_false eq_self implies_true imp_false not_false_eq_true CW_skip CW_seq CW_blk CW_cond CW_loop CW_exit CW_ret CW_reg KW_nil KW_seqN KW_seqE KW_seqR KW_blkN KW_blkE KW_blkR KW_lpN KW_lpE KW_lpR KW_asgN KW_bk AV.off AV.off.offL KW_rgN KW_rgE KW_rgR setPs RW_nil RW_op XW RW_gd OW_some OW_none GR_b BX_tT BX_fT BX_tF BX_fF GR_undef CV_b CV_ub BX_tc BX_fc BX_tn BX_fn BX_not BX_d BX_e BX_ne PX_t PX_f chkO_none chkO_some trU_none trU_some aop retO retP SX.ev tget tput tdel hget hput hdel hputs AS.upd AS.set ibin sbin aBin aUn aLd aFad aIxs aIxa aExt aNck lenOf bounds srcOf fillA AV.pvL AV.pv1 AV.pv0 mkFc mkAgg mapO pvc_agg pvc_b avc_vb pvo_b avk_vb pvc_i avc_vi pvo_i avk_vi pvc_s avc_vs pvo_s avk_vs pvc_tup avc_vtup pvo_tup avk_vtup pvc_sl avc_vsl pvo_sl avk_vsl pvc_fn avc_vfn pvo_fn avk_vfn pvc_fn0 avc_vfn0 pvo_fn0 avk_vfn0 pvc_p0 avc_vp0 pvo_p0 avk_vp0 pvc_if0 avc_vif0 pvo_if0 avk_vif0 pvc_ifc avc_vifc pvo_ifc avk_vifc pvo_agg avc_vagg avk_vagg avc_p avk_p avo_p avc_pp avk_pp avo_pp avc_rs avk_rs avo_rs avc_fs avk_fs avo_fs avc_sn avk_sn avo_sn avc_fn avk_fn avo_fn avc_u avk_u avo_u avc_mp avk_mp avo_mp avc_tup avk_tup avo_tup avc_agg avk_agg avo_agg avo_v avi_agg avi_v u8 allM_nil allM_cons byte_i isByte_i abyte_v aisByte_v ofNat_byte ne_eq Int.cast_ofNat_Int cast0 cast1 List.flatten_cons List.flatten_nil List.flatMap_cons List.flatMap_nil IntKind.bits Nat.min_def List.take_length take_len_map List.length_map IntWalk.i64_in IntWalk.u8_in IntWalk.u64_in decide_true decide_false Int.toNat_natCast Int.toNat_zero Int.toNat_one ite_true ite_false List.length_cons List.length_nil List.map_cons List.map_nil List.all_cons List.all_nil Bool.and_true Bool.true_and Bool.and_self Option.map_some Option.map_none List.take_succ_cons List.take_zero List.drop_succ_cons List.drop_zero List.take_nil List.drop_nil List.getD_cons_zero List.getD_cons_succ List.nil_append List.cons_append List.append_nil Nat.zero_add Nat.add_zero Nat.le_refl true_and and_true and_self true_implies forall_const Nat.mul_one Nat.one_mul bfold bcells_len bcells_take bcells_app bcells_one List.isEmpty_cons List.isEmpty_nil Bool.or_true Bool.true_or Bool.false_or Bool.or_false Bool.and_false Bool.false_and RetQ resL resA view mkRes aPeq aCvp aSld aUst ent entA entO AV.nz PV.nz pvc_pt avc_vpt pvo_pt avk_vpt pvc_fc avc_vfc pvo_fc avk_vfc avc_ub avk_ub avo_ub CR_fc CR_fn
end Go.Dom
