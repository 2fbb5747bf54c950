/- Part of the proof. -/
import Derived.Test.YtnhhajlcpjgkjaaGreatDoorUB29
import Derived.Test.YtnhhajlcpjgkjaaGreatDoorUB26
set_option linter.all false
set_option maxHeartbeats 16000000
set_option maxRecDepth 100000
namespace Go.Proofs.Tryz
open Go Go.Dom
def iA (n:Nat):Bytes:=if n<10 then[UInt8.ofNat (48+n)]else[UInt8.ofNat (48+n/10),UInt8.ofNat (48+n%10)]
theorem oH (n:Nat):(iA n).length<=2:=by unfold iA;split<;>simp
theorem Vs: ∀n:Fin 10,List.drop n.val (List.take (n.val+1) ([48,49,50,51,52,53,54,55,56,57]:Bytes))=iA n.val:=by decide+kernel
theorem aaH: ∀n:Fin 10,List.drop n.val (List.take (n.val+1) ([48,49,50,51,52,53,54,55,56,57,97,98,99,100,101,102,103,104,105,106,107,108,109,110,111,112,113,114,115,116,117,118,119,120,121,122]:Bytes))=iA n.val:=by decide+kernel
def aa2:Bytes:=(List.range 100).flatMap fun n=>[UInt8.ofNat (48+n/10),UInt8.ofNat (48+n%10)]
theorem aaI: ∀n:Fin 100,10<=n.val->List.drop (n.val*2) (List.take (n.val*2+2) aa2)=iA n.val:=by decide+kernel
theorem PA (n:Nat) (hn:n<100):aE 517 [.i .i64 (n:Int)] (.s (iA n)):=by
 by_cases h:n<10
 ·have hb:=aaH ⟨n,h⟩;have t1: ∀ _:True,((n:Int)+1).toNat=n+1:=fun _=>oO
  have d1: ∀ _:True,((n:Int)<10)=True:=fun _=>by simp;omega
  refine eW call517 func517 ?_;repeat' first|simp only[go_sem,seval,t1 oT]|refine oE ?_|apply xX<;>intro hc
  all_goals first|omega|exact congrArg PV.s hb|skip
 ·have hb:=aaI ⟨n,hn⟩ (by simpa using h)
  have t1: ∀ _:True,((n:Int)*2+2).toNat=n*2+2:=fun _=>oO
  have t2: ∀ _:True,((n:Int)*2).toNat=n*2:=fun _=>oO
  refine eW call517 func517 ?_;repeat' first|simp only[go_sem,seval,t1 oT,t2 oT]|refine oE ?_|apply xX<;>intro hc
  all_goals first|omega|exact congrArg PV.s hb|skip
theorem CA (n:Nat) (hn:n<100):aE 332 [.i .i64 (n:Int)] (.s (iA n)):=by
 have h:=PA n hn;have hF:aE 490 [.i .i64 (n:Int), .i .i64 10] (.s (iA n)):=by
  refine eW call490 func490 ?_;exact z1 @h
 have hI:aE 432 [.i .i64 (n:Int)] (.s (iA n)):=by
  refine eW call432 func432 ?_;exact z1 @hF
 refine eW call332 func332 ?_;exact z1 @hI
theorem Cf (n:Nat) (h:n<10):aE 362 [.i .i64 (n:Int)] (.s (iA n)):=by
 have hb:=Vs ⟨n,h⟩;have t1: ∀ _:True,((n:Int)+1).toNat=n+1:=fun _=>oO
 refine eW call362 func362 ?_;repeat' first|simp only[go_sem,seval,t1 oT]|refine oE ?_|apply xX<;>intro hc
 all_goals first|omega|exact congrArg PV.s hb|skip
theorem xf (n:Nat) (hn:n<100):aE 362 [.i .i64 (n:Int)] (.s (iA n)):=by
 by_cases h:n<10
 ·exact Cf n h
 ·have h1:=Cf (n/10) oO;have hb:=Vs ⟨n%10,aQ _ oC⟩;have t1: ∀ _:True,(((n%10:Nat):Int)+1).toNat=n%10+1:=fun _=>oO
  have e:iA n=iA (n/10)++iA (n%10):=by
   unfold iA;rw[af h,ah oO,ah oO];rfl
  simp only at hb;rw[e];refine eW call362 func362 ?_;refine iy (t1 oT) @h1 ?_;have hb':List.drop (n%10) (48::List.take (n%10) ([49,50,51,52,53,54,55,56,57]:Bytes))=iA (n%10):=hb;have l1:=oH (n/10);have l2:=oH (n%10);rw[hb'];exact⟨oO,rfl,rfl⟩
abbrev H5:Bytes:=[118,97,114,105,97,98,108,101]
abbrev Gj:Bytes:=[98,97,115,101]
abbrev Pp:Bytes:=[99,111,101,102,102,105,99,105,101,110,116]
abbrev Dy:Bytes:=[101,113,117,97,116,105,111,110]
abbrev H4:Bytes:=[116,97,114,103,101,116]
abbrev uv:Bytes:=[103,114,111,117,112,115]
abbrev Ax:Bytes:=[98,111,117,110,100,115]
def r9 (st:Bytes) (t:dM):Bytes:=DG (gL (fH st H5 (iA t.var.toNat)) Gj [t.base]) Pp [(t.neg,t.abs)]
def r8 (st:Bytes) (q:c9):Bytes:=q.terms.foldl r9 (gL (fH st Dy (iA q.lL.toNat)) H4 [q.tgt])
def mJ (st:Bytes) (s:cG):Bytes:=s.eqs.foldl r8 (gL (gL st uv (s.groups.flatMap fun g=>[g.1,g.2])) Ax s.vars)
structure BdS (s:cG):Prop where
 g: ∃m o,s.groups=[(m,o)]/\m.length<=1000/\o.length<=1000
 v0:s.vars≠[]
 nv:s.vars.length<=64
 v: ∀b∈s.vars,b.length<=1000
 ne:s.eqs.length<=64
 q: ∀q∈s.eqs,0<=q.lL/\q.lL<100/\q.tgt.length<=1000/\ ∃t,q.terms=[t]/\0<=t.var/\t.var<100/\t.base.length<=1000/\t.abs.length<=1000
theorem pj {α β:Type} (f:β->α->β) (b:β) {l:List α} {i:Nat} (d:α) (h:i<l.length):(l.take (i+1)).foldl f b=f ((l.take i).foldl f b) (l.getD i d):=by
 rw[aL d h,List.foldl_append];rfl
theorem tx {P:Program} [cM P] {Q:AX->AS->Prop} {nx:Nat} {bf:Option (List Nat)} {nn:Nat} {d:Option Nat} {ops:List jD} {k:Nat} {s:AS} {tr:List (Nat×List Nat×List Nat)} {K:List Fr} {nm:Nat} {f:FuncId} {α:Type} {g:α->PV} {z n ver m:Nat} {l:List α} {gr:Bool} {el:Option TypeId} {x y r:PV}
  (he:qX P f [x,y, .sl (l.map g)] r) (hrow:cU g z) (hr:r.flat=true) (hg:aC s.h n=some ⟨ver,aT g l,gr,el⟩) (hm:m=l.length) (hK:RW P Q nx bf nn ops (k+1) (s.tc d (.v r) []) (x6 bf k [n] [] tr) K):
  CR P Q nx bf nn nm (.v (.fn (.func f))) [.v x, .v y, .rs n ver 0 m z] d ops k s tr K:=by
 refine fw he ?_ hr ?_
 ·simp[bc,kJ hrow hm hg];rfl
 ·have:[AV.v x,AV.v y,AV.rs n ver 0 m z].flatMap (bJ (aC s.h) 9)=[n]:=by simp[mY hrow hm hg];rfl
  rw[this];exact hK

abbrev F0:PV:= .agg [.sl []]
abbrev C0:PV:= .agg [.sl [], .sl []]
theorem Jc:aE 334 [F0] (.tup [E 0, .b true]):=by
 refine eW call334 func334 ?_;exact z0
theorem IV:aE 310 [F0,E 0] (E 0):=by
 refine eW call310 func310 ?_;exact z1 @Jc
theorem Vx:aE 207 [F0] (.tup [.s [],E 0]):=by
 refine eW call207 func207 ?_;exact z1 @Jc
theorem Iz:aE 186 [C0] (E 0):=by
 refine eW call186 func186 ?_;exact Xn @IV
theorem FU:aE 383 [F0] (.tup [E 0, .b true]):=by
 refine eW call383 func383 ?_;exact z0
theorem Ga:aE 371 [F0,E 0] (E 0):=by
 refine eW call371 func371 ?_;exact z1 @FU
theorem SS:aE 253 [F0] (.tup [.s [],E 0]):=by
 refine eW call253 func253 ?_;exact z1 @FU
theorem pD:aE 240 [C0] (.s []):=by
 refine eW call240 func240 ?_;exact Qc
theorem F3:aE 239 [C0] (E 0):=by
 refine eW call239 func239 ?_;exact Tm @Ga @pD
end Go.Proofs.Tryz
namespace Go.Proofs.Tryz
open Go Go.Dom Go.Num
theorem RT {c sl b:Bytes} (hr:tF c sl) (hb:b.length<=16):Od c sl b<da:=eR (Nat.sub_le _ _) (xM hr hb)
theorem Av {s:cG} (hs:UC s) (hv: ∀b∈s.vars,aa b=true):aE 372 [s.pv] (.b true):=by
 obtain⟨gs,vs,es⟩:=s;obtain⟨hg,hq,ng,nv,ne⟩:=hs;simp only at hg hv hq ng nv ne;have l1:(gs.map dO).length=gs.length:=aG ..;have l2:(vs.map cz).length=vs.length:=aG ..;have l3:(es.map c9.pv).length=es.length:=aG ..;unfold cG.pv;simp only;refine eW call372 func372 ?_;refine qi ?_;refine ak (α:=Nat) (fun i=>gs.length-i) (fun i=>⟨[(1, .p 1000 0 0),(3,E' i)],[(1000,⟨0,[.v (.sl (gs.map dO)), .v (.sl (vs.map cz)), .v (.sl (es.map c9.pv))],false,none⟩)],_⟩) (fun i=>i<=gs.length) 0 (fun _=>aD _) (aO _) ?_ ?_
 ·exact lE
 ·intro i hi R hR
  by_cases hlt:i<gs.length
  ·have e1:=getD_map dO gs eV hlt;have k:=hg _ (au eV hlt);have hgo:=hR (i+1) oO oO;obtain⟨x,hx⟩: ∃x,x=gs.getD i eV:=⟨_,rfl⟩;rw[<-hx]at e1 k;obtain⟨m,o⟩:=x;obtain⟨vm,vo,-⟩:=lO k.1;have v1:=aH m;have v2:=aH o;rw[vm]at v1;rw[vo]at v2;clear hR hx k vm vo;simp only[dO]at e1;exact uZ (aN @l1 @e1) @hgo @v1 @v2
  ·obtain rfl:i=gs.length:=oO;refine dH @l1 ?_;refine ak (α:=Nat) (fun i=>vs.length-i) (fun i=>⟨[(1, .p 1000 0 0),(4,E' i)],[(1000,⟨0,[.v (.sl (gs.map dO)), .v (.sl (vs.map cz)), .v (.sl (es.map c9.pv))],false,none⟩)],_⟩) (fun i=>i<=vs.length) 0 (fun _=>aD _) (aO _) ?_ ?_
   ·exact lE
   ·intro i hi R hR
    by_cases hlt:i<vs.length
    ·have e1:=getD_map cz vs [] hlt;have k:=hv _ (au [] hlt);have hgo:=hR (i+1) oO oO;obtain⟨x,hx⟩: ∃x,x=vs.getD i []:=⟨_,rfl⟩;rw[<-hx]at e1 k;have v1:=aH x;rw[k]at v1;clear hR hx k;simp only[cz]at e1;exact js (aN @l2 @e1) @hgo @v1
    ·obtain rfl:i=vs.length:=oO;refine dH @l2 ?_;refine ak (α:=Nat) (fun i=>es.length-i) (fun i=>⟨[(1, .p 1000 0 0),(5,E' i)],[(1000,⟨0,[.v (.sl (gs.map dO)), .v (.sl (vs.map cz)), .v (.sl (es.map c9.pv))],false,none⟩)],_⟩) (fun i=>i<=es.length) 0 (fun _=>aD _) (aO _) ?_ ?_
     ·exact lE
     ·intro i hi R hR
      by_cases hlt:i<es.length
      ·have e1:=getD_map c9.pv es fJ hlt;obtain⟨q1,q2,q3,q4,q5⟩:=hq _ (au fJ hlt);have hgo:=hR (i+1) oO oO;obtain⟨x,hx⟩: ∃x,x=es.getD i fJ:=⟨_,rfl⟩;rw[<-hx]at e1 q1 q2 q3 q4 q5;obtain⟨gr,tg,ts⟩:=x;simp only at q1 q2 q3 q4 q5;have hgE:=(hg _ (au eV (show gr.toNat<gs.length by omega))).1
       have v1:=aH tg;rw[gb hgE q3]at v1;have l4:(ts.map dM.pv).length=ts.length:=aG ..;simp only[c9.pv]at e1;clear hR hx q3;have hd1:decide (gr<0)=false:=bu oO;have hd2:decide (gr>=(gs.length:Int))=false:=bu oO;refine m9 (aN @l1 (aN @l3 (aN @l4 (aN @e1 (aN @hd1 @hd2))))) @v1 ?_;refine ak (α:=Nat) (fun i=>ts.length-i) (fun j=>⟨[(1, .p 1000 0 0),(5,E' i),(6, .p 1025 0 0),(7,E' j)],[(1000,⟨0,[.v (.sl (gs.map dO)), .v (.sl (vs.map cz)), .v (.sl (es.map c9.pv))],false,none⟩),(1025,⟨0,[.v (.i .i64 gr), .v (.s tg), .v (.sl (ts.map dM.pv))],false,some 184⟩)],_⟩) (fun i=>i<=ts.length) 0 (fun _=>aD _) (aO _) ?_ ?_
       ·exact lE
       ·intro j hj R' hR'
        by_cases hjt:j<ts.length
        ·have e2:=getD_map dM.pv ts dE hjt;obtain⟨t1,t2,t3,t4⟩:=q5 _ (au dE hjt);have hgo':=hR' (j+1) oO oO;obtain⟨y,hy⟩: ∃y,y=ts.getD j dE:=⟨_,rfl⟩;rw[<-hy]at e2 t1 t2 t3 t4;obtain⟨b,v,n,a⟩:=y;simp only at t1 t2 t3 t4;have v2:=aH b;rw[gb hgE t3]at v2;have v3:=iE n a;rw[show(aa a&& !(n&&a==[]))=true from t4]at v3
         simp only[dM.pv]at e2;clear hR' hy t3 t4 q5;have hd3:decide (v<0)=false:=bu oO;have hd4:decide (v>=(vs.length:Int))=false:=bu oO;refine tu (aN @l2 (aN @l4 (aN @e2 (aN @hd3 @hd4)))) @v2 @v3 ?_;refine hgo' _ ?_;exact lE
        ·obtain rfl:j=ts.length:=oO;exact jr (aN @l3 @l4) @hgo
      ·obtain rfl:i=es.length:=oO;exact fP @l3
theorem Gd {s:cG} (hs:UC s):aE 451 [s.pv] (.b false):=by
 obtain⟨gs,vs,es⟩:=s;obtain⟨hg,hq,ng,nv,ne⟩:=hs;simp only at hg hq ng nv ne;have l1:(gs.map dO).length=gs.length:=aG ..;have l2:(vs.map cz).length=vs.length:=aG ..;have l3:(es.map c9.pv).length=es.length:=aG ..;unfold cG.pv;simp only;refine eW call451 func451 ?_;refine qi ?_;refine ak (α:=Nat) (fun i=>es.length-i) (fun i=>⟨[(1, .p 1000 0 0),(3,E' i)],[(1000,⟨0,[.v (.sl (gs.map dO)), .v (.sl (vs.map cz)), .v (.sl (es.map c9.pv))],false,none⟩)],_⟩) (fun i=>i<=es.length) 0 (fun _=>aD _) (aO _) ?_ ?_
 ·exact lE
 ·intro i hi R hR
  by_cases hlt:i<es.length
  ·have e1:=getD_map c9.pv es fJ hlt;have q4:=(hq _ (au fJ hlt)).2.2.2.1;have hgo:=hR (i+1) oO oO;obtain⟨x,hx⟩: ∃x,x=es.getD i fJ:=⟨_,rfl⟩;rw[<-hx]at e1 q4;obtain⟨gr,tg,ts⟩:=x;simp only at q4;have l4:(ts.map dM.pv).length=ts.length:=aG ..;simp only[c9.pv]at e1;clear hR hx;exact jr (aN @l3 (aN @l4 @e1)) @hgo
  ·obtain rfl:i=es.length:=oO;have hd:decide ((es.length:Int)>64)=false:=bu oO;exact fP (aN @l1 (aN @l2 (aN @l3 @hd)))
theorem um {s:cG} (hs:UC s):aE 452 [s.pv] (.b true):=by
 obtain⟨gs,vs,es⟩:=s;obtain⟨hg,hq,ng,nv,ne⟩:=hs;simp only at hg hq ng nv ne;have l1:(gs.map dO).length=gs.length:=aG ..;have l3:(es.map c9.pv).length=es.length:=aG ..;unfold cG.pv;simp only;refine eW call452 func452 ?_;refine qi ?_;refine ak (α:=Nat) (fun i=>gs.length-i) (fun i=>⟨[(1, .p 1000 0 0),(3,E' i)],[(1000,⟨0,[.v (.sl (gs.map dO)), .v (.sl (vs.map cz)), .v (.sl (es.map c9.pv))],false,none⟩)],_⟩) (fun i=>i<=gs.length) 0 (fun _=>aD _) (aO _) ?_ ?_
 ·exact lE
 ·intro i hi R hR
  by_cases hlt:i<gs.length
  ·have e1:=getD_map dO gs eV hlt;have k:=hg _ (au eV hlt);have hgo:=hR (i+1) oO oO;obtain⟨x,hx⟩: ∃x,x=gs.getD i eV:=⟨_,rfl⟩;rw[<-hx]at e1 k;obtain⟨m,o⟩:=x;have v1:=nG k.2.1 k.2.2;rw[k.1]at v1;clear hR hx k;simp only[dO]at e1;exact js (aN @l1 @e1) @hgo @v1
  ·obtain rfl:i=gs.length:=oO;refine dH @l1 ?_;refine ak (α:=Nat) (fun i=>es.length-i) (fun i=>⟨[(1, .p 1000 0 0),(4,E' i)],[(1000,⟨0,[.v (.sl (gs.map dO)), .v (.sl (vs.map cz)), .v (.sl (es.map c9.pv))],false,none⟩)],_⟩) (fun i=>i<=es.length) 0 (fun _=>aD _) (aO _) ?_ ?_
   ·exact lE
   ·intro i hi R hR
    by_cases hlt:i<es.length
    ·have e1:=getD_map c9.pv es fJ hlt;obtain⟨q1,q2,q3,q4,q5⟩:=hq _ (au fJ hlt);have hgo:=hR (i+1) oO oO;obtain⟨x,hx⟩: ∃x,x=es.getD i fJ:=⟨_,rfl⟩;rw[<-hx]at e1 q1 q2 q3 q4 q5;obtain⟨gr,tg,ts⟩:=x;simp only at q1 q2 q3 q4 q5;have hgl:gr.toNat<gs.length:=oO;have kg:=hg _ (au eV hgl);have e3:=getD_map dO gs eV hgl;obtain⟨z,hz⟩: ∃z,z=gs.getD gr.toNat eV:=⟨_,rfl⟩;rw[<-hz]at q3 q5 kg e3;obtain⟨m,o⟩:=z;simp only at q3 q5 kg;have hIn: ∀{x:Bytes},jJ m o x=true->xq m o x=true:=fun h=>by simp[xq,kg.1,h]
     have v1:=oQ kg.2.1 kg.2.2 tg;rw[hIn q3]at v1;have v2:=oQ kg.2.1 kg.2.2;have l4:(ts.map dM.pv).length=ts.length:=aG ..;simp only[dO]at e3;simp only[c9.pv]at e1;clear hR hx hz q3;refine m9 (aN @l1 (aN @l3 (aN @e1 @e3))) @v1 ?_;refine ak (α:=Nat) (fun i=>ts.length-i) (fun j=>⟨[(1, .p 1000 0 0),(4,E' i),(5, .p 1019 0 0),(6, .p 1027 0 0),(7,E' j)],[(1000,⟨0,[.v (.sl (gs.map dO)), .v (.sl (vs.map cz)), .v (.sl (es.map c9.pv))],false,none⟩),(1019,⟨0,[.v (.i .i64 gr), .v (.s tg), .v (.sl (ts.map dM.pv))],false,some 184⟩),(1027,⟨0,[.v (.s m), .v (.s o)],false,some 26⟩)],_⟩) (fun i=>i<=ts.length) 0 (fun _=>aD _) (aO _) ?_ ?_
     ·exact lE
     ·intro j hj R' hR'
      by_cases hjt:j<ts.length
      ·have e2:=getD_map dM.pv ts dE hjt;have t3:=(q5 _ (au dE hjt)).2.2.1;have hgo':=hR' (j+1) oO oO;obtain⟨y,hy⟩: ∃y,y=ts.getD j dE:=⟨_,rfl⟩;rw[<-hy]at e2 t3;obtain⟨b,v,n,a⟩:=y;simp only at t3;have v3:=v2 b;rw[hIn t3]at v3;simp only[dM.pv]at e2;clear hR' hy t3 q5;refine iy (aN @l4 @e2) @v3 ?_;refine hgo' _ ?_;exact lE
      ·obtain rfl:j=ts.length:=oO;exact jr @l4 @hgo
    ·obtain rfl:i=es.length:=oO;exact fP @l3
theorem qM (s:cG) (hl:s.groups.length<1000000):aE 370 [s.pv] (.s (bj s.groups)):=by
 obtain⟨gs,vs,es⟩:=s;simp only at hl;have l1:(gs.map dO).length=gs.length:=aG ..;unfold cG.pv;simp only;refine eW call370 func370 ?_;refine qi ?_;refine ak (α:=Nat) (fun i=>gs.length-i) (fun i=>⟨[(1, .p 1000 0 0),(3,E' i)],[(1000,⟨0,[.v (.sl (gs.map dO)), .v (.sl (vs.map cz)), .v (.sl (es.map c9.pv))],false,none⟩)],_⟩) (fun i=>i<=gs.length/\bj (gs.drop i)=bj gs) 0 (fun _=>aD _) ⟨aO _,rfl⟩ ?_ ?_
 ·exact lE
 ·rintro i ⟨hi,hf⟩ R hR;rw[<-hf]
  by_cases hlt:i<gs.length
  ·have e1:=getD_map dO gs eV hlt;have hgo:=hR (i+1);rw[<-hf]at hgo;rw[aY eV hlt]at hgo⊢;obtain⟨x,hx⟩: ∃x,x=gs.getD i eV:=⟨_,rfl⟩;rw[<-hx]at e1 hgo⊢;clear hx hf hR;obtain⟨m,o⟩:=x;simp only[bj]at hgo⊢;simp only[dO]at e1
   by_cases ho:o=[]
   ·subst ho;simp only[aB]at hgo⊢;have hgo:=hgo ⟨oO,trivial⟩ oO;exact jr (aN @l1 (aN @e1 @nn)) @hgo
   ·have hb:(o==([]:Bytes))=false:=by simpa using ho
    rw[af ho];exact fP (aN @l1 (aN @e1 @hb))
  ·obtain rfl:i=gs.length:=oO;rw[dj];exact fP @l1
theorem JC (b:Bool) (a:Bytes):aE 389 [.b b, .s a] (.agg [.b (b&& !(a==[])), .s a]):=by
 refine eW call389 func389 ?_;exact zs0
theorem Lu (b:Bool) (a:Bytes):aE 464 [.agg [.b b, .s a]] (.agg [.b (!b&& !(a==[])), .s a]):=by
 have h:=JC (!b) a;refine eW call464 func464 ?_;exact z1 @h
theorem nH (n1 n2:Bool) {a1 a2:Bytes} (h1:a1.length<1048576) (h2:a2.length<1048576):aE 265 [.agg [.b n1, .s a1], .agg [.b n2, .s a2]] (.agg [.b ((n1 !=n2)&& !(bQ (num a1*num a2)==[])), .s (bQ (num a1*num a2))]):=by
 have ht:=ru a1 a2 h1 h2;have h:=JC (n1 !=n2) (bQ (num a1*num a2));refine eW call265 func265 ?_;exact z2 @ht @h
theorem LJ (l:List (Bool×Bytes)) (hl:l.length<1000000):aE 390 [.sl (l.map cI)] (.b (l.all cg)):=by
 have l5:(l.map cI).length=l.length:=aG ..;refine eW call390 func390 ?_;refine qi ?_;refine ak (α:=Nat) (fun i=>l.length-i) (fun i=>⟨[(0, .v (.sl (l.map cI))),(3,E' i)],[],_⟩) (fun i=>i<=l.length/\(l.drop i).all cg=l.all cg) 0 (fun _=>aD _) ⟨aO _,rfl⟩ ?_ ?_
 ·exact lE
 ·rintro i ⟨hi,hf⟩ R hR;rw[<-hf]
  by_cases hlt:i<l.length
  ·have e1:=getD_map cI l fm hlt;have hgo:=hR (i+1);rw[<-hf]at hgo;rw[aY fm hlt,List.all_cons]at hgo⊢;obtain⟨x,hx⟩: ∃x,x=l.getD i fm:=⟨_,rfl⟩;rw[<-hx]at e1 hgo⊢;clear hx hf hR;obtain⟨n,a⟩:=x;have hv:=iE n a;have e:cg (n,a)=(aa a&& !(n&&a==[])):=rfl;rw[e]at hgo⊢;clear e;simp only[cI]at e1;generalize (aa a&& !(n&&a==[]))=b at*;cases b
   ·repeat' first|simp only[go_sem,seval,l5,e1]|refine cP hv ?_|refine oE ?_|apply xX<;>intro hc
    all_goals simp
   ·have hgo:=hgo ⟨oO,by simp⟩ oO
    exact js (aN @l5 @e1) @hgo @hv
  ·obtain rfl:i=l.length:=oO;rw[dj];exact fP @l5
end Go.Proofs.Tryz
namespace Go.Proofs.Tryz
open Go Go.Dom
variable {b i x:Nat}
def rT (l:List (Bool×Bytes)):PV:= .sl (l.map cI)
theorem yJ (l:List (Bytes)) (f:FuncId) (p:Bytes->Bool) (hl:l.length<4611686018427387904) (h: ∀x,aE f [PV.s x] (.b (p x))):aE 268 [.sl (l.map PV.s), .fn (.func f)] (E (eK p 0 l)):=by
 have hlm:(l.map PV.s).length=l.length:=aG ..;refine eW call268 func268 ?_;refine dH @hlm ?_;refine ak (α:=Nat) (fun i=>l.length-i) (fun i=>⟨[(0, .v (.sl (l.map PV.s))),(1, .v (.fn (.func f))),(7, .v (.i .i64 l.length)),(8, .v (.i .i64 (i:Nat)))],[],_⟩) (fun i=>i<=l.length/\eK p i (l.drop i)=eK p 0 l) 0 (fun _=>aD _) ⟨aO _,rfl⟩ ?_ ?_
 ·exact lE
 ·rintro i ⟨hi,hx⟩ R hR;rw[<-hx]
  by_cases hlt:i<l.length
  ·have e1:=getD_map PV.s l [] hlt;have hf:=h (l.getD i []);have hgo:=hR (i+1);rw[<-hx,aY [] hlt]at hgo;rw[aY [] hlt];simp only[eK]at hgo⊢;clear hx hR h;generalize p (l.getD i [])=b at*;generalize l.getD i []=x at*;cases b
   ·have hgo:=hgo ⟨oO,rfl⟩ oO;exact js (aN @hlm @e1) @hgo @hf
   ·exact jE (aN @hlm @e1) @hf
  ·obtain rfl:i=l.length:=oO;rw[dj];repeat' first|simp only[go_sem,seval,hlm]|refine oE ?_|apply xX<;>intro hc
   all_goals simp[eK]
theorem iv (l:List (Bytes)) (f:FuncId) (p:Bytes->Bool) (hl:l.length<4611686018427387904) (h: ∀x,aE f [PV.s x] (.b (p x))):aE 131 [.sl (l.map PV.s), .fn (.func f)] (.b (l.any p)):=by
 have hi:=yJ l f p hl h;have e:decide (eK p 0 l>=0)=l.any p:=by
  rw[cX,decide_eq_true_iff];exact iY
 refine eW call131 func131 ?_;exact jE @e @hi
theorem AY (l:List (List (Bool×Bytes))) (f:FuncId) (c:List PV) (p:List (Bool×Bytes)->Bool) (hl:l.length<4611686018427387904) (h: ∀x∈l,aE f (rT x::c) (.b (p x))):aE 314 [.sl (l.map rT), .fc f [] c] (E (eK p 0 l)):=by
 have hlm:(l.map rT).length=l.length:=aG ..;refine eW call314 func314 ?_;refine dH @hlm ?_;refine ak (α:=Nat) (fun i=>l.length-i) (fun i=>⟨[(0, .v (.sl (l.map rT))),(1, .v (.fc f [] c)),(7, .v (.i .i64 l.length)),(8, .v (.i .i64 (i:Nat)))],[],_⟩) (fun i=>i<=l.length/\eK p i (l.drop i)=eK p 0 l) 0 (fun _=>aD _) ⟨aO _,rfl⟩ ?_ ?_
 ·exact lE
 ·rintro i ⟨hi,hx⟩ R hR;rw[<-hx]
  by_cases hlt:i<l.length
  ·have e1:=getD_map rT l [] hlt;have hf:=h (l.getD i []) (au [] hlt);have hgo:=hR (i+1);rw[<-hx,aY [] hlt]at hgo;rw[aY [] hlt];simp only[eK]at hgo⊢;clear hx hR h;generalize p (l.getD i [])=b at*;generalize l.getD i []=x at*;simp only[rT]at e1 hf;cases b
   ·have hgo:=hgo ⟨oO,rfl⟩ oO;repeat' first|simp only[go_sem,seval,hlm,e1]|(refine gQ hf (l9 _ _) ?_)|refine oE ?_|apply xX<;>intro hc
    refine hgo _ ?_;exact lE
   ·repeat' first|simp only[go_sem,seval,hlm,e1]|(refine gQ hf (l9 _ _) ?_)|refine oE ?_|apply xX<;>intro hc
    all_goals rfl
  ·obtain rfl:i=l.length:=oO;rw[dj];repeat' first|simp only[go_sem,seval,hlm]|refine oE ?_|apply xX<;>intro hc
   all_goals simp[eK]
theorem ov (l:List (List (Bool×Bytes))) (f:FuncId) (c:List PV) (p:List (Bool×Bytes)->Bool) (hl:l.length<4611686018427387904) (h: ∀x∈l,aE f (rT x::c) (.b (p x))):aE 189 [.sl (l.map rT), .fc f [] c] (.b (l.any p)):=by
 have hi:=AY l f c p hl h;have e:decide (eK p 0 l>=0)=l.any p:=by
  rw[cX,decide_eq_true_iff];exact iY
 refine eW call189 func189 ?_;exact jE @e @hi
theorem Nt (x:Bool×Bytes):aE 467 [cI x] (.b (!cg x)):=by
 obtain⟨n,a⟩:=x;have hv:=il n a;have e:cg (n,a)=(aa a&& !(n&&a==[])):=rfl;rw[e];generalize (aa a&& !(n&&a==[]))=b at*;simp only[cI];refine eW call467 func467 ?_;exact z1 @hv
abbrev X7:PV:= .pt (.agg [.fn (.func 467)]) 0
theorem Fh (l:List (Bool×Bytes)) (hl:l.length<4611686018427387904):aE 468 [rT l,X7] (.b (!l.all cg)):=by
 have h1:=gG l _ _ hl Nt;rw[jG]at h1;unfold rT;refine eW call468 func468 ?_;exact z1 @h1
theorem Nu (a:Bytes):aE 469 [.s a] (.b (!aa a)):=by
 have hv:=aI a;generalize aa a=b at*;refine eW call469 func469 ?_;exact z1 @hv
theorem aar (f:FuncId) (c:List PV):aE 131 [.sl [], .fc f [] c] (.b false):=by
 have hi:aE 268 [.sl [], .fc f [] c] (E (-1)):=by
  refine eW call268 func268 ?_;exact Qc
 refine eW call131 func131 ?_;exact z1 @hi
def j5 (k:Bytes) (c:UInt8) (i:Nat):Bytes:=(List.range 64).map fun j=>if j<i then k.getD j 0^^^c else k.getD j 0
def qh (k:Bytes) (c:UInt8):Bytes:=j5 k c 64
def qB (k:Bytes):Bytes:=if k.length>64 then lQ k else k
def C6 (k s:Bytes):Bytes:=lQ (qh (qB k) 92++lQ (qh (qB k) 54++s))
theorem eC (k:Bytes) (c:UInt8) (i:Nat):(j5 k c i).length=64:=by simp[j5]
theorem uD {k:Bytes} {c:UInt8} {j:Nat} (h:j<64):(j5 k c i).getD j 0=if j<i then k.getD j 0^^^c else k.getD j 0:=by
 simp[j5,b9,h]
theorem GG {k:Bytes} {c:UInt8} (h:i<64):(j5 k c i).set i (k.getD i 0^^^c)=j5 k c (i+1):=by
 apply rG
 ·simp[j5]
 ·intro n h1 h2;rw[D9];simp only[j5,DX,Em]
  by_cases hn:i=n
  ·subst hn;simp
  ·rw[af hn];have:(n<i)=(n<i+1):=by simp;omega
   simp only[this]
theorem Jn {k:Bytes} (c:UInt8) (h:k.length<=64):List.take k.length (aK k)++List.drop k.length (List.replicate 64 (AV.v (.i .u8 0)))=aK (j5 k c 0):=by
 rw[jw];unfold aK j5;apply rG
 ·simp;omega
 ·intro n h1 h2;simp only[aG,yg]at h2;simp only[DX,Em,rL,az]
  by_cases hn:n<k.length
  ·rw[List.getElem_append_left (by simpa using hn)]
   simp[b9,hn]
  ·rw[List.getElem_append_right (by simpa using hn)]
   simp only[List.getElem_drop,List.getElem_replicate];simp[b9,hn,u8]
theorem jv {l:Bytes} (h:i<l.length):(aK l).getD i .u= .v (u8 (l.getD i 0)):=by
 simp[aK,b9,h]
theorem MJ (l:Bytes) {o:Nat} (c:UInt8) (h:o<l.length):(aK l).take o++(.v (.i .u8 (c.toNat:Int))::(aK l).drop (o+1))=aK (l.set o c):=by
 unfold aK;rw[yi,yp];simp[h,u8]
theorem PZ (a c:UInt8):Fv .u8 (a.toNat:Int) (c.toNat:Int)=((a^^^c).toNat:Int):=by
 have:=TN .u8 rfl (a:=a.toNat) (b:=c.toNat) (by have:=a.toNat_lt;exact this) (by have:=c.toNat_lt;exact this)
 rw[this];simp
theorem Uu {k s:Bytes} (h0:k.length<1000000) (hs:s.length<1000000):aE 411 [.s k, .s s] (.s (C6 k s)):=by
 have hq:=vn (s:=k) oO;have hq2:(lQ k).length<=64:=by rw[fG];decide
 have hs1:=vn (s:=qh (qB k) 54++s) (by rw[bU,qh,eC];omega)
 have hs2:=vn (s:=qh (qB k) 92++lQ (qh (qB k) 54++s)) (by rw[bU,qh,eC,fG];omega)
 unfold C6
 by_cases hk:k.length<=64
 ·have e:qB k=k:=by unfold qB;rw[af oO]
  rw[e]at hs1 hs2⊢;clear hq hq2 h0;refine eW call411 func411 ?_;refine qi ?_;refine ak (α:=Nat) (fun i=>64-i) (fun i=>⟨[(1, .v (.s s)),(5, .p 1004 0 0),(6, .p 1005 0 0),(19,E' i)],[(1005,⟨0,aK (j5 k 92 i),false,some 465⟩),(1004,⟨0,aK (j5 k 54 i),false,some 465⟩)],_⟩) (fun i=>i<=64) 0 (fun _=>aD _) (aO _) ?_ ?_
  ·refine AS.Le.of oD ?_ ?_<;>simp[dw,du,aS,aC,AV.bd,ar,hk];exact⟨Jn 92 hk,Jn 54 hk⟩
  ·intro i hi R hR
   by_cases hlt:i<64
   ·have hgo:=hR (i+1) oO oO;have g1:(aK (j5 k 54 i)).getD i .u= .v (.i .u8 ((k.getD i 0).toNat:Int)):=by rw[jv (by rw[eC];exact hlt),uD hlt,af (nP i)];rfl
    have g2:(aK (j5 k 92 i)).getD i .u= .v (.i .u8 ((k.getD i 0).toNat:Int)):=by rw[jv (by rw[eC];exact hlt),uD hlt,af (nP i)];rfl
    have g3:=PZ (k.getD i 0) 54;have g4:=PZ (k.getD i 0) 92;have g5:((54:UInt8).toNat:Int)=54:=rfl;have g6:((92:UInt8).toNat:Int)=92:=rfl;rw[g5]at g3;rw[g6]at g4;refine eJ (aN @g1 (aN @g2 (aN @g3 (aN @g4 @eC)))) ?_;refine hgo _ ?_;have g7:=MJ (j5 k 92 i) (o:=i) (k.getD i 0^^^92) (by rw[eC];exact hlt)
    have g8:=MJ (j5 k 54 i) (o:=i) (k.getD i 0^^^54) (by rw[eC];exact hlt)
    rw[GG hlt]at g7 g8;refine AS.Le.of oD ?_ ?_<;>simp[dw,du,aS,aC,AV.bd,ar];exact⟨by simpa using g7,by simpa using g8⟩
   ·obtain rfl:i=64:=oO;have t1: ∀c,List.take 64 (aK (j5 k c 64))=aK (j5 k c 64):=fun c=>cZ (by rw[ko,eC];exact aD _)
    have t2: ∀l,(∀y,y∈aK l->y.isByte)=True:=fun l=>by
     simp only[eq_iff_iff,iff_true];intro y hy;obtain⟨c,-,rfl⟩:=cE.1 hy;simp[AV.isByte,u8,zu]
    unfold qh at hs1 hs2⊢;exact xi (aN @eC (aN @t1 (aN @t2 (aN @ju @fG)))) @hs1 @hs2
 ·have e:qB k=lQ k:=by unfold qB;rw[ah oO]
  rw[e]at hs1 hs2⊢;generalize lQ k=q at*;refine eW call411 func411 ?_;refine zx1 @hq ?_;clear hq h0 hk;have hk:=hq2;refine ak (α:=Nat) (fun i=>64-i) (fun i=>⟨[(1, .v (.s s)),(5, .p 1007 0 0),(6, .p 1008 0 0),(19,E' i)],[(1008,⟨0,aK (j5 q 92 i),false,some 465⟩),(1007,⟨0,aK (j5 q 54 i),false,some 465⟩)],_⟩) (fun i=>i<=64) 0 (fun _=>aD _) (aO _) ?_ ?_
  ·refine AS.Le.of oD ?_ ?_<;>simp[dw,du,aS,aC,AV.bd,ar,hk];exact⟨Jn 92 hk,Jn 54 hk⟩
  ·intro i hi R hR
   by_cases hlt:i<64
   ·have hgo:=hR (i+1) oO oO;have g1:(aK (j5 q 54 i)).getD i .u= .v (.i .u8 ((q.getD i 0).toNat:Int)):=by rw[jv (by rw[eC];exact hlt),uD hlt,af (nP i)];rfl
    have g2:(aK (j5 q 92 i)).getD i .u= .v (.i .u8 ((q.getD i 0).toNat:Int)):=by rw[jv (by rw[eC];exact hlt),uD hlt,af (nP i)];rfl
    have g3:=PZ (q.getD i 0) 54;have g4:=PZ (q.getD i 0) 92;have g5:((54:UInt8).toNat:Int)=54:=rfl;have g6:((92:UInt8).toNat:Int)=92:=rfl;rw[g5]at g3;rw[g6]at g4;refine eJ (aN @g1 (aN @g2 (aN @g3 (aN @g4 @eC)))) ?_;refine hgo _ ?_;have g7:=MJ (j5 q 92 i) (o:=i) (q.getD i 0^^^92) (by rw[eC];exact hlt)
    have g8:=MJ (j5 q 54 i) (o:=i) (q.getD i 0^^^54) (by rw[eC];exact hlt)
    rw[GG hlt]at g7 g8;refine AS.Le.of oD ?_ ?_<;>simp[dw,du,aS,aC,AV.bd,ar];exact⟨by simpa using g7,by simpa using g8⟩
   ·obtain rfl:i=64:=oO;have t1: ∀c,List.take 64 (aK (j5 q c 64))=aK (j5 q c 64):=fun c=>cZ (by rw[ko,eC];exact aD _)
    have t2: ∀l,(∀y,y∈aK l->y.isByte)=True:=fun l=>by
     simp only[eq_iff_iff,iff_true];intro y hy;obtain⟨c,-,rfl⟩:=cE.1 hy;simp[AV.isByte,u8,zu]
    unfold qh at hs1 hs2⊢;exact xi (aN @eC (aN @t1 (aN @t2 (aN @ju @fG)))) @hs1 @hs2
def Bg:Nat->Nat->Bytes
 |0,_=>[]
 |k+1,n=>Bg k (n/10)++[UInt8.ofNat (48+n%10)]
abbrev Xy:TypeId:=498
def z24:List AV:=List.replicate 24 (.v (.i .u8 0))
def Gu:Bytes:=(List.range 100).flatMap fun n=>[UInt8.ofNat (48+n/10),UInt8.ofNat (48+n%10)]
def o24 (k n:Nat):aJ:=⟨0,(AV.v (.i .u8 0)::((Bg k n).map fun c=>AV.v (u8 c)))++List.replicate (23-k) (AV.v (.i .u8 0)),false,some Xy⟩
theorem w32 (n:Nat):IntKind.u32.wrap (n:Int)=((n%4294967296:Nat):Int):=by rw[IntKind.wrap_u32];omega
theorem w8 (n:Nat):IntKind.u8.wrap (n:Int)=((UInt8.ofNat n).toNat:Int):=by rw[rE];simp
theorem i2 (n:Nat):(n:Int)*2=((n*2:Nat):Int):=oO
theorem i1 (n:Nat):(n:Int)+1=((n+1:Nat):Int):=oO
theorem i48 (n:Nat):(48:Int)+n=((48+n:Nat):Int):=oO
theorem q2 (x:Nat):x%100*2%4294967296=x%100*2:=oO
theorem q3 (x:Nat):(x%100*2+1)%4294967296=x%100*2+1:=oO
theorem dtF: ∀n:Fin 100,Gu.getD (n.val*2) 0=UInt8.ofNat (48+n.val/10)/\Gu.getD (n.val*2+1) 0=UInt8.ofNat (48+n.val%10):=by decide+kernel
theorem dt1 (x:Nat):Gu.getD (x%100*2+1) 0=UInt8.ofNat (48+x%10):=by
 have:=(dtF ⟨x%100,aQ _ oC⟩).2;rw[this];congr 2;simp only;omega
theorem dt2 (x:Nat):Gu.getD (x%100*2) 0=UInt8.ofNat (48+x/10%10):=by
 have:=(dtF ⟨x%100,aQ _ oC⟩).1;rw[this];congr 2;simp only;omega
theorem aa3:[48,48,48,49,48,50,48,51,48,52,48,53,48,54,48,55,48,56,48,57,49,48,49,49,49,50,49,51,49,52,49,53,49,54,49,55,49,56,49,57,50,48,50,49,50,50,50,51,50,52,50,53,50,54,50,55,50,56,50,57,51,48,51,49,51,50,51,51,51,52,51,53,51,54,51,55,51,56,51,57,52,48,52,49,52,50,52,51,52,52,52,53,52,54,52,55,52,56,52,57,53,48,53,49,53,50,53,51,53,52,53,53,53,54,53,55,53,56,53,57,54,48,54,49,54,50,54,51,54,52,54,53,54,54,54,55,54,56,54,57,55,48,55,49,55,50,55,51,55,52,55,53,55,54,55,55,55,56,55,57,56,48,56,49,56,50,56,51,56,52,56,53,56,54,56,55,56,56,56,57,57,48,57,49,57,50,57,51,57,52,57,53,57,54,57,55,57,56,57,57]=Gu:=by decide+kernel
theorem Zi:Gu.length=200:=by decide+kernel
theorem Yh {a b:AV} {l m:List AV} (h:a=b) (g:l=m):a::l=b::m:=by rw[h,g]
theorem dgE {a:Nat} (h:a=b):AV.v (.i .u8 ((UInt8.ofNat a).toNat:Int))=AV.v (.i .u8 ((UInt8.ofNat b).toNat:Int)):=by rw[h]
theorem dgA (h:x<100) (e:48+x/10=b):AV.v (.i .u8 ((Gu.getD (x*2%4294967296) 0).toNat:Int))=AV.v (.i .u8 ((UInt8.ofNat b).toNat:Int)):=by
 have:=dt2 x;rw[bE h]at this;rw[bE (show x*2<4294967296 by omega),this,<-e];congr 5;omega
theorem dgB (h:x<100) (e:48+x%10=b):AV.v (.i .u8 ((Gu.getD ((x*2%4294967296+1)%4294967296) 0).toNat:Int))=AV.v (.i .u8 ((UInt8.ofNat b).toNat:Int)):=by
 have:=dt1 x;rw[bE h]at this;rw[bE (show x*2<4294967296 by omega),bE (show x*2+1<4294967296 by omega),this,<-e]
theorem Z7:z24=[.v (.i .u8 0), .v (.i .u8 0), .v (.i .u8 0), .v (.i .u8 0), .v (.i .u8 0), .v (.i .u8 0), .v (.i .u8 0), .v (.i .u8 0), .v (.i .u8 0), .v (.i .u8 0), .v (.i .u8 0), .v (.i .u8 0), .v (.i .u8 0), .v (.i .u8 0), .v (.i .u8 0), .v (.i .u8 0), .v (.i .u8 0), .v (.i .u8 0), .v (.i .u8 0), .v (.i .u8 0), .v (.i .u8 0), .v (.i .u8 0), .v (.i .u8 0), .v (.i .u8 0)]:=rfl
theorem fbA {k:Nat} (hk:k=3\/k=4\/k=5\/k=6\/k=7\/k=8\/k=9\/k=10) (o nm u:Nat) (hu:u<10^k) (h32:u<4294967296):j4 prog 519 nm [(o,⟨0,z24,false,some Xy⟩)] [.rs o 0 1 k 1, .v (.i .u64 (u:Int))] (.tup []) [(o,some (o24 k u))]:=by
 have h1:u%4294967296=u:=oO;refine j4.w mixed call519 func519 rfl (ka.1 _ _ _ (by cbv)) (ka.2 _ _ (by cbv)) (obs:=[⟨0,z24,false,some Xy⟩]) (args:=[.rs 0 0 1 k 1, .v (.i .u64 (u:Int))]) (fs:=[some (some (o24 k u))]) (j:=none) (nw:=none) (v:= .tup []) (ns:=[o]) (obsA:=[⟨0,z24,false,some Xy⟩]) rfl ?_ (by simp) (by simp) rfl (by simp[bc,aJ.aX,AV.aX,AV.aX.renL,dz,z24]) (by simp[bc,AV.aX,AV.aX.renL,dz]) (by simp[AV.aX,AV.aX.renL]) (by rcases hk with rfl|rfl|rfl|rfl|rfl|rfl|rfl|rfl<;>simp[fL,outs,aJ.aX,AV.aX,AV.aX.renL,aM,gR,o24,Bg])
 rcases hk with rfl|rfl|rfl|rfl|rfl|rfl|rfl|rfl
 all_goals
  simp only[Nat.reducePow]at hu;simp only[go_sem,seval,Z7];repeat' first|simp only[go_sem,seval,true_or,or_true,false_or,or_false,aq,iQ,ff,ix,fF,gp,e7,pU,qj,gT,iC,dW,aR,AV.aX,AV.aX.renL,aM,w32,w8,i2,i1,i48,h1,q2,q3,aa3,Zi,dt1,dt2]|(refine aj ?_)|refine oE ?_|apply xX<;>intro hc
  all_goals first|decide|omega|skip
  all_goals (
   refine congrArg (fun l=>aJ.mk 0 l false (some Xy)) ?_
   simp only[Bg,mj,bV,ca,List.nil_append,List.cons_append,u8];repeat' (first|rfl|refine Yh ?_ ?_|fail)
   all_goals first|(refine dgE ?_;omega)|(refine dgA ?_ ?_<;>omega)|(refine dgB ?_ ?_<;>omega))
theorem VG (L:Nat) (h:L<=64):aE 532 [E L] (E (Lib.l10 L)):=by
 unfold Lib.l10;refine eW call532 func532 ?_;repeat' first|simp only[go_sem,seval]|refine oE ?_|apply xX<;>intro hc
 all_goals (rw[JU _ oC];first|rfl|(congr 1;omega))
theorem Tu (b:Bool):aE 533 [.b b] (E (if b then 1 else 0)):=by
 cases b
 ·refine eW call533 func533 ?_;exact z0
 ·refine eW call533 func533 ?_;exact z0
theorem Wn: ∀q:Fin 20,([.i .u64 1, .i .u64 10, .i .u64 100, .i .u64 1000, .i .u64 10000, .i .u64 100000, .i .u64 1000000, .i .u64 10000000, .i .u64 100000000, .i .u64 1000000000, .i .u64 10000000000, .i .u64 100000000000, .i .u64 1000000000000, .i .u64 10000000000000, .i .u64 100000000000000, .i .u64 1000000000000000, .i .u64 10000000000000000, .i .u64 100000000000000000, .i .u64 1000000000000000000, .i .u64 10000000000000000000]:List PV).getD q.val .fn0= .i .u64 (10^q.val:Nat):=by
 intro q;rcases q with⟨q,hq⟩
 rcases(by omega:q=0\/q=1\/q=2\/q=3\/q=4\/q=5\/q=6\/q=7\/q=8\/q=9\/q=10\/q=11\/q=12\/q=13\/q=14\/q=15\/q=16\/q=17\/q=18\/q=19)with rfl|rfl|rfl|rfl|rfl|rfl|rfl|rfl|rfl|rfl|rfl|rfl|rfl|rfl|rfl|rfl|rfl|rfl|rfl|rfl<;>rfl
theorem R9 (u:Nat) (h1:1<=u) (h2:u<(2^64)):aE 518 [.i .u64 (u:Int)] (E (Lib.nDigits u)):=by
 obtain⟨e1,e2⟩:=Lib.numDigits_eq u h1 h2;have hb:=EF u h2;have hbl:Lib.bitLen u<=64:=by unfold Lib.bitLen;exact Lib.bitLen_le u 64 (aD _) h2
 have hl:=VG (Lib.bitLen u) hbl;have hp:=Wn ⟨Lib.l10 (Lib.bitLen u),oO⟩;simp only at hp;have hp: ∀ _:True,_:=fun _=>hp
 have hp2:=cQ (n:=10) oC e2
 by_cases hq:10^Lib.l10 (Lib.bitLen u)<=u
 ·rw[ah hq]at e1;rw[<-e1];have hd: ∀ _:True,decide ((u:Int)>=((10^Lib.l10 (Lib.bitLen u):Nat):Int))=true:=fun _=>aU (by exact_mod_cast hq)
  have hc2:=Tu true;generalize Lib.l10 (Lib.bitLen u)=q at*;generalize 10^q=p at*;refine eW call518 func518 ?_;exact wO (aN (hp oT) (hd oT)) @hb @hl @hc2 oT
 ·rw[af hq]at e1;rw[<-e1];have hd: ∀ _:True,decide ((u:Int)>=((10^Lib.l10 (Lib.bitLen u):Nat):Int))=false:=fun _=>bu (by intro h;exact hq (by exact_mod_cast h))
  have hc2:=Tu false;generalize Lib.l10 (Lib.bitLen u)=q at*;generalize 10^q=p at*;refine eW call518 func518 ?_;exact wO (aN (hp oT) (hd oT)) @hb @hl @hc2 oT
theorem Na (k n:Nat):(Bg k n).length=k:=by
 induction k generalizing n with
 |zero=>rfl
 |succ k ih=>simp[Bg,ih]
theorem Rt: ∀(k n:Nat),Lib.nDigits n=k->Bg k n=Lib.decDigits n:=by
 intro k
 induction k with
 |zero=>intro n h;have:=Lib.nDigits_pos n;omega
 |succ k ih=>
  intro n h
  by_cases hn:n<10
  ·rw[Lib.nDigits_small hn]at h;obtain rfl:k=0:=oO;rw[Lib.decDigits_one hn];simp[Bg,bE hn]
  ·rw[Lib.nDigits_big hn]at h;rw[Bg,ih (n/10) oO]
   conv=>rhs;rw[Lib.decDigits,dif_neg hn]
theorem Um (n:Nat) (h1:100<=n) (h2:n<4294967296):aE 490 [.i .i64 (n:Int), .i .i64 10] (.s (Lib.decDigits n)):=by
 obtain⟨k,hk⟩: ∃k,Lib.nDigits n=k:=⟨_,rfl⟩;have hlt:=Lib.lt_pow_nDigits n;rw[<-Rt k n hk];have q: ∀j,10^j<=n->n<10^(j+1)->k=j+1:=fun j a b=>by rw[<-hk];exact Lib.nDigits_unique j n a b
 have hk8:k=3\/k=4\/k=5\/k=6\/k=7\/k=8\/k=9\/k=10:=by
  rcases(by omega:n<1000\/1000<=n/\n<10000\/10000<=n/\n<100000\/100000<=n/\n<1000000\/1000000<=n/\n<10000000\/10000000<=n/\n<100000000\/100000000<=n/\n<1000000000\/1000000000<=n/\n<10000000000)with g|g|g|g|g|g|g|g
  ·have:=q 2 oO oO;omega
  ·have:=q 3 oO oO;omega
  ·have:=q 4 oO oO;omega
  ·have:=q 5 oO oO;omega
  ·have:=q 6 oO oO;omega
  ·have:=q 7 oO oO;omega
  ·have:=q 8 oO oO;omega
  ·have:=q 9 oO oO;omega
 have hn:=R9 n oO oO;have hf:=fun nm=>fbA hk8 1009 nm n (by rw[<-hk];exact hlt) h2
 have hd:=Na k n;rw[hk]at hn;clear q hlt;rcases hk8 with rfl|rfl|rfl|rfl|rfl|rfl|rfl|rfl
 all_goals
  refine eW call490 func490 ?_;repeat' first|simp only[go_sem,seval,<-Z7,o24,Bg,u8,mj,List.nil_append,List.cons_append]|refine cP hn ?_|(refine bK (hf _) (by simp[aC]) ?_)|refine oE ?_|apply xX<;>intro hc
theorem Ru (n:Nat) (h:n<100):iA n=Lib.decDigits n:=by
 unfold iA
 by_cases g:n<10
 ·rw[ah g,Lib.decDigits_one g]
 ·rw[af g,Lib.decDigits_two g h]
theorem L8 (n:Nat) (h2:n<4294967296):aE 332 [.i .i64 (n:Int)] (.s (Lib.decDigits n)):=by
 by_cases h:n<100
 ·rw[<-Ru n h];exact CA n h
 have hF:=Um n oO h2;have hI:aE 432 [.i .i64 (n:Int)] (.s (Lib.decDigits n)):=by
  refine eW call432 func432 ?_;exact z1 @hF
 refine eW call332 func332 ?_;exact z1 @hI
end Go.Proofs.Tryz
namespace Go.Proofs.Tryz
open Go Go.Dom Go.RowKit Go.Shelf
theorem Hp: ∀(k u:Nat),u<10^(k+1)->Lib.nDigits u<=k+1:=by
 intro k
 induction k with
 |zero=>intro u h;rw[Lib.nDigits_small (by simpa using h)];exact aD _
 |succ k ih=>
  intro u h
  by_cases hu:u<10
  ·rw[Lib.nDigits_small hu];omega
  ·rw[Lib.nDigits_big hu];have:=ih (u/10) (by rw[Nat.pow_succ]at h;omega)
   omega
theorem pd {n:Nat} (h:n<4294967296):(Lib.decDigits n).length<=10:=by
 rw[Lib.decDigits_length];exact Hp 9 n (by omega)
def CG (at' a b:Nat):Bytes:=Lib.decDigits at'++[46]++Lib.decDigits a++[46]++Lib.decDigits b
def tJ (sd:Bytes) (at' a b:Nat):Bytes:=C6 sd (CG at' a b)
def Ki (sd:Bytes) (at' a:Nat) (b:Nat):Nat->List (List PV)
 |0=>[]
 |k+1=>[.s (tJ sd at' a b)]::Ki sd at' a (b+1) k
theorem Kj {vs:PV} {sd:Bytes} {at' a k:Nat} (hsd:sd.length<1000000) (hk:k<1000000) (ha:at'<4294967296) (ha2:a<4294967296):XM prog 410 [.pt (.agg [vs, .s sd, .i .i64 at']) 0, .pt (.agg [.i .i64 a]) 0] false (Ki sd at' a 0 k):=by
 refine⟨call410,?_⟩;intro w rd cvs l J Jx htr hcaps hrd hb hbx hY hfin h0;have hfin:=hfin rfl;obtain⟨p,us,rfl,hp,hcaps⟩:=hcaps.fI;obtain⟨q,us,rfl,hq,hnil⟩:=hcaps.fI;obtain rfl:=hnil.ec;obtain⟨bp,op,rfl,c1,c2⟩: ∃bp op,p= .pointer (some ⟨bp,op,none⟩)/\rd bp (op+1)=some (.string ⟨sd.toArray⟩)/\rd bp (op+2)=some (.int .i64 at'):=by
  cases hp with
  |pt x o vs' bk of h1 hl hr h=>
   have hv: ∀i,i<3-> ∃v,vs'[i]?=some v:=fun i hi=>⟨_,cb (by have:vs'.length=3:=hl.symm;omega)⟩
   obtain⟨a1,b1⟩:=hv 1 (by decide)
   obtain⟨a2,b2⟩:=hv 2 (by decide)
   have q1:=h 1 _ _ rfl b1;have q2:=h 2 _ _ rfl b2
   cases q1;cases q2
   exact⟨bk,of,rfl,hr 1 _ b1,hr 2 _ b2⟩
 obtain⟨bq,oq,rfl,c3⟩: ∃bq oq,q= .pointer (some ⟨bq,oq,none⟩)/\rd bq oq=some (.int .i64 a):=by
  cases hq with
  |pt x o vs' bk of h1 hl hr h=>
   obtain⟨v,rfl⟩:=pL.1 (show vs'.length=1 from hl.symm)
   have:=h 0 _ v rfl rfl;cases this;exact⟨bk,of,rfl,hr 0 _ rfl⟩
 refine callsIn_of_wp func410 rfl trivial ?_;simp only[Tryz.ntmps410,kY,List.length_cons,List.length_nil,Nat.reduceAdd,Nat.reduceSub,Ec,Array.replicate_zero,D0,Eo,List.nil_append,List.cons_append]
 gi_wp2
 gi_loopw [4] (fun p wr=> ∃b:Nat,p= .int .i64 (b:Int)/\b<=k/\J (Ki sd at' a b (k-b)) wr) (fun p wr=>match p with| .int _ n=>k-n.toNat| _=>0)
 case atStart=>
  exact⟨0,rfl,aO _,h0⟩
 case round=>
  obtain⟨b,rfl,hbk,hJ⟩:=hrel;have hlt:b<k:=by
   rcases lT b k with h|h
   ·exact h
   ·have:k-b=0:=by omega
    rw[this]at hJ;exact(hfin trivial _ hJ).elim
  obtain⟨m,hm⟩: ∃m,k-b=m+1:=⟨k-b-1,by omega⟩
  rw[hm]at hJ;change J ([.s (C6 sd (CG at' a b))]::Ki sd at' a (b+1) m) wr at hJ;have h1:=L8 at' ha;have h2:=L8 a ha2;have h3:=L8 b (by omega)
  have l1:=pd ha;have l2:=pd ha2;have l3:=pd (n:=b) (by omega)
  have hlN:(CG at' a b).length<1000000:=by simp[CG];omega
  refine wpIn_seq (wpIn_block (wpIn_seq ?_));refine wpIn_mono (Lm mixed (rd:=rd) (pvs:=[(1, .pt (.agg [vs, .s sd, .i .i64 at']) 0),(2, .pt (.agg [.i .i64 a]) 0),(4, .i .i64 b)]) (out:=[(5, .s (CG at' a b))]) (ka.1 26 _ _ (by cbv)) rfl htr (hrd _ _ hJ) ?hp (CW.start ?aw)) ?cont
  case hp=>
   intro p hm;simp only[cu,ir,or_false]at hm;rcases hm with rfl|rfl|rfl
   ·exact hp
   ·exact hq
   ·exact .i _ _
  case aw=>
   simp only[go_sem,seval];repeat' first|simp only[go_sem,seval,bU]|refine cP h1 ?_|refine cP h2 ?_|refine cP h3 ?_|refine oE ?_|apply xX<;>intro hc
   all_goals simp[CG]
  case cont=>
   rintro e ⟨t,df⟩ W2 ⟨rfl,⟨hdf,hsz,hbl,hout⟩,hkp⟩;have k0:=hkp.at 0 rfl;have k1:=hkp.at 1 rfl;have k2:=hkp.at 2 rfl;have k3:=hkp.at 3 rfl;have k4:=hkp.at 4 rfl;have k5:=hout _ (fz.2 rfl);have hl:=QV hsz;simp only[kY,List.length_cons,List.length_nil,ew,Nat.reduceAdd]at hl;rw[show List.range 26=[0,1,2,3,4,5,6,7,8,9,10,11,12,13,14,15,16,17,18,19,20,21,22,23,24,25]from rfl]at hl
   simp only[bV,ca]at hl;change t.getD 0 undef=Value.func (Fn.yield l) #[] #[]at k0;change t.getD 1 undef=Value.pointer (some ⟨bp,op,none⟩)at k1;change t.getD 2 undef=Value.pointer (some ⟨bq,oq,none⟩)at k2;change t.getD 3 undef=undef at k3;change t.getD 4 undef=Value.int .i64 b at k4;change PR _ _ (t.getD 5 undef)at k5;rw[k0,k1,k2,k3,k4]at hl;generalize t.getD 5 undef=v5 at hl k5;cases k5;obtain rfl:df=[]:=hdf;rw[hl];clear hl k0 k1 k2 k3 k4 hsz hout hkp;simp only[Exit.then];have hJ2:=hb _ _ _ hJ hbl;have d4:=hrd _ _ hJ2 _ _ _ (c1)
   gi_wp2
   refine⟨trivial,rfl,(qX.calls (Uu hsd hlN) call411 W2 rd [_,_] htr (hrd _ _ hJ2) ?_).mono ?_⟩
   ·exact .cons (.s _) (.cons (.s _) .nil)
   rintro x W3 ⟨v,rfl,hbl3,hpr⟩;cases hpr;have hJ3:=hb _ _ _ hJ2 hbl3;obtain⟨fn,tmps,assign,body,hy,hR⟩:=hY _ _ _ W3 hJ3 (.cons (.s _) .nil)
   gi_wp2
   refine⟨rfl,hR.mono ?_⟩;rintro x W4 (⟨rfl,hJ5⟩|⟨rfl,hJx⟩)
   ·have hw3:IntKind.i64.wrap ((b:Int)+1)=(b:Int)+1:=IntWalk.i64_in _ (by omega)
    gi_wp2
    refine⟨⟨b+1,by push_cast;rfl,by omega,by rw[show k-(b+1)=m from by omega];exact hJ5⟩,?_⟩
    ·show k-((b:Int)+1).toNat<k-(b:Int).toNat;omega
   ·gi_wp2
    refine bodyPost_ret (results_none rfl _ _ _) rfl ?_;exact⟨⟨_,rfl⟩, .inr hJx⟩
