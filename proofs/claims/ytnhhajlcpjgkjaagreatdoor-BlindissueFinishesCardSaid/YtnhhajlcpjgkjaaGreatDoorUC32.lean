/- Part of the proof. -/
import Derived.Test.YtnhhajlcpjgkjaaGreatDoorUC30
import Derived.Test.YtnhhajlcpjgkjaaGreatDoorUC31
set_option linter.all false
set_option maxHeartbeats 16000000
set_option maxRecDepth 100000
namespace Go.Proofs.Tryz
open Go Go.Dom
def iy (n:Nat):Bytes:=if n<10 then[UInt8.ofNat (48+n)]else[UInt8.ofNat (48+n/10),UInt8.ofNat (48+n%10)]
theorem nK (n:Nat):(iy n).length<=2:=by unfold iy;split<;>simp
theorem WX: ∀n:Fin 10,List.drop n.val (List.take (n.val+1) ([48,49,50,51,52,53,54,55,56,57]:Bytes))=iy n.val:=by decide+kernel
theorem Zn: ∀n:Fin 10,List.drop n.val (List.take (n.val+1) ([48,49,50,51,52,53,54,55,56,57,97,98,99,100,101,102,103,104,105,106,107,108,109,110,111,112,113,114,115,116,117,118,119,120,121,122]:Bytes))=iy n.val:=by decide+kernel
def ZR:Bytes:=(List.range 100).flatMap fun n=>[UInt8.ofNat (48+n/10),UInt8.ofNat (48+n%10)]
theorem Zo: ∀n:Fin 100,10<=n.val->List.drop (n.val*2) (List.take (n.val*2+2) ZR)=iy n.val:=by decide+kernel
theorem NP (n:Nat) (hn:n<100):aE 517 [.i .i64 (n:Int)] (.s (iy n)):=by
 by_cases h:n<10
 ·have hb:=Zn ⟨n,h⟩;have t1: ∀ _:True,((n:Int)+1).toNat=n+1:=fun _=>oO
  have d1: ∀ _:True,((n:Int)<10)=True:=fun _=>by simp;omega
  refine eW call517 func517 ?_;repeat' first|simp only[go_sem,seval,t1 oT]|refine oE ?_|apply xX<;>intro hc
  all_goals first|omega|exact congrArg PV.s hb|skip
 ·have hb:=Zo ⟨n,hn⟩ (by simpa using h)
  have t1: ∀ _:True,((n:Int)*2+2).toNat=n*2+2:=fun _=>oO
  have t2: ∀ _:True,((n:Int)*2).toNat=n*2:=fun _=>oO
  refine eW call517 func517 ?_;repeat' first|simp only[go_sem,seval,t1 oT,t2 oT]|refine oE ?_|apply xX<;>intro hc
  all_goals first|omega|exact congrArg PV.s hb|skip
theorem Bm (n:Nat) (hn:n<100):aE 332 [.i .i64 (n:Int)] (.s (iy n)):=by
 have h:=NP n hn;have hF:aE 490 [.i .i64 (n:Int), .i .i64 10] (.s (iy n)):=by
  refine eW call490 func490 ?_;exact z1 @h
 have hI:aE 432 [.i .i64 (n:Int)] (.s (iy n)):=by
  refine eW call432 func432 ?_;exact z1 @hF
 refine eW call332 func332 ?_;exact z1 @hI
theorem AT (n:Nat) (h:n<10):aE 362 [.i .i64 (n:Int)] (.s (iy n)):=by
 have hb:=WX ⟨n,h⟩;have t1: ∀ _:True,((n:Int)+1).toNat=n+1:=fun _=>oO
 refine eW call362 func362 ?_;repeat' first|simp only[go_sem,seval,t1 oT]|refine oE ?_|apply xX<;>intro hc
 all_goals first|omega|exact congrArg PV.s hb|skip
theorem vn (n:Nat) (hn:n<100):aE 362 [.i .i64 (n:Int)] (.s (iy n)):=by
 by_cases h:n<10
 ·exact AT n h
 ·have h1:=AT (n/10) oO;have hb:=WX ⟨n%10,aP _ oC⟩;have t1: ∀ _:True,(((n%10:Nat):Int)+1).toNat=n%10+1:=fun _=>oO
  have e:iy n=iy (n/10)++iy (n%10):=by
   unfold iy;rw[af h,ah oO,ah oO];rfl
  simp only at hb;rw[e];refine eW call362 func362 ?_;refine jd (t1 oT) @h1 ?_;have hb':List.drop (n%10) (48::List.take (n%10) ([49,50,51,52,53,54,55,56,57]:Bytes))=iy (n%10):=hb;have l1:=nK (n/10);have l2:=nK (n%10);rw[hb'];exact⟨oO,rfl,rfl⟩
abbrev GM:Bytes:=[118,97,114,105,97,98,108,101]
abbrev ER:Bytes:=[98,97,115,101]
abbrev NF:Bytes:=[99,111,101,102,102,105,99,105,101,110,116]
abbrev Cm:Bytes:=[101,113,117,97,116,105,111,110]
abbrev GL:Bytes:=[116,97,114,103,101,116]
abbrev sU:Bytes:=[103,114,111,117,112,115]
abbrev yX:Bytes:=[98,111,117,110,100,115]
def qS (st:Bytes) (t:eD):Bytes:=Cu (gb (fw st GM (iy t.var.toNat)) ER [t.base]) NF [(t.neg,t.abs)]
def qR (st:Bytes) (q:dr):Bytes:=q.terms.foldl qS (gb (fw st Cm (iy q.kR.toNat)) GL [q.tgt])
def lZ (st:Bytes) (s:cK):Bytes:=s.eqs.foldl qR (gb (gb st sU (s.groups.flatMap fun g=>[g.1,g.2])) yX s.vars)
structure BdS (s:cK):Prop where
 g: ∃m o,s.groups=[(m,o)]/\m.length<=1000/\o.length<=1000
 v0:s.vars≠[]
 nv:s.vars.length<=64
 v: ∀b∈s.vars,b.length<=1000
 ne:s.eqs.length<=64
 q: ∀q∈s.eqs,0<=q.kR/\q.kR<100/\q.tgt.length<=1000/\ ∃t,q.terms=[t]/\0<=t.var/\t.var<100/\t.base.length<=1000/\t.abs.length<=1000
theorem oj {α β:Type} (f:β->α->β) (b:β) {l:List α} {i:Nat} (d:α) (h:i<l.length):(l.take (i+1)).foldl f b=f ((l.take i).foldl f b) (l.getD i d):=by
 rw[aQ d h,List.foldl_append];rfl
theorem rY {P:Program} [cE P] {Q:AX->AS->Prop} {nx:Nat} {bf:Option (List Nat)} {nn:Nat} {d:Option Nat} {ops:List jE} {k:Nat} {s:AS} {tr:List (Nat×List Nat×List Nat)} {K:List Fr} {nm:Nat} {f:FuncId} {α:Type} {g:α->PV} {z n ver m:Nat} {l:List α} {gr:Bool} {el:Option TypeId} {x y r:PV}
  (he:p9 P f [x,y, .sl (l.map g)] r) (hrow:cT g z) (hr:r.flat=true) (hg:aB s.h n=some ⟨ver,aX g l,gr,el⟩) (hm:m=l.length) (hK:RW P Q nx bf nn ops (k+1) (s.rP d (.v r) []) (wA bf k [n] [] tr) K):
  CR P Q nx bf nn nm (.v (.fn (.func f))) [.v x, .v y, .rs n ver 0 m z] d ops k s tr K:=by
 refine e7 he ?_ hr ?_
 ·simp[aW,lU hrow hm hg];rfl
 ·have:[AV.v x,AV.v y,AV.rs n ver 0 m z].flatMap (bC (aB s.h) 9)=[n]:=by simp[oL hrow hm hg];rfl
  rw[this];exact hK

abbrev F0:PV:= .agg [.sl []]
abbrev C0:PV:= .agg [.sl [], .sl []]
theorem HS:aE 334 [F0] (.tup [E 0, .b true]):=by
 refine eW call334 func334 ?_;exact z0
theorem HB:aE 310 [F0,E 0] (E 0):=by
 refine eW call310 func310 ?_;exact z1 @HS
theorem TN:aE 207 [F0] (.tup [.s [],E 0]):=by
 refine eW call207 func207 ?_;exact z1 @HS
theorem Hj:aE 186 [C0] (E 0):=by
 refine eW call186 func186 ?_;exact YO @HB
theorem EC:aE 383 [F0] (.tup [E 0, .b true]):=by
 refine eW call383 func383 ?_;exact z0
theorem Ns:aE 371 [F0,E 0] (E 0):=by
 refine eW call371 func371 ?_;exact z1 @EC
theorem QU:aE 253 [F0] (.tup [.s [],E 0]):=by
 refine eW call253 func253 ?_;exact z1 @EC
theorem qk:aE 240 [C0] (.s []):=by
 refine eW call240 func240 ?_;exact On
theorem Nd:aE 239 [C0] (E 0):=by
 refine eW call239 func239 ?_;exact Sl @Ns @qk
end Go.Proofs.Tryz
namespace Go.Proofs.Tryz
open Go Go.Dom Go.Num
variable {c:Bytes}
theorem Bc (x:Bool×Bytes):aE 497 [cU x] (.b (!cr x)):=by
 obtain⟨n,a⟩:=x;have hv:=gO n a;have e:cr (n,a)=(aa a&& !(n&&a==[])):=rfl;rw[e];generalize (aa a&& !(n&&a==[]))=b at*;simp only[cU];refine eW call497 func497 ?_;exact z1 @hv
theorem NN (l:List (Bool×Bytes)) (hl:l.length<1000000):aE 441 [.sl (l.map cU)] (.b (l.all cr)):=by
 have h1:=fX l _ _ oO Bc;have e:(l.all cr)= !(l.any fun x=> !cr x):=by
  induction l with
  |nil=>rfl
  |cons x l ih=>
   have:=ih (by simp at hl;omega)
   rw[List.all_cons,List.any_cons,this]
   ·cases cr x<;>simp
   ·exact fX l _ _ (by simp at hl;omega) Bc
 rw[e];generalize (l.any fun x=> !cr x)=b at*
 refine eW call441 func441 ?_;exact z1 @h1
noncomputable def qN (M:Nat) (l:List (Bool×Bytes)) (x:Nat) (t:eD):Nat:=
 x*dw M (dw M (num t.base) t.neg (num t.abs)) (l.getD t.var.toNat fh).1 (num (l.getD t.var.toNat fh).2)%M
noncomputable def fP (gs:List (Bytes×Bytes)) (c:Bytes) (l:List (Bool×Bytes)) (q:dr):Nat:=
 q.terms.foldl (qN (num (gs.getD q.kR.toNat eU).1) l) (dw (num (gs.getD q.kR.toNat eU).1) (num q.tgt) (!(c==[])) (num c))
theorem nZ (vc:aa c=true):aE 77 [.agg [.b false, .s c]] (.agg [.b (!(c==[])), .s c]):=by
 have hv:=gO false c;rw[vc]at hv;have hm:=wa true c;rw[cj]at hm;refine eW call77 func77 ?_;exact z2 @hv @hm
theorem Cq {s:cK} (hs:Rx s) (h0:s.eqs≠[]) (vc:aa c=true) {l:List (Bool×Bytes)} (hlen:l.length=s.vars.length) (hl: ∀x∈l,cr x=true):aE 443 [s.pv, .s c, .sl (l.map cU)] (.sl (s.eqs.map fun q=>N (fP s.groups c l q))):=by
 obtain⟨gs,vs,es⟩:=s;obtain⟨hg,hq,ng,nv,ne⟩:=hs;simp only at hg hq ng nv ne h0 hlen;have hpos:0<es.length:=lh.2 h0;have l1:(gs.map dS).length=gs.length:=aL ..;have l3:(es.map dr.pv).length=es.length:=aL ..;have l5:(l.map cU).length=l.length:=aL ..;have fr:=mG vc;have ng':=nZ vc;have hM:cT (fun q=>N (fP gs c l q)) 1:=⟨fun _=>rfl,fun _ y hy=>by cases fR.1 hy;rfl,fun _ _=>rfl,fun h=>aM rfl h⟩
 have row1: ∀{i:Nat},i<es.length->aX (fun q=>N (fP gs c l q)) (es.take (i+1))=aX (fun q=>N (fP gs c l q)) (es.take i)++[.v (N (fP gs c l (es.getD i gN)))]:=fun h=>by
  rw[aQ gN h,cu];rfl
 have rn1:aX (fun q=>N (fP gs c l q)) []=[]:=rfl
 unfold cK.pv;simp only;refine eW call443 func443 ?_;refine dY @l3 ?_;refine aj ?_;have e1:=getD_map dr.pv es gN hpos;obtain⟨q1,q2,q3,q4,q5⟩:=hq _ (aC gN hpos);have r1:=row1 hpos;obtain⟨x,hx⟩: ∃x,x=es.getD 0 gN:=⟨_,rfl⟩;rw[<-hx]at e1 q1 q2 q3 q4 q5 r1;clear hx;obtain⟨gr,tg,ts⟩:=x;simp only at q1 q2 q3 q4 q5;have hgl:gr.toNat<gs.length:=oO;have kg:=hg _ (aC eU hgl);have e3:=getD_map dS gs eU hgl;have hmQ:fP gs c l ⟨gr,tg,ts⟩=ts.foldl (qN (num (gs.getD gr.toNat eU).1) l) (dw (num (gs.getD gr.toNat eU).1) (num tg) (!(c==[])) (num c)):=rfl;obtain⟨z,hz⟩: ∃z,z=gs.getD gr.toNat eU:=⟨_,rfl⟩;rw[<-hz]at q3 q5 kg e3 hmQ;clear hz;obtain⟨m,o⟩:=z;simp only at q3 q5 kg hmQ;obtain⟨vt,gt⟩:=(cL kg.1).1 q3;have m1:=(mc kg.1).2.2.1;have hzc:(!(c==[])&&c==[])=false:=by cases(c==([]:Bytes))<;>rfl
 have xe:=qh kg.2.1 kg.2.2 kg.1 gt vc hzc;rw[dZ vt]at xe;have gx0:=gt.dw m1 (!(c==[])) (num c);obtain⟨x0,hx0⟩: ∃x0,x0=dw (num m) (num tg) (!(c==[])) (num c):=⟨_,rfl⟩;rw[<-hx0]at xe gx0 hmQ;rw[hmQ]at r1;clear hx0 hmQ gt vt;have l4:(ts.map eD.pv).length=ts.length:=aL ..;simp only[dS]at e3;simp only[dr.pv]at e1;refine tN (aN @l1 (aN @l3 (aN @e1 (aN @e3 @l4)))) @fr @ng' @xe oT ?_;refine ak (α:=Nat×Nat) (fun s=>ts.length-s.1) (fun s=>⟨[(1, .v (.s c)),(2, .v (.sl (l.map cU))),(3, .p 1000 0 0),(7, .sn),(18, .v (.sl (es.map dr.pv))),(19,E' es.length),(20,E' 0),(10, .p 1018 0 0),(11, .v (N s.2)),(41, .v (.sl (ts.map eD.pv))),(42,E' ts.length),(43,E' s.1)],[(1000,⟨0,[.v (.sl (gs.map dS)), .v (.sl (vs.map cO)), .v (.sl (es.map dr.pv))],false,none⟩),(1018,⟨0,[.v (.s m), .v (.s o)],false,some 26⟩)],1036⟩) (fun s=>s.1<=ts.length/\GP m o s.2/\(ts.drop s.1).foldl (qN (num m) l) s.2=ts.foldl (qN (num m) l) x0) (0,x0) (fun _=>dF rfl) ⟨aR _,gx0,rfl⟩ ?_ ?_
 ·(refine AS.Le.of (by first|decide|omega) ?_ ?_<;>simp[dA,dz,aS,aB,AV.bd,AV.bd.bdL,u8,aq,au,aA])
  skip
 ·rintro⟨j,x⟩ ⟨hj,gx,hf⟩ R' hR';simp only at hj gx hf
  by_cases hjt:j<ts.length
  ·have e2:=getD_map eD.pv ts fj hjt;obtain⟨t1,t2,t3,t4⟩:=q5 _ (aC fj hjt);rw[bc fj hjt]at hf;obtain⟨y,hy⟩: ∃y,y=ts.getD j fj:=⟨_,rfl⟩;rw[<-hy]at e2 t1 t2 t3 t4 hf;obtain⟨b,v,n,a⟩:=y;simp only at t1 t2 t3 t4;rw[List.foldl_cons]at hf;obtain⟨kb1,kb2⟩:=(cL kg.1).1 t3;have hvl:v.toNat<l.length:=oO;have e4:=getD_map cU l fh hvl;have kr:=hl _ (aC fh hvl);have hmT:qN (num m) l x ⟨b,v,n,a⟩=x*dw (num m) (dw (num m) (num b) n (num a)) (l.getD v.toNat fh).1 (num (l.getD v.toNat fh).2)%num m:=rfl;obtain⟨w,hw⟩: ∃w,w=l.getD v.toNat fh:=⟨_,rfl⟩;rw[<-hw]at e4 kr hmT;obtain⟨rn,ra⟩:=w;simp only[cr,ba,dW]at t4 kr;have m1:=(mc kg.1).2.2.1;have x1:=qh kg.2.1 kg.2.2 kg.1 kb2 t4.1 t4.2;rw[dZ kb1]at x1;have gy:=kb2.dw m1 n (num a);have x2:=qh kg.2.1 kg.2.2 kg.1 gy kr.1 kr.2;have gz:=gy.dw m1 rn (num ra);have x3:=HF kg.2.1 kg.2.2 kg.1 gx gz;have hgo':=hR' (j+1,qN (num m) l x ⟨b,v,n,a⟩) ⟨by show j+1<= _;omega,by rw[hmT];exact gx.mul gz,hf⟩ (by show ts.length-(j+1)<ts.length-j;omega)
   rw[hmT]at hgo';clear hR' hy t3 t4 q5 hf hw kb1 kb2 gx gy gz hmT kr;simp only[eD.pv]at e2;simp only[cU]at e4;have hd3: ∀ _:True,v<(l.length:Int):=fun _=>oO
   generalize dw (num m) (dw (num m) (num b) n (num a)) rn (num ra)=z at*;generalize dw (num m) (num b) n (num a)=y at*;refine Di (aN @l3 (aN @l4 (aN @l5 (aN @e2 @e4)))) @x1 @x2 @x3 oT ?_;refine hgo' _ ?_
   (refine AS.Le.of (by first|decide|omega) ?_ ?_<;>simp[dA,dz,aS,aB,AV.bd,AV.bd.bdL,u8,aq,au,aA])
   skip
  ·obtain rfl:j=ts.length:=oO;rw[dn]at hf;simp only[List.foldl_nil]at hf;subst hf;refine dY (aN @l3 @l4) ?_;refine ak (α:=Nat) (fun j=>es.length-(j+1)) (fun j=>⟨[(1, .v (.s c)),(2, .v (.sl (l.map cU))),(3, .p 1000 0 0),(7, .rs 1040 j 0 (j+1) 1),(18, .v (.sl (es.map dr.pv))),(19,E' es.length),(20,E' (j+1))],[(1000,⟨0,[.v (.sl (gs.map dS)), .v (.sl (vs.map cO)), .v (.sl (es.map dr.pv))],false,none⟩),(1040,⟨j,aX (fun q=>N (fP gs c l q)) (es.take (j+1)),true,some 22⟩)],1044⟩) (fun j=>j+1<=es.length) 0 (fun _=>dF rfl) hpos ?_ ?_
   ·rw[eK,r1,List.take_zero,rn1];exact lE
   ·clear e1 e3 q1 q2 q3 q4 q5 kg gx0 xe r1 l4;intro i hi R hR;have hj1:(es.take (i+1)).length=i+1:=by rw[cf];omega
    have p1:=cF hM (es.take (i+1));have p2:=cR hM (es.take (i+1));rw[hj1,dK]at p1 p2;have hw1: ∀ _:True,((i:Int)+1)=((i+1:Nat):Int):=fun _=>oO
    by_cases hlt:i+1<es.length
    ·have hgo:=hR (i+1) oO oO;clear hR;have e1:=getD_map dr.pv es gN hlt;obtain⟨q1,q2,q3,q4,q5⟩:=hq _ (aC gN hlt);have r1:=row1 hlt;obtain⟨x,hx⟩: ∃x,x=es.getD (i+1) gN:=⟨_,rfl⟩;rw[<-hx]at e1 q1 q2 q3 q4 q5 r1;clear hx;obtain⟨gr,tg,ts⟩:=x;simp only at q1 q2 q3 q4 q5;have hgl:gr.toNat<gs.length:=oO;have kg:=hg _ (aC eU hgl);have e3:=getD_map dS gs eU hgl;have hmQ:fP gs c l ⟨gr,tg,ts⟩=ts.foldl (qN (num (gs.getD gr.toNat eU).1) l) (dw (num (gs.getD gr.toNat eU).1) (num tg) (!(c==[])) (num c)):=rfl;obtain⟨z,hz⟩: ∃z,z=gs.getD gr.toNat eU:=⟨_,rfl⟩;rw[<-hz]at q3 q5 kg e3 hmQ;clear hz;obtain⟨m,o⟩:=z;simp only at q3 q5 kg hmQ;obtain⟨vt,gt⟩:=(cL kg.1).1 q3;have m1:=(mc kg.1).2.2.1;have hzc:(!(c==[])&&c==[])=false:=by cases(c==([]:Bytes))<;>rfl
     have xe:=qh kg.2.1 kg.2.2 kg.1 gt vc hzc;rw[dZ vt]at xe;have gx0:=gt.dw m1 (!(c==[])) (num c);obtain⟨x0,hx0⟩: ∃x0,x0=dw (num m) (num tg) (!(c==[])) (num c):=⟨_,rfl⟩;rw[<-hx0]at xe gx0 hmQ;rw[hmQ]at r1;clear hx0 hmQ gt vt;have l4:(ts.map eD.pv).length=ts.length:=aL ..;simp only[dS]at e3;simp only[dr.pv]at e1;rw[r1]at hgo;refine tN (aN @l1 (aN @l3 (aN @e1 (aN @e3 @l4)))) @fr @ng' @xe oT ?_;refine ak (α:=Nat×Nat) (fun s=>ts.length-s.1) (fun s=>⟨[(1, .v (.s c)),(2, .v (.sl (l.map cU))),(3, .p 1000 0 0),(7, .rs 1040 i 0 (i+1) 1),(18, .v (.sl (es.map dr.pv))),(19,E' es.length),(20,E' (i+1)),(10, .p 1055 0 0),(11, .v (N s.2)),(41, .v (.sl (ts.map eD.pv))),(42,E' ts.length),(43,E' s.1)],[(1000,⟨0,[.v (.sl (gs.map dS)), .v (.sl (vs.map cO)), .v (.sl (es.map dr.pv))],false,none⟩),(1055,⟨0,[.v (.s m), .v (.s o)],false,some 26⟩),(1040,⟨i,aX (fun q=>N (fP gs c l q)) (es.take (i+1)),true,some 22⟩)],1073⟩) (fun s=>s.1<=ts.length/\GP m o s.2/\(ts.drop s.1).foldl (qN (num m) l) s.2=ts.foldl (qN (num m) l) x0) (0,x0) (fun _=>dF rfl) ⟨aR _,gx0,rfl⟩ ?_ ?_
     ·(refine AS.Le.of (by first|decide|omega) ?_ ?_<;>simp[dA,dz,aS,aB,AV.bd,AV.bd.bdL,u8,aq,au,aA])
      all_goals (intro c hc;exact cI hc)
     ·rintro⟨j,x⟩ ⟨hj,gx,hf⟩ R' hR';simp only at hj gx hf
      by_cases hjt:j<ts.length
      ·have e2:=getD_map eD.pv ts fj hjt;obtain⟨t1,t2,t3,t4⟩:=q5 _ (aC fj hjt);rw[bc fj hjt]at hf;obtain⟨y,hy⟩: ∃y,y=ts.getD j fj:=⟨_,rfl⟩;rw[<-hy]at e2 t1 t2 t3 t4 hf;obtain⟨b,v,n,a⟩:=y;simp only at t1 t2 t3 t4;rw[List.foldl_cons]at hf;obtain⟨kb1,kb2⟩:=(cL kg.1).1 t3;have hvl:v.toNat<l.length:=oO;have e4:=getD_map cU l fh hvl;have kr:=hl _ (aC fh hvl);have hmT:qN (num m) l x ⟨b,v,n,a⟩=x*dw (num m) (dw (num m) (num b) n (num a)) (l.getD v.toNat fh).1 (num (l.getD v.toNat fh).2)%num m:=rfl;obtain⟨w,hw⟩: ∃w,w=l.getD v.toNat fh:=⟨_,rfl⟩;rw[<-hw]at e4 kr hmT;obtain⟨rn,ra⟩:=w;simp only[cr,ba,dW]at t4 kr;have m1:=(mc kg.1).2.2.1;have x1:=qh kg.2.1 kg.2.2 kg.1 kb2 t4.1 t4.2;rw[dZ kb1]at x1;have gy:=kb2.dw m1 n (num a);have x2:=qh kg.2.1 kg.2.2 kg.1 gy kr.1 kr.2;have gz:=gy.dw m1 rn (num ra);have x3:=HF kg.2.1 kg.2.2 kg.1 gx gz;have hgo':=hR' (j+1,qN (num m) l x ⟨b,v,n,a⟩) ⟨by show j+1<= _;omega,by rw[hmT];exact gx.mul gz,hf⟩ (by show ts.length-(j+1)<ts.length-j;omega)
       rw[hmT]at hgo';clear hR' hy t3 t4 q5 hf hw kb1 kb2 gx gy gz hmT kr;simp only[eD.pv]at e2;simp only[cU]at e4;have hd3: ∀ _:True,v<(l.length:Int):=fun _=>oO
       generalize dw (num m) (dw (num m) (num b) n (num a)) rn (num ra)=z at*;generalize dw (num m) (num b) n (num a)=y at*;refine Di (aN @l3 (aN @l4 (aN @l5 (aN @e2 @e4)))) @x1 @x2 @x3 oT ?_;refine hgo' _ ?_
       (refine AS.Le.of (by first|decide|omega) ?_ ?_<;>simp[dA,dz,aS,aB,AV.bd,AV.bd.bdL,u8,aq,au,aA])
       all_goals (intro c hc;exact cI hc)
      ·obtain rfl:j=ts.length:=oO;rw[dn]at hf;simp only[List.foldl_nil]at hf;subst hf;refine eC (aN @l3 (aN @l4 (aN @p1 @p2))) ?_;refine hgo _ ?_
       (refine AS.Le.of (by first|decide|omega) ?_ ?_<;>simp[dA,dz,aS,aB,AV.bd,AV.bd.bdL,u8,aq,au,aA])
       all_goals (intro c hc;rcases hc with h|h<;>first|exact cI h|(subst h;rfl))
    ·obtain hjv:i+1=es.length:=oO;rw[hjv,cg]at p1 p2;rw[hjv,cg];have p3:=dU hM es;have p4:chunk 1 es.length (List.flatMap (fun x=>[PV.s (bR (fP gs c l x))]) es)=es.map fun q=>N (fP gs c l q):=dj hM es
     exact gU (aN @l3 (aN @p1 (aN @p2 (aN @p3 (aN @p4 @eJ)))))
theorem GO {s:cK} (hs:Rx s) (vc:aa c=true) {l:List (Bool×Bytes)} (hlen:l.length=s.vars.length) (hl: ∀x∈l,cr x=true):aE 443 [s.pv, .s c, .sl (l.map cU)] (.sl (s.eqs.map fun q=>N (fP s.groups c l q))):=by
 by_cases h:s.eqs=[]
 ·obtain⟨gs,vs,es⟩:=s;simp only at h;subst h;unfold cK.pv;simp only[bj];refine eW call443 func443 ?_;exact On
 ·exact Cq hs h vc hlen hl
theorem P3 {sl b:Bytes} (hr:si c sl) (hb:b.length<=16):Mp c sl b<dC:=eu (Nat.sub_le _ _) (vZ hr hb)
theorem EL (s:cK) (hl:s.groups.length<1000000):aE 370 [s.pv] (.s (bK s.groups)):=by
 obtain⟨gs,vs,es⟩:=s;simp only at hl;have l1:(gs.map dS).length=gs.length:=aL ..;unfold cK.pv;simp only;refine eW call370 func370 ?_;refine qY ?_;refine ak (α:=Nat) (fun i=>gs.length-i) (fun i=>⟨[(1, .p 1000 0 0),(3,E' i)],[(1000,⟨0,[.v (.sl (gs.map dS)), .v (.sl (vs.map cO)), .v (.sl (es.map dr.pv))],false,none⟩)],_⟩) (fun i=>i<=gs.length/\bK (gs.drop i)=bK gs) 0 (fun _=>aD _) ⟨aR _,rfl⟩ ?_ ?_
 ·exact lE
 ·rintro i ⟨hi,hf⟩ R hR;rw[<-hf]
  by_cases hlt:i<gs.length
  ·have e1:=getD_map dS gs eU hlt;have hgo:=hR (i+1);rw[<-hf]at hgo;rw[bc eU hlt]at hgo⊢;obtain⟨x,hx⟩: ∃x,x=gs.getD i eU:=⟨_,rfl⟩;rw[<-hx]at e1 hgo⊢;clear hx hf hR;obtain⟨m,o⟩:=x;simp only[bK]at hgo⊢;simp only[dS]at e1
   by_cases ho:o=[]
   ·subst ho;simp only[az]at hgo⊢;have hgo:=hgo ⟨oO,trivial⟩ oO;exact ko (aN @l1 (aN @e1 @nn)) @hgo
   ·have hb:(o==([]:Bytes))=false:=by simpa using ho
    rw[af ho];exact gU (aN @l1 (aN @e1 @hb))
  ·obtain rfl:i=gs.length:=oO;rw[dn];exact gU @l1
theorem Io (b:Bool) (a:Bytes):aE 389 [.b b, .s a] (.agg [.b (b&& !(a==[])), .s a]):=by
 refine eW call389 func389 ?_;exact YL
theorem J4 (b:Bool) (a:Bytes):aE 464 [.agg [.b b, .s a]] (.agg [.b (!b&& !(a==[])), .s a]):=by
 have h:=Io (!b) a;refine eW call464 func464 ?_;exact z1 @h
theorem mW (n1 n2:Bool) {a1 a2:Bytes} (h1:a1.length<1048576) (h2:a2.length<1048576):aE 265 [.agg [.b n1, .s a1], .agg [.b n2, .s a2]] (.agg [.b ((n1 !=n2)&& !(bR (num a1*num a2)==[])), .s (bR (num a1*num a2))]):=by
 have ht:=qm a1 a2 h1 h2;have h:=Io (n1 !=n2) (bR (num a1*num a2));refine eW call265 func265 ?_;exact z2 @ht @h
theorem Ke (l:List (Bool×Bytes)) (hl:l.length<1000000):aE 390 [.sl (l.map cU)] (.b (l.all cr)):=by
 have l5:(l.map cU).length=l.length:=aL ..;refine eW call390 func390 ?_;refine qY ?_;refine ak (α:=Nat) (fun i=>l.length-i) (fun i=>⟨[(0, .v (.sl (l.map cU))),(3,E' i)],[],_⟩) (fun i=>i<=l.length/\(l.drop i).all cr=l.all cr) 0 (fun _=>aD _) ⟨aR _,rfl⟩ ?_ ?_
 ·exact lE
 ·rintro i ⟨hi,hf⟩ R hR;rw[<-hf]
  by_cases hlt:i<l.length
  ·have e1:=getD_map cU l fh hlt;have hgo:=hR (i+1);rw[<-hf]at hgo;rw[bc fh hlt,List.all_cons]at hgo⊢;obtain⟨x,hx⟩: ∃x,x=l.getD i fh:=⟨_,rfl⟩;rw[<-hx]at e1 hgo⊢;clear hx hf hR;obtain⟨n,a⟩:=x;have hv:=jQ n a;have e:cr (n,a)=(aa a&& !(n&&a==[])):=rfl;rw[e]at hgo⊢;clear e;simp only[cU]at e1;generalize (aa a&& !(n&&a==[]))=b at*;cases b
   ·repeat' first|simp only[go_sem,seval,l5,e1]|refine cP hv ?_|refine oE ?_|apply xX<;>intro hc
    all_goals simp
   ·have hgo:=hgo ⟨oO,by simp⟩ oO
    exact kp (aN @l5 @e1) @hgo @hv
  ·obtain rfl:i=l.length:=oO;rw[dn];exact gU @l5
end Go.Proofs.Tryz
namespace Go.Proofs.Tryz
open Go Go.Dom
variable {b i x:Nat}
def qM (l:List (Bool×Bytes)):PV:= .sl (l.map cU)
theorem xi (l:List (Bytes)) (f:FuncId) (p:Bytes->Bool) (hl:l.length<4611686018427387904) (h: ∀x,aE f [PV.s x] (.b (p x))):aE 268 [.sl (l.map PV.s), .fn (.func f)] (E (ec p 0 l)):=by
 have hlm:(l.map PV.s).length=l.length:=aL ..;refine eW call268 func268 ?_;refine dY @hlm ?_;refine ak (α:=Nat) (fun i=>l.length-i) (fun i=>⟨[(0, .v (.sl (l.map PV.s))),(1, .v (.fn (.func f))),(7, .v (.i .i64 l.length)),(8, .v (.i .i64 (i:Nat)))],[],_⟩) (fun i=>i<=l.length/\ec p i (l.drop i)=ec p 0 l) 0 (fun _=>aD _) ⟨aR _,rfl⟩ ?_ ?_
 ·exact lE
 ·rintro i ⟨hi,hx⟩ R hR;rw[<-hx]
  by_cases hlt:i<l.length
  ·have e1:=getD_map PV.s l [] hlt;have hf:=h (l.getD i []);have hgo:=hR (i+1);rw[<-hx,bc [] hlt]at hgo;rw[bc [] hlt];simp only[ec]at hgo⊢;clear hx hR h;generalize p (l.getD i [])=b at*;generalize l.getD i []=x at*;cases b
   ·have hgo:=hgo ⟨oO,rfl⟩ oO;exact kp (aN @hlm @e1) @hgo @hf
   ·exact lF (aN @hlm @e1) @hf
  ·obtain rfl:i=l.length:=oO;rw[dn];repeat' first|simp only[go_sem,seval,hlm]|refine oE ?_|apply xX<;>intro hc
   all_goals simp[ec]
theorem gV (l:List (Bytes)) (f:FuncId) (p:Bytes->Bool) (hl:l.length<4611686018427387904) (h: ∀x,aE f [PV.s x] (.b (p x))):aE 131 [.sl (l.map PV.s), .fn (.func f)] (.b (l.any p)):=by
 have hi:=xi l f p hl h;have e:decide (ec p 0 l>=0)=l.any p:=by
  rw[dk,decide_eq_true_iff];exact iH
 refine eW call131 func131 ?_;exact lF @e @hi
theorem zD (l:List (List (Bool×Bytes))) (f:FuncId) (c:List PV) (p:List (Bool×Bytes)->Bool) (hl:l.length<4611686018427387904) (h: ∀x∈l,aE f (qM x::c) (.b (p x))):aE 314 [.sl (l.map qM), .fc f [] c] (E (ec p 0 l)):=by
 have hlm:(l.map qM).length=l.length:=aL ..;refine eW call314 func314 ?_;refine dY @hlm ?_;refine ak (α:=Nat) (fun i=>l.length-i) (fun i=>⟨[(0, .v (.sl (l.map qM))),(1, .v (.fc f [] c)),(7, .v (.i .i64 l.length)),(8, .v (.i .i64 (i:Nat)))],[],_⟩) (fun i=>i<=l.length/\ec p i (l.drop i)=ec p 0 l) 0 (fun _=>aD _) ⟨aR _,rfl⟩ ?_ ?_
 ·exact lE
 ·rintro i ⟨hi,hx⟩ R hR;rw[<-hx]
  by_cases hlt:i<l.length
  ·have e1:=getD_map qM l [] hlt;have hf:=h (l.getD i []) (aC [] hlt);have hgo:=hR (i+1);rw[<-hx,bc [] hlt]at hgo;rw[bc [] hlt];simp only[ec]at hgo⊢;clear hx hR h;generalize p (l.getD i [])=b at*;generalize l.getD i []=x at*;simp only[qM]at e1 hf;cases b
   ·have hgo:=hgo ⟨oO,rfl⟩ oO;repeat' first|simp only[go_sem,seval,hlm,e1]|(refine gp hf (lf _ _) ?_)|refine oE ?_|apply xX<;>intro hc
    refine hgo _ ?_;exact lE
   ·repeat' first|simp only[go_sem,seval,hlm,e1]|(refine gp hf (lf _ _) ?_)|refine oE ?_|apply xX<;>intro hc
    all_goals rfl
  ·obtain rfl:i=l.length:=oO;rw[dn];repeat' first|simp only[go_sem,seval,hlm]|refine oE ?_|apply xX<;>intro hc
   all_goals simp[ec]
theorem nE (l:List (List (Bool×Bytes))) (f:FuncId) (c:List PV) (p:List (Bool×Bytes)->Bool) (hl:l.length<4611686018427387904) (h: ∀x∈l,aE f (qM x::c) (.b (p x))):aE 189 [.sl (l.map qM), .fc f [] c] (.b (l.any p)):=by
 have hi:=zD l f c p hl h;have e:decide (ec p 0 l>=0)=l.any p:=by
  rw[dk,decide_eq_true_iff];exact iH
 refine eW call189 func189 ?_;exact lF @e @hi
theorem L2 (x:Bool×Bytes):aE 467 [cU x] (.b (!cr x)):=by
 obtain⟨n,a⟩:=x;have hv:=gO n a;have e:cr (n,a)=(aa a&& !(n&&a==[])):=rfl;rw[e];generalize (aa a&& !(n&&a==[]))=b at*;simp only[cU];refine eW call467 func467 ?_;exact z1 @hv
abbrev WM:PV:= .pt (.agg [.fn (.func 467)]) 0
theorem DX (l:List (Bool×Bytes)) (hl:l.length<4611686018427387904):aE 468 [qM l,WM] (.b (!l.all cr)):=by
 have h1:=fX l _ _ hl L2;rw[jh]at h1;unfold qM;refine eW call468 func468 ?_;exact z1 @h1
theorem L3 (a:Bytes):aE 469 [.s a] (.b (!aa a)):=by
 have hv:=aG a;generalize aa a=b at*;refine eW call469 func469 ?_;exact z1 @hv
theorem YY (f:FuncId) (c:List PV):aE 131 [.sl [], .fc f [] c] (.b false):=by
 have hi:aE 268 [.sl [], .fc f [] c] (E (-1)):=by
  refine eW call268 func268 ?_;exact On
 refine eW call131 func131 ?_;exact z1 @hi
def jZ (k:Bytes) (c:UInt8) (i:Nat):Bytes:=(List.range 64).map fun j=>if j<i then k.getD j 0^^^c else k.getD j 0
def CC (k:Bytes) (c:UInt8):Bytes:=jZ k c 64
def BZ (k:Bytes):Bytes:=if k.length>64 then lg k else k
def Ms (k s:Bytes):Bytes:=lg (CC (BZ k) 92++lg (CC (BZ k) 54++s))
theorem eZ (k:Bytes) (c:UInt8) (i:Nat):(jZ k c i).length=64:=by simp[jZ]
theorem tc {k:Bytes} {c:UInt8} {j:Nat} (h:j<64):(jZ k c i).getD j 0=if j<i then k.getD j 0^^^c else k.getD j 0:=by
 simp[jZ,ca,h]
theorem Fi {k:Bytes} {c:UInt8} (h:i<64):(jZ k c i).set i (k.getD i 0^^^c)=jZ k c (i+1):=by
 apply tL
 ·simp[jZ]
 ·intro n h1 h2;rw[List.getElem_set];simp only[jZ,List.getElem_map,List.getElem_range]
  by_cases hn:i=n
  ·subst hn;simp
  ·rw[af hn];have:(n<i)=(n<i+1):=by simp;omega
   simp only[this]
theorem H5 {k:Bytes} (c:UInt8) (h:k.length<=64):List.take k.length (aJ k)++List.drop k.length (List.replicate 64 (AV.v (.i .u8 0)))=aJ (jZ k c 0):=by
 rw[iV];unfold aJ jZ;apply tL
 ·simp;omega
 ·intro n h1 h2;simp only[aL,wH]at h2;simp only[List.getElem_map,List.getElem_range,qz,ar]
  by_cases hn:n<k.length
  ·rw[List.getElem_append_left (by simpa using hn)]
   simp[ca,hn]
  ·rw[List.getElem_append_right (by simpa using hn)]
   simp only[List.getElem_drop,List.getElem_replicate];simp[ca,hn,u8]
theorem iU {l:Bytes} (h:i<l.length):(aJ l).getD i .u= .v (u8 (l.getD i 0)):=by
 simp[aJ,ca,h]
theorem Pm (l:Bytes) {o:Nat} (c:UInt8) (h:o<l.length):(aJ l).take o++(.v (.i .u8 (c.toNat:Int))::(aJ l).drop (o+1))=aJ (l.set o c):=by
 unfold aJ;rw[wY,wG];simp[h,u8]
theorem Rk (a c:UInt8):Ec .u8 (a.toNat:Int) (c.toNat:Int)=((a^^^c).toNat:Int):=by
 have:=RO .u8 rfl (a:=a.toNat) (b:=c.toNat) (by have:=a.toNat_lt;exact this) (by have:=c.toNat_lt;exact this)
 rw[this];simp
theorem SG {k s:Bytes} (h0:k.length<1000000) (hs:s.length<1000000):aE 411 [.s k, .s s] (.s (Ms k s)):=by
 have hq:=tV (s:=k) oO;have hq2:(lg k).length<=64:=by rw[iK];decide
 have hs1:=tV (s:=CC (BZ k) 54++s) (by rw[bY,CC,eZ];omega)
 have hs2:=tV (s:=CC (BZ k) 92++lg (CC (BZ k) 54++s)) (by rw[bY,CC,eZ,iK];omega)
 unfold Ms
 by_cases hk:k.length<=64
 ·have e:BZ k=k:=by unfold BZ;rw[af oO]
  rw[e]at hs1 hs2⊢;clear hq hq2 h0;refine eW call411 func411 ?_;refine qY ?_;refine ak (α:=Nat) (fun i=>64-i) (fun i=>⟨[(1, .v (.s s)),(5, .p 1004 0 0),(6, .p 1005 0 0),(19,E' i)],[(1005,⟨0,aJ (jZ k 92 i),false,some 465⟩),(1004,⟨0,aJ (jZ k 54 i),false,some 465⟩)],_⟩) (fun i=>i<=64) 0 (fun _=>aD _) (aR _) ?_ ?_
  ·refine AS.Le.of oD ?_ ?_<;>simp[dA,dz,aS,aB,AV.bd,au,hk];exact⟨H5 92 hk,H5 54 hk⟩
  ·intro i hi R hR
   by_cases hlt:i<64
   ·have hgo:=hR (i+1) oO oO;have g1:(aJ (jZ k 54 i)).getD i .u= .v (.i .u8 ((k.getD i 0).toNat:Int)):=by rw[iU (by rw[eZ];exact hlt),tc hlt,af (nc i)];rfl
    have g2:(aJ (jZ k 92 i)).getD i .u= .v (.i .u8 ((k.getD i 0).toNat:Int)):=by rw[iU (by rw[eZ];exact hlt),tc hlt,af (nc i)];rfl
    have g3:=Rk (k.getD i 0) 54;have g4:=Rk (k.getD i 0) 92;have g5:((54:UInt8).toNat:Int)=54:=rfl;have g6:((92:UInt8).toNat:Int)=92:=rfl;rw[g5]at g3;rw[g6]at g4;refine eC (aN @g1 (aN @g2 (aN @g3 (aN @g4 @eZ)))) ?_;refine hgo _ ?_;have g7:=Pm (jZ k 92 i) (o:=i) (k.getD i 0^^^92) (by rw[eZ];exact hlt)
    have g8:=Pm (jZ k 54 i) (o:=i) (k.getD i 0^^^54) (by rw[eZ];exact hlt)
    rw[Fi hlt]at g7 g8;refine AS.Le.of oD ?_ ?_<;>simp[dA,dz,aS,aB,AV.bd,au];exact⟨by simpa using g7,by simpa using g8⟩
   ·obtain rfl:i=64:=oO;have t1: ∀c,List.take 64 (aJ (jZ k c 64))=aJ (jZ k c 64):=fun c=>c9 (by rw[lY,eZ];exact aD _)
    have t2: ∀l,(∀y,y∈aJ l->y.isByte)=True:=fun l=>by
     simp only[eq_iff_iff,iff_true];intro y hy;obtain⟨c,-,rfl⟩:=cv.1 hy;simp[AV.isByte,u8,xW]
    unfold CC at hs1 hs2⊢;exact zA (aN @eZ (aN @t1 (aN @t2 (aN @kI @iK)))) @hs1 @hs2
 ·have e:BZ k=lg k:=by unfold BZ;rw[ah oO]
  rw[e]at hs1 hs2⊢;generalize lg k=q at*;refine eW call411 func411 ?_;refine YV @hq ?_;clear hq h0 hk;have hk:=hq2;refine ak (α:=Nat) (fun i=>64-i) (fun i=>⟨[(1, .v (.s s)),(5, .p 1007 0 0),(6, .p 1008 0 0),(19,E' i)],[(1008,⟨0,aJ (jZ q 92 i),false,some 465⟩),(1007,⟨0,aJ (jZ q 54 i),false,some 465⟩)],_⟩) (fun i=>i<=64) 0 (fun _=>aD _) (aR _) ?_ ?_
  ·refine AS.Le.of oD ?_ ?_<;>simp[dA,dz,aS,aB,AV.bd,au,hk];exact⟨H5 92 hk,H5 54 hk⟩
  ·intro i hi R hR
   by_cases hlt:i<64
   ·have hgo:=hR (i+1) oO oO;have g1:(aJ (jZ q 54 i)).getD i .u= .v (.i .u8 ((q.getD i 0).toNat:Int)):=by rw[iU (by rw[eZ];exact hlt),tc hlt,af (nc i)];rfl
    have g2:(aJ (jZ q 92 i)).getD i .u= .v (.i .u8 ((q.getD i 0).toNat:Int)):=by rw[iU (by rw[eZ];exact hlt),tc hlt,af (nc i)];rfl
    have g3:=Rk (q.getD i 0) 54;have g4:=Rk (q.getD i 0) 92;have g5:((54:UInt8).toNat:Int)=54:=rfl;have g6:((92:UInt8).toNat:Int)=92:=rfl;rw[g5]at g3;rw[g6]at g4;refine eC (aN @g1 (aN @g2 (aN @g3 (aN @g4 @eZ)))) ?_;refine hgo _ ?_;have g7:=Pm (jZ q 92 i) (o:=i) (q.getD i 0^^^92) (by rw[eZ];exact hlt)
    have g8:=Pm (jZ q 54 i) (o:=i) (q.getD i 0^^^54) (by rw[eZ];exact hlt)
    rw[Fi hlt]at g7 g8;refine AS.Le.of oD ?_ ?_<;>simp[dA,dz,aS,aB,AV.bd,au];exact⟨by simpa using g7,by simpa using g8⟩
   ·obtain rfl:i=64:=oO;have t1: ∀c,List.take 64 (aJ (jZ q c 64))=aJ (jZ q c 64):=fun c=>c9 (by rw[lY,eZ];exact aD _)
    have t2: ∀l,(∀y,y∈aJ l->y.isByte)=True:=fun l=>by
     simp only[eq_iff_iff,iff_true];intro y hy;obtain⟨c,-,rfl⟩:=cv.1 hy;simp[AV.isByte,u8,xW]
    unfold CC at hs1 hs2⊢;exact zA (aN @eZ (aN @t1 (aN @t2 (aN @kI @iK)))) @hs1 @hs2
def zL:Nat->Nat->Bytes
 |0,_=>[]
 |k+1,n=>zL k (n/10)++[UInt8.ofNat (48+n%10)]
abbrev Wb:TypeId:=498
def z24:List AV:=List.replicate 24 (.v (.i .u8 0))
def E6:Bytes:=(List.range 100).flatMap fun n=>[UInt8.ofNat (48+n/10),UInt8.ofNat (48+n%10)]
def YT (k n:Nat):aH:=⟨0,(AV.v (.i .u8 0)::((zL k n).map fun c=>AV.v (u8 c)))++List.replicate (23-k) (AV.v (.i .u8 0)),false,some Wb⟩
theorem w32 (n:Nat):IntKind.u32.wrap (n:Int)=((n%4294967296:Nat):Int):=by rw[IntKind.wrap_u32];omega
theorem w8 (n:Nat):IntKind.u8.wrap (n:Int)=((UInt8.ofNat n).toNat:Int):=by rw[qC];simp
theorem i2 (n:Nat):(n:Int)*2=((n*2:Nat):Int):=oO
theorem i1 (n:Nat):(n:Int)+1=((n+1:Nat):Int):=oO
theorem i48 (n:Nat):(48:Int)+n=((48+n:Nat):Int):=oO
theorem q2 (x:Nat):x%100*2%4294967296=x%100*2:=oO
theorem q3 (x:Nat):(x%100*2+1)%4294967296=x%100*2+1:=oO
theorem dtF: ∀n:Fin 100,E6.getD (n.val*2) 0=UInt8.ofNat (48+n.val/10)/\E6.getD (n.val*2+1) 0=UInt8.ofNat (48+n.val%10):=by decide+kernel
theorem Z8 (x:Nat):E6.getD (x%100*2+1) 0=UInt8.ofNat (48+x%10):=by
 have:=(dtF ⟨x%100,aP _ oC⟩).2;rw[this];congr 2;simp only;omega
theorem Z9 (x:Nat):E6.getD (x%100*2) 0=UInt8.ofNat (48+x/10%10):=by
 have:=(dtF ⟨x%100,aP _ oC⟩).1;rw[this];congr 2;simp only;omega
theorem ZS:[48,48,48,49,48,50,48,51,48,52,48,53,48,54,48,55,48,56,48,57,49,48,49,49,49,50,49,51,49,52,49,53,49,54,49,55,49,56,49,57,50,48,50,49,50,50,50,51,50,52,50,53,50,54,50,55,50,56,50,57,51,48,51,49,51,50,51,51,51,52,51,53,51,54,51,55,51,56,51,57,52,48,52,49,52,50,52,51,52,52,52,53,52,54,52,55,52,56,52,57,53,48,53,49,53,50,53,51,53,52,53,53,53,54,53,55,53,56,53,57,54,48,54,49,54,50,54,51,54,52,54,53,54,54,54,55,54,56,54,57,55,48,55,49,55,50,55,51,55,52,55,53,55,54,55,55,55,56,55,57,56,48,56,49,56,50,56,51,56,52,56,53,56,54,56,55,56,56,56,57,57,48,57,49,57,50,57,51,57,52,57,53,57,54,57,55,57,56,57,57]=E6:=by decide+kernel
theorem XS:E6.length=200:=by decide+kernel
theorem WR {a b:AV} {l m:List AV} (h:a=b) (g:l=m):a::l=b::m:=by rw[h,g]
theorem dgE {a:Nat} (h:a=b):AV.v (.i .u8 ((UInt8.ofNat a).toNat:Int))=AV.v (.i .u8 ((UInt8.ofNat b).toNat:Int)):=by rw[h]
theorem dgA (h:x<100) (e:48+x/10=b):AV.v (.i .u8 ((E6.getD (x*2%4294967296) 0).toNat:Int))=AV.v (.i .u8 ((UInt8.ofNat b).toNat:Int)):=by
 have:=Z9 x;rw[bw h]at this;rw[bw (show x*2<4294967296 by omega),this,<-e];congr 5;omega
theorem dgB (h:x<100) (e:48+x%10=b):AV.v (.i .u8 ((E6.getD ((x*2%4294967296+1)%4294967296) 0).toNat:Int))=AV.v (.i .u8 ((UInt8.ofNat b).toNat:Int)):=by
 have:=Z8 x;rw[bw h]at this;rw[bw (show x*2<4294967296 by omega),bw (show x*2+1<4294967296 by omega),this,<-e]
theorem YH:z24=[.v (.i .u8 0), .v (.i .u8 0), .v (.i .u8 0), .v (.i .u8 0), .v (.i .u8 0), .v (.i .u8 0), .v (.i .u8 0), .v (.i .u8 0), .v (.i .u8 0), .v (.i .u8 0), .v (.i .u8 0), .v (.i .u8 0), .v (.i .u8 0), .v (.i .u8 0), .v (.i .u8 0), .v (.i .u8 0), .v (.i .u8 0), .v (.i .u8 0), .v (.i .u8 0), .v (.i .u8 0), .v (.i .u8 0), .v (.i .u8 0), .v (.i .u8 0), .v (.i .u8 0)]:=rfl
theorem fbA {k:Nat} (hk:k=3\/k=4\/k=5\/k=6\/k=7\/k=8\/k=9\/k=10) (o nm u:Nat) (hu:u<10^k) (h32:u<4294967296):jD prog 519 nm [(o,⟨0,z24,false,some Wb⟩)] [.rs o 0 1 k 1, .v (.i .u64 (u:Int))] (.tup []) [(o,some (YT k u))]:=by
 have h1:u%4294967296=u:=oO;refine jD.w mixed call519 func519 rfl (jJ.1 _ _ _ (by cbv)) (jJ.2 _ _ (by cbv)) (obs:=[⟨0,z24,false,some Wb⟩]) (args:=[.rs 0 0 1 k 1, .v (.i .u64 (u:Int))]) (fs:=[some (some (YT k u))]) (j:=none) (nw:=none) (v:= .tup []) (ns:=[o]) (obsA:=[⟨0,z24,false,some Wb⟩]) rfl ?_ (by simp) (by simp) rfl (by simp[aW,aH.aU,AV.aU,AV.aU.renL,dp,z24]) (by simp[aW,AV.aU,AV.aU.renL,dp]) (by simp[AV.aU,AV.aU.renL]) (by rcases hk with rfl|rfl|rfl|rfl|rfl|rfl|rfl|rfl<;>simp[fC,outs,aH.aU,AV.aU,AV.aU.renL,aK,gv,YT,zL])
 rcases hk with rfl|rfl|rfl|rfl|rfl|rfl|rfl|rfl
 all_goals
  simp only[Nat.reducePow]at hu;simp only[go_sem,seval,YH];repeat' first|simp only[go_sem,seval,true_or,or_true,false_or,or_false,an,iB,eS,gY,ft,fT,eN,pc,pq,gF,ib,dI,aO,AV.aU,AV.aU.renL,aK,w32,w8,i2,i1,i48,h1,q2,q3,ZS,XS,Z8,Z9]|(refine aj ?_)|refine oE ?_|apply xX<;>intro hc
  all_goals first|decide|omega|skip
  all_goals (
   refine congrArg (fun l=>aH.mk 0 l false (some Wb)) ?_
   simp only[zL,lu,bV,bj,List.nil_append,List.cons_append,u8];repeat' (first|rfl|refine WR ?_ ?_|fail)
   all_goals first|(refine dgE ?_;omega)|(refine dgA ?_ ?_<;>omega)|(refine dgB ?_ ?_<;>omega))
theorem Um (L:Nat) (h:L<=64):aE 532 [E L] (E (Lib.l10 L)):=by
 unfold Lib.l10;refine eW call532 func532 ?_;repeat' first|simp only[go_sem,seval]|refine oE ?_|apply xX<;>intro hc
 all_goals (rw[IF _ oC];first|rfl|(congr 1;omega))
theorem Ry (b:Bool):aE 533 [.b b] (E (if b then 1 else 0)):=by
 cases b
 ·refine eW call533 func533 ?_;exact z0
 ·refine eW call533 func533 ?_;exact z0
theorem U1: ∀q:Fin 20,([.i .u64 1, .i .u64 10, .i .u64 100, .i .u64 1000, .i .u64 10000, .i .u64 100000, .i .u64 1000000, .i .u64 10000000, .i .u64 100000000, .i .u64 1000000000, .i .u64 10000000000, .i .u64 100000000000, .i .u64 1000000000000, .i .u64 10000000000000, .i .u64 100000000000000, .i .u64 1000000000000000, .i .u64 10000000000000000, .i .u64 100000000000000000, .i .u64 1000000000000000000, .i .u64 10000000000000000000]:List PV).getD q.val .fn0= .i .u64 (10^q.val:Nat):=by
 intro q;rcases q with⟨q,hq⟩
 rcases(by omega:q=0\/q=1\/q=2\/q=3\/q=4\/q=5\/q=6\/q=7\/q=8\/q=9\/q=10\/q=11\/q=12\/q=13\/q=14\/q=15\/q=16\/q=17\/q=18\/q=19)with rfl|rfl|rfl|rfl|rfl|rfl|rfl|rfl|rfl|rfl|rfl|rfl|rfl|rfl|rfl|rfl|rfl|rfl|rfl|rfl<;>rfl
theorem Qe (u:Nat) (h1:1<=u) (h2:u<(2^64)):aE 518 [.i .u64 (u:Int)] (E (Lib.nDigits u)):=by
 obtain⟨e1,e2⟩:=Lib.numDigits_eq u h1 h2;have hb:=Dq u h2;have hbl:Lib.bitLen u<=64:=by unfold Lib.bitLen;exact Lib.bitLen_le u 64 (aD _) h2
 have hl:=Um (Lib.bitLen u) hbl;have hp:=U1 ⟨Lib.l10 (Lib.bitLen u),oO⟩;simp only at hp;have hp: ∀ _:True,_:=fun _=>hp
 have hp2:=cM (n:=10) oC e2
 by_cases hq:10^Lib.l10 (Lib.bitLen u)<=u
 ·rw[ah hq]at e1;rw[<-e1];have hd: ∀ _:True,decide ((u:Int)>=((10^Lib.l10 (Lib.bitLen u):Nat):Int))=true:=fun _=>aV (by exact_mod_cast hq)
  have hc2:=Ry true;generalize Lib.l10 (Lib.bitLen u)=q at*;generalize 10^q=p at*;refine eW call518 func518 ?_;exact zB (aN (hp oT) (hd oT)) @hb @hl @hc2 oT
 ·rw[af hq]at e1;rw[<-e1];have hd: ∀ _:True,decide ((u:Int)>=((10^Lib.l10 (Lib.bitLen u):Nat):Int))=false:=fun _=>bL (by intro h;exact hq (by exact_mod_cast h))
  have hc2:=Ry false;generalize Lib.l10 (Lib.bitLen u)=q at*;generalize 10^q=p at*;refine eW call518 func518 ?_;exact zB (aN (hp oT) (hd oT)) @hb @hl @hc2 oT
theorem LK (k n:Nat):(zL k n).length=k:=by
 induction k generalizing n with
 |zero=>rfl
 |succ k ih=>simp[zL,ih]
theorem Pz: ∀(k n:Nat),Lib.nDigits n=k->zL k n=Lib.decDigits n:=by
 intro k
 induction k with
 |zero=>intro n h;have:=Lib.nDigits_pos n;omega
 |succ k ih=>
  intro n h
  by_cases hn:n<10
  ·rw[Lib.nDigits_small hn]at h;obtain rfl:k=0:=oO;rw[Lib.decDigits_one hn];simp[zL,bw hn]
  ·rw[Lib.nDigits_big hn]at h;rw[zL,ih (n/10) oO]
   conv=>rhs;rw[Lib.decDigits,dif_neg hn]
theorem Sw (n:Nat) (h1:100<=n) (h2:n<4294967296):aE 490 [.i .i64 (n:Int), .i .i64 10] (.s (Lib.decDigits n)):=by
 obtain⟨k,hk⟩: ∃k,Lib.nDigits n=k:=⟨_,rfl⟩;have hlt:=Lib.lt_pow_nDigits n;rw[<-Pz k n hk];have q: ∀j,10^j<=n->n<10^(j+1)->k=j+1:=fun j a b=>by rw[<-hk];exact Lib.nDigits_unique j n a b
 have hk8:k=3\/k=4\/k=5\/k=6\/k=7\/k=8\/k=9\/k=10:=by
  rcases(by omega:n<1000\/1000<=n/\n<10000\/10000<=n/\n<100000\/100000<=n/\n<1000000\/1000000<=n/\n<10000000\/10000000<=n/\n<100000000\/100000000<=n/\n<1000000000\/1000000000<=n/\n<10000000000)with g|g|g|g|g|g|g|g
  ·have:=q 2 oO oO;omega
  ·have:=q 3 oO oO;omega
  ·have:=q 4 oO oO;omega
  ·have:=q 5 oO oO;omega
  ·have:=q 6 oO oO;omega
  ·have:=q 7 oO oO;omega
  ·have:=q 8 oO oO;omega
  ·have:=q 9 oO oO;omega
 have hn:=Qe n oO oO;have hf:=fun nm=>fbA hk8 1009 nm n (by rw[<-hk];exact hlt) h2
 have hd:=LK k n;rw[hk]at hn;clear q hlt;rcases hk8 with rfl|rfl|rfl|rfl|rfl|rfl|rfl|rfl
 all_goals
  refine eW call490 func490 ?_;repeat' first|simp only[go_sem,seval,<-YH,YT,zL,u8,lu,List.nil_append,List.cons_append]|refine cP hn ?_|(refine bE (hf _) (by simp[aB]) ?_)|refine oE ?_|apply xX<;>intro hc
theorem PA (n:Nat) (h:n<100):iy n=Lib.decDigits n:=by
 unfold iy
 by_cases g:n<10
 ·rw[ah g,Lib.decDigits_one g]
 ·rw[af g,Lib.decDigits_two g h]
theorem KA (n:Nat) (h2:n<4294967296):aE 332 [.i .i64 (n:Int)] (.s (Lib.decDigits n)):=by
 by_cases h:n<100
 ·rw[<-PA n h];exact Bm n h
 have hF:=Sw n oO h2;have hI:aE 432 [.i .i64 (n:Int)] (.s (Lib.decDigits n)):=by
  refine eW call432 func432 ?_;exact z1 @hF
 refine eW call332 func332 ?_;exact z1 @hI
end Go.Proofs.Tryz
namespace Go.Proofs.Tryz
open Go Go.Dom Go.RowKit Go.Shelf
theorem F5: ∀(k u:Nat),u<10^(k+1)->Lib.nDigits u<=k+1:=by
 intro k
 induction k with
 |zero=>intro u h;rw[Lib.nDigits_small (by simpa using h)];exact aD _
 |succ k ih=>
  intro u h
  by_cases hu:u<10
  ·rw[Lib.nDigits_small hu];omega
  ·rw[Lib.nDigits_big hu];have:=ih (u/10) (by rw[Nat.pow_succ]at h;omega)
   omega
theorem BA {n:Nat} (h:n<4294967296):(Lib.decDigits n).length<=10:=by
 rw[Lib.decDigits_length];exact F5 9 n (by omega)
def I5 (at' a b:Nat):Bytes:=Lib.decDigits at'++[46]++Lib.decDigits a++[46]++Lib.decDigits b
def Bu (sd:Bytes) (at' a b:Nat):Bytes:=Ms sd (I5 at' a b)
def I4 (sd:Bytes) (at' a:Nat) (b:Nat):Nat->List (List PV)
 |0=>[]
 |k+1=>[.s (Bu sd at' a b)]::I4 sd at' a (b+1) k
theorem I6 {vs:PV} {sd:Bytes} {at' a k:Nat} (hsd:sd.length<1000000) (hk:k<1000000) (ha:at'<4294967296) (ha2:a<4294967296):Wp prog 410 [.pt (.agg [vs, .s sd, .i .i64 at']) 0, .pt (.agg [.i .i64 a]) 0] false (I4 sd at' a 0 k):=by
 refine⟨call410,?_⟩;intro w rd cvs l J Jx htr hcaps hrd hb hbx hY hfin h0;have hfin:=hfin rfl;obtain⟨p,us,rfl,hp,hcaps⟩:=hcaps.fx;obtain⟨q,us,rfl,hq,hnil⟩:=hcaps.fx;obtain rfl:=hnil.dL;obtain⟨bp,op,rfl,c1,c2⟩: ∃bp op,p= .pointer (some ⟨bp,op,none⟩)/\rd bp (op+1)=some (.string ⟨sd.toArray⟩)/\rd bp (op+2)=some (.int .i64 at'):=by
  cases hp with
  |pt x o vs' bk of h1 hl hr h=>
   have hv: ∀i,i<3-> ∃v,vs'[i]?=some v:=fun i hi=>⟨_,bZ (by have:vs'.length=3:=hl.symm;omega)⟩
   obtain⟨a1,b1⟩:=hv 1 (by decide)
   obtain⟨a2,b2⟩:=hv 2 (by decide)
   have q1:=h 1 _ _ rfl b1;have q2:=h 2 _ _ rfl b2
   cases q1;cases q2
   exact⟨bk,of,rfl,hr 1 _ b1,hr 2 _ b2⟩
 obtain⟨bq,oq,rfl,c3⟩: ∃bq oq,q= .pointer (some ⟨bq,oq,none⟩)/\rd bq oq=some (.int .i64 a):=by
  cases hq with
  |pt x o vs' bk of h1 hl hr h=>
   obtain⟨v,rfl⟩:=oR.1 (show vs'.length=1 from hl.symm)
   have:=h 0 _ v rfl rfl;cases this;exact⟨bk,of,rfl,hr 0 _ rfl⟩
 refine callsIn_of_wp func410 rfl trivial ?_;simp only[Tryz.ntmps410,kF,List.length_cons,List.length_nil,Nat.reduceAdd,Nat.reduceSub,CN,Array.replicate_zero,C3,CP,List.nil_append,List.cons_append]
 gi_wp2
 gi_loopw [4] (fun p wr=> ∃b:Nat,p= .int .i64 (b:Int)/\b<=k/\J (I4 sd at' a b (k-b)) wr) (fun p wr=>match p with| .int _ n=>k-n.toNat| _=>0)
 case atStart=>
  exact⟨0,rfl,aR _,h0⟩
 case round=>
  obtain⟨b,rfl,hbk,hJ⟩:=hrel;have hlt:b<k:=by
   rcases iN b k with h|h
   ·exact h
   ·have:k-b=0:=by omega
    rw[this]at hJ;exact(hfin trivial _ hJ).elim
  obtain⟨m,hm⟩: ∃m,k-b=m+1:=⟨k-b-1,by omega⟩
  rw[hm]at hJ;change J ([.s (Ms sd (I5 at' a b))]::I4 sd at' a (b+1) m) wr at hJ;have h1:=KA at' ha;have h2:=KA a ha2;have h3:=KA b (by omega)
  have l1:=BA ha;have l2:=BA ha2;have l3:=BA (n:=b) (by omega)
  have hlN:(I5 at' a b).length<1000000:=by simp[I5];omega
  refine wpIn_seq (wpIn_block (wpIn_seq ?_));refine wpIn_mono (JW mixed (rd:=rd) (pvs:=[(1, .pt (.agg [vs, .s sd, .i .i64 at']) 0),(2, .pt (.agg [.i .i64 a]) 0),(4, .i .i64 b)]) (out:=[(5, .s (I5 at' a b))]) (jJ.1 26 _ _ (by cbv)) rfl htr (hrd _ _ hJ) ?hp (CW.start ?aw)) ?cont
  case hp=>
   intro p hm;simp only[cd,il,or_false]at hm;rcases hm with rfl|rfl|rfl
   ·exact hp
   ·exact hq
   ·exact .i _ _
  case aw=>
   simp only[go_sem,seval];repeat' first|simp only[go_sem,seval,bY]|refine cP h1 ?_|refine cP h2 ?_|refine cP h3 ?_|refine oE ?_|apply xX<;>intro hc
   all_goals simp[I5]
  case cont=>
   rintro e ⟨t,df⟩ W2 ⟨rfl,⟨hdf,hsz,hbl,hout⟩,hkp⟩;have k0:=hkp.at 0 rfl;have k1:=hkp.at 1 rfl;have k2:=hkp.at 2 rfl;have k3:=hkp.at 3 rfl;have k4:=hkp.at 4 rfl;have k5:=hout _ (fR.2 rfl);have hl:=O0 hsz;simp only[kF,List.length_cons,List.length_nil,eK,Nat.reduceAdd]at hl;rw[show List.range 26=[0,1,2,3,4,5,6,7,8,9,10,11,12,13,14,15,16,17,18,19,20,21,22,23,24,25]from rfl]at hl
   simp only[bV,bj]at hl;change t.getD 0 undef=Value.func (Fn.yield l) #[] #[]at k0;change t.getD 1 undef=Value.pointer (some ⟨bp,op,none⟩)at k1;change t.getD 2 undef=Value.pointer (some ⟨bq,oq,none⟩)at k2;change t.getD 3 undef=undef at k3;change t.getD 4 undef=Value.int .i64 b at k4;change PR _ _ (t.getD 5 undef)at k5;rw[k0,k1,k2,k3,k4]at hl;generalize t.getD 5 undef=v5 at hl k5;cases k5;obtain rfl:df=[]:=hdf;rw[hl];clear hl k0 k1 k2 k3 k4 hsz hout hkp;simp only[Exit.then];have hJ2:=hb _ _ _ hJ hbl;have d4:=hrd _ _ hJ2 _ _ _ (c1)
   gi_wp2
   refine⟨trivial,rfl,(p9.calls (SG hsd hlN) call411 W2 rd [_,_] htr (hrd _ _ hJ2) ?_).mono ?_⟩
   ·exact .cons (.s _) (.cons (.s _) .nil)
   rintro x W3 ⟨v,rfl,hbl3,hpr⟩;cases hpr;have hJ3:=hb _ _ _ hJ2 hbl3;obtain⟨fn,tmps,assign,body,hy,hR⟩:=hY _ _ _ W3 hJ3 (.cons (.s _) .nil)
   gi_wp2
   refine⟨rfl,hR.mono ?_⟩;rintro x W4 (⟨rfl,hJ5⟩|⟨rfl,hJx⟩)
   ·have hw3:IntKind.i64.wrap ((b:Int)+1)=(b:Int)+1:=IntWalk.i64_in _ (by omega)
    gi_wp2
    refine⟨⟨b+1,by push_cast;rfl,by omega,by rw[show k-(b+1)=m from by omega];exact hJ5⟩,?_⟩
    ·show k-((b:Int)+1).toNat<k-(b:Int).toNat;omega
   ·gi_wp2
    refine bodyPost_ret (results_none rfl _ _ _) rfl ?_;exact⟨⟨_,rfl⟩, .inr hJx⟩
end Go.Proofs.Tryz
namespace Go.Proofs.Tryz
open Go Go.Dom
theorem Be (l:List (Bool×Bytes)) (hl:l.length<1000000):aE 210 [.sl (l.map cU)] (.b (l.all cr)):=by
 have l5:(l.map cU).length=l.length:=aL ..;refine eW call210 func210 ?_;repeat' first|simp only[go_sem,seval,l5]|refine oE ?_|apply xX<;>intro hc
 refine ak (α:=Nat) (fun i=>l.length-i) (fun i=>⟨[(5, .v (.sl (l.map cU))),(6,E' l.length),(7,E' i)],[],_⟩) (fun i=>i<=l.length/\(l.drop i).all cr=l.all cr) 0 (fun _=>aD _) ⟨aR _,rfl⟩ ?_ ?_
 ·exact lE
 ·rintro i ⟨hi,hf⟩ R hR;rw[<-hf]
  by_cases hlt:i<l.length
  ·have e1:=getD_map cU l fh hlt;have hgo:=hR (i+1);rw[<-hf]at hgo;rw[bc fh hlt,List.all_cons]at hgo⊢;obtain⟨x,hx⟩: ∃x,x=l.getD i fh:=⟨_,rfl⟩;rw[<-hx]at e1 hgo⊢;clear hx hf hR;obtain⟨n,a⟩:=x;have hv:=gO n a;have e:cr (n,a)=(aa a&& !(n&&a==[])):=rfl;rw[e]at hgo⊢;clear e;simp only[cU]at e1;generalize (aa a&& !(n&&a==[]))=b at*;cases b
   ·repeat' first|simp only[go_sem,seval,l5,e1]|refine cP hv ?_|refine oE ?_|apply xX<;>intro hc
    all_goals simp
   ·have hgo:=hgo ⟨oO,by simp⟩ oO
    repeat' first|simp only[go_sem,seval,l5,e1]|refine cP hv ?_|refine oE ?_|apply xX<;>intro hc
    refine hgo _ ?_;exact lE
  ·obtain rfl:i=l.length:=oO;rw[dn];repeat' first|simp only[go_sem,seval,l5]|refine oE ?_|apply xX<;>intro hc
   all_goals rfl
