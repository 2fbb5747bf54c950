/-
  Part of the proof, part FA32. Own work.
-/
import Derived.Test.YtfdjchnefpefbaaGreatDoorFA31
set_option linter.all false
namespace Go.Proofs.YtfdjchnefpefbaaGreatDoor
open Go Go.Dom Go.Num
set_option maxRecDepth 100000
set_option maxHeartbeats 16000000
def aC (l:List Nat):List AV:=l.map fun x=> .v (N x)
theorem bE (l:List Nat):(aC l).length=l.length:=by simp[aC]
theorem jD (n:Nat):(List.replicate n [AV.v (.s [])]).flatten=aC (List.replicate n 0):=by
 unfold aC
 induction n with
 |zero=>rfl
 |succ n ih=>rw[List.replicate_succ,List.flatten_cons,ih];rfl
theorem iF {l:List Nat} {i:Nat} (h:i<l.length):(aC l).getD i .u= .v (N (l.getD i 0)):=by
 simp[aC,aR,h]
theorem Ff {l:List Nat} {o x:Nat}:(aC l).set o (.v (N x))=aC (l.set o x):=by
 simp[aC,sr]
theorem fH {l:List Nat} {o x:Nat} (h:o<l.length):(aC l).take o++[.v (N x)]++(aC l).drop (o+1)=aC (l.set o x):=by
 rw[<-Ff,vL,if_pos (by rw[bE];exact h)];simp
theorem eN {l:List Nat} {c:AV} {n:Nat} (h:c∈aC l):c.bd n=true:=by
 obtain⟨x,-,rfl⟩:=bw.1 h;rfl
def cY (x:Nat):PV:=N x
theorem qv (xs:List Nat) {i:Nat} (h:i<xs.length):(xs.map cY).getD i .fn0=N (xs.getD i 0):=getD_map cY xs 0 h
theorem Pm {m:Bytes} (lm:m.length<=8) {o:Bytes} (lo:o.length<=8) (hE:gE m o=0) {xs:List Nat} {es:List (Bool×Bytes)} (hx: ∀x∈xs,GP m o x) (he: ∀e∈es,c9 e=true) (n1:xs.length<1000000) (n2:es.length<1000000):aA Tryz.prog 129 [G m o, .sl (xs.map cY), .sl (es.map eC), .b true] (E 0):=by
 have l1:(xs.map cY).length=xs.length:=aE ..;have l2:(es.map eC).length=es.length:=aE ..;have c3:=jz lm lo;rw[hE]at c3;have hn:=dY lm;refine eW Tryz.call129 Tryz.func129 ?_;refine eF @l1 ?_;refine af (α:=Nat) (fun i=>xs.length-i) (fun i=>⟨[(1, .v (.sl (xs.map cY))),(2, .v (.sl (es.map eC))),(3, .v (.b true)),(4, .p 1000 0 0),(16, .v (.sl (xs.map cY))),(17,E' xs.length),(18,E' i)],[(1000,⟨0,[.v (.s m), .v (.s o)],false,none⟩)],_⟩) (fun i=>i<=xs.length) 0 (fun _=>an _) (aH _) ?_ ?_
 ·exact lE
 ·intro i hi R hR
  by_cases hlt:i<xs.length
  ·have e1:=qv xs hlt;have k:=hx _ (az 0 hlt);have hgo:=hR (i+1) oO oO;have c1:=aJ (aO (xs.getD i 0));rw[vN (show xs.getD i 0<18446744073709551616 by have:=k.lt;omega)]at c1
   clear hR k;generalize xs.getD i 0=x at*;exact kR (aN @l1 @e1) @hgo @c1
  ·obtain rfl:i=xs.length:=by omega
   clear hR;refine eF (aN @l1 @l2) ?_;refine af (α:=Nat) (fun i=>es.length-i) (fun i=>⟨[(1, .v (.sl (xs.map cY))),(3, .v (.b true)),(4, .p 1000 0 0),(26, .v (.sl (es.map eC))),(27,E' es.length),(28,E' i)],[(1000,⟨0,[.v (.s m), .v (.s o)],false,none⟩)],_⟩) (fun i=>i<=es.length) 0 (fun _=>an _) (aH _) ?_ ?_
   ·exact lE
   ·intro i hi R hR
    by_cases hlt:i<es.length
    ·have e1:=getD_map eC es lK hlt;have k:=he _ (az lK hlt);have hgo:=hR (i+1) oO oO;obtain⟨x,hxx⟩: ∃x,x=es.getD i lK:=⟨_,rfl⟩;rw[<-hxx]at e1 k;clear hR hxx;obtain⟨n,a⟩:=x;have c2:=fP n a;rw[show(aa a&& !(n&&a==[]))=true from k]at c2
     simp only[eC]at e1;exact kR (aN @l2 @e1) @hgo @c2
    ·obtain rfl:i=es.length:=by omega
     clear hR;refine zr (aN @l1 @l2) @c3 ?_;refine af (α:=Nat) (fun i=>xs.length-i) (fun i=>⟨[(4, .p 1000 0 0),(43, .v (.sl (xs.map cY))),(44,E' xs.length),(45,E' i)],[(1000,⟨0,[.v (.s m), .v (.s o)],false,none⟩)],_⟩) (fun i=>i<=xs.length) 0 (fun _=>an _) (aH _) ?_ ?_
     ·exact lE
     ·intro i hi R hR
      by_cases hlt:i<xs.length
      ·have e1:=qv xs hlt;have k:=hx _ (az 0 hlt);have hgo:=hR (i+1) oO oO;have c4:=ry lm o (aO (xs.getD i 0));rw[k.has hE lm]at c4;clear hR k;generalize xs.getD i 0=x at*;exact kR (aN @l1 @e1) @hgo @c4
      ·obtain rfl:i=xs.length:=by omega
       exact lQ @l1
theorem S4 {e:Bytes} (he:aa e=true):b9 (num e)<1000000:=by
 have h1:num e<2^1024:=by
  refine bj (cb e) ?_;have le:e.length<=128:=by simp[aa]at he;exact he.1
  exact ft (cI oC le) (by decide+kernel)
 unfold b9;split
 ·decide
 ·rename_i h;have:=(wj h).2 h1;omega
theorem NQ {xs:List Nat} {es:List (Bool×Bytes)} (M:Nat) (hl:es.length=xs.length):((xs.zip es).map fun p=>(Q6 M p.1 p.2,num p.2.2)).length=xs.length/\ ∀i,i<xs.length->((xs.zip es).map fun p=>(Q6 M p.1 p.2,num p.2.2)).getD i (0,0)=(Q6 M (xs.getD i 0) (es.getD i lK),num (es.getD i lK).2):=by
 constructor
 ·simp;omega
 ·intro i hi;have h2:i<es.length:=by omega
  have e:(xs.zip es)[i]?=some (xs[i],es[i]):=Cb.2 ⟨bJ hi,bJ h2⟩;rw[aR,dt,e,aR,bJ hi,aR,bJ h2];rfl
theorem Ko (n:Nat):n<2^b9 n:=by
 unfold b9;split
 ·rename_i h;subst h;decide
 ·exact sG
theorem Ba {m:Bytes} (lm:m.length<=8) {o:Bytes} (lo:o.length<=8) (hE:gE m o=0) {xs:List Nat} {es:List (Bool×Bytes)} (hx: ∀x∈xs,GP m o x) (he: ∀e∈es,c9 e=true) (hl:es.length=xs.length) (n1:xs.length<1000000):aA Tryz.prog 61 [G m o, .sl (xs.map cY), .sl (es.map eC)] (.tup [N (Ey (num m) (xs.zip es)),E 0]):=by
 have l1:(xs.map cY).length=xs.length:=aE ..;have l2:(es.map eC).length=xs.length:=by rw[aE];exact hl
 have hch:=Pm lm lo hE hx he n1 oO;obtain⟨vm,vo,m1,-,-⟩:=kp hE;have hn:=dY lm;obtain⟨zl,zg⟩:=NQ (num m) hl;unfold Ey;generalize hpr:((xs.zip es).map fun p=>(Q6 (num m) p.1 p.2,num p.2.2))=pr at*
 clear hpr;obtain⟨M,hM⟩: ∃M,M=num m:=⟨_,rfl⟩;have eG:G m o= .agg [N M, .s o]:=by rw[hM,show N (num m)= .s m from congrArg PV.s (fF vm)]
 rw[eG]at hch⊢;have hxM: ∀i,i<xs.length->xs.getD i 0<M/\Nat.gcd (xs.getD i 0) M=1/\(pr.getD i (0,0)).1<M:=fun i hi=>by
  have k:=hx _ (az 0 hi);refine⟨by rw[hM];exact k.lt,by rw[hM];exact k.Ra,?_⟩
  rw[zg i hi,hM];unfold Q6;split
  ·exact k.unit.inv.1
  ·exact k.lt
 rw[<-hM]at hn m1 zg⊢;clear hx hM eG lm lo hE vm vo;have hM1:1%M=1:=aV oO;have hN:(aC (List.replicate xs.length 0)).length=xs.length:=by simp[aC]
 refine eW Tryz.call61 Tryz.func61 ?_;repeat' first|simp only[go_sem,seval,l1,l2,jD,hN,ey,beq_self_eq_true]|refine cP hch ?_|refine sB ?_|apply xX<;>intro hc|refine⟨oD,?_⟩|exact oD|fail
 refine af (α:=Nat×List Nat×Nat) (fun s=>xs.length-s.1) (fun s=>⟨[(1, .v (.sl (xs.map cY))),(2, .v (.sl (es.map eC))),(3, .p 1000 0 0),(9, .rs 1017 0 0 xs.length 1),(10,E' s.2.2),(35, .v (.sl (xs.map cY))),(36,E' xs.length),(37,E' s.1)],[(1000,⟨0,[.v (N M), .v (.s o)],false,none⟩),(1017,⟨0,aC s.2.1,false,none⟩)],_⟩) (fun s=>s.1<=xs.length/\s.2.1.length=xs.length/\s.2.2<1000000/\ ∀j,j<s.1->s.2.1.getD j 0=(pr.getD j (0,0)).1/\(pr.getD j (0,0)).2<2^s.2.2) (0,List.replicate xs.length 0,0) (fun _=>an _) ⟨aH _,by simp,(by decide:0<1000000),fun j hj=>absurd hj (mD _)⟩ ?_ ?_
 ·refine lG ?_;exact fun c hc=>eN hc
 ·rintro⟨i,l,k⟩ ⟨hi,hll,hk,hj⟩ R hR;simp only at hi hll hk hj;have ll:(aC l).length=xs.length:=by rw[bE];exact hll
  by_cases hlt:i<xs.length
  ·have e1:=qv xs hlt;have e2:=getD_map eC es lK (i:=i) oO;have ke:=he _ (az lK (show i<es.length by omega))
   obtain⟨x1,x2,x3⟩:=hxM i hlt;have zi:=zg i hlt;obtain⟨x,hxx⟩: ∃x,x=xs.getD i 0:=⟨_,rfl⟩;obtain⟨e,hee⟩: ∃e,e=es.getD i lK:=⟨_,rfl⟩;rw[<-hxx]at e1 x1 x2 zi;rw[<-hee]at e2 ke zi;clear hxx hee;obtain⟨n,a⟩:=e;simp only[c9,aY]at ke;have hbt:=u5 ke.1;have hbe:=S4 ke.1;have hmx: ∀ _:True,(if(b9 (num a):Int)>(k:Int)then(b9 (num a):Int)else(k:Int))=((max k (b9 (num a)):Nat):Int):=fun _=>by split<;>omega
   have hinv:=qh (a:=x) (m:=M) oO hn oO x2;have hgo:=fun y (hy:y=(pr.getD i (0,0)).1)=>hR (i+1,l.set i y,max k (b9 (num a))) ⟨by show i+1<= _;omega,by simp[hll],by show max k _< _;omega,fun j hj2=>by
    by_cases hji:j=i
    ·subst hji;refine⟨by simp[aR,hll,hlt,hy],?_⟩
     rw[zi];exact bj (Ko _) (cI oC (Nat.le_max_right _ _))
    ·obtain⟨h1,h2⟩:=hj j (by simp only at hj2;omega)
     refine⟨?_,bj h2 (cI oC (Nat.le_max_left _ _))⟩;rw[<-h1];simp[aR,pF,kP hji]⟩ (by show xs.length-(i+1)<xs.length-i;omega)
   rw[zi]at hgo;simp only[eC]at e2;clear hR hj hch zg hxM he;have p1: ∀y,List.take i (aC l)++[AV.v (.s (aO y))]++List.drop (i+1) (aC l)=aC (l.set i y):=fun y=>fH oO
   have p2: ∀x y,List.take i (aC (l.set i x))++[AV.v (.s (aO y))]++List.drop (i+1) (aC (l.set i x))=aC (l.set i y):=fun x y=>by rw[fH (by rw[fU];omega),wk]
   have p3: ∀y,(aC (l.set i y)).length=xs.length:=fun y=>by rw[bE,fU,hll]
   cases n
   ·have hgo:=hgo x (by simp[Q6])
    refine o8 (aN @l1 (aN @l2 (aN @ll (aN @e1 (aN @e2 (aN @p1 (aN @p3 (hmx trivial)))))))) @hbt ?_;refine hgo _ ?_;refine lG ?_;exact fun c hc=>eN hc
   ·have hgo:=hgo (ew x M) (by simp[Q6])
    refine sT (aN @l1 (aN @l2 (aN @ll (aN @e1 (aN @e2 (aN @p1 (aN @p2 (aN @p3 (hmx trivial))))))))) @hbt @hinv ?_;refine hgo _ ?_;refine lG ?_;exact fun c hc=>eN hc
  ·obtain rfl:i=xs.length:=by omega
   have hlp:l=pr.map (·.1):=by
    refine pI (by simp[hll,zl]) fun j h1 h2=> ?_
    have:=(hj j oO).1;rw[aR,bJ h1,aR,bJ (by omega:j<pr.length)]at this
    simpa using this
   have htop:pp pr k=1:=Uh fun p hp=>by
    obtain⟨j,hj2,rfl⟩:=gN hp;have:=(hj j oO).2;rw[aR,bJ hj2]at this;exact this
   have h0:pp pr 0%M=pp pr 0%M:=rfl;have hw1: ∀ _:True,IntKind.i64.wrap ((k:Int)-1)=(k:Int)-1:=fun _=>IntWalk.i64_in _ oO
   clear hR hj;repeat' first|simp only[go_sem,seval,hw1 trivial,ey]|refine cP qT ?_|refine sB ?_|apply xX<;>intro hc|refine⟨oD,?_⟩|exact oD|fail
   rw[hlp]at ll;have hbit:=fun j (hj:j<xs.length)=>wD (a:=(es.getD j lK).2) (by have:=he _ (az lK (show j<es.length by omega));simp only[c9,aY]at this;exact this.1)
   have hyg: ∀j,j<xs.length->(aC (pr.map (·.1))).getD j .u= .v (N (pr.getD j (0,0)).1):=fun j hj=>by
    rw[iF (by simpa[zl]using hj)]
    simp[aR,zl,hj]
   subst hlp;obtain⟨n,hn0⟩: ∃n,n=xs.length:=⟨_,rfl⟩;rw[<-hn0]at ll hyg hbit zg zl l1 l2 hi hll n1 hxM hl;clear hch hlt;refine af (α:=Nat) (fun k=>k) (fun k=>⟨[(2, .v (.sl (es.map eC))),(9, .rs 1017 0 0 n 1),(15, .p 1025 0 0),(16, .fn (.func 132) [] [.p 1025 0 0, .p 1000 0 0]),(17, .v (.i .i64 ((k:Int)-1)))],[(1025,⟨0,[.v (N (pp pr k%M))],false,some 22⟩),(1017,⟨0,aC (pr.map (·.1)),false,none⟩),(1000,⟨0,[.v (N M), .v (.s o)],false,none⟩)],_⟩) (fun j=>j<=k) k (fun _=>an _) (an _) ?_ ?_
   ·rw[hn0];refine lG ?_;exact⟨by rw[htop,hM1],fun c hc=>eN hc⟩
   ·intro k' hk' R hR
    cases k' with
    |zero=>
     exact z0
    |succ k'=>
     have hgo:=hR k' oO oO;obtain⟨z,hz⟩: ∃z,z=pp pr (k'+1)%M:=⟨_,rfl⟩;have hzm:z<M:=by rw[hz];exact aD _ oO
     have e1: ∀ _:True,((k'+1:Nat):Int)-1=(k':Int):=fun _=>by omega
     have hge: ∀ _:True,decide ((k':Int)>=0)=true:=fun _=>by simp
     have hwk: ∀ _:True,IntKind.i64.wrap ((k':Int)-1)=(k':Int)-1:=fun _=>IntWalk.i64_in _ oO
     have hstep:pp pr k'%M=(z*z%M)*(pb pr k')%M:=by
      rw[hz,<-bM,gL,P2]
     rw[<-hz];have hx1:=fun nm=>kW 1025 1000 nm oC o (some 22) none (a:=z) (b:=z) (m:=M) oO oO oO oO
     clear hR;repeat' first|simp only[go_sem,seval,e1 trivial,hge trivial,fw,cA,oZ,ll]|(refine bC (hx1 _) (by simp[aj]) ?_)|refine sB ?_|apply xX<;>intro hc|refine⟨oD,?_⟩|exact oD|fail
     refine af (α:=Nat) (fun j=>n-j) (fun j=>⟨[(2, .v (.sl (es.map eC))),(9, .rs 1017 0 0 n 1),(15, .p 1025 0 0),(16, .fn (.func 132) [] [.p 1025 0 0, .p 1000 0 0]),(17, .v (.i .i64 (k':Int))),(85, .rs 1017 0 0 n 1),(86,E' n),(87,E' j)],[(1025,⟨0,[.v (N ((z*z%M)*pb (pr.take j) k'%M))],false,some 22⟩),(1017,⟨0,aC (pr.map (·.1)),false,none⟩),(1000,⟨0,[.v (N M), .v (.s o)],false,none⟩)],_⟩) (fun j=>j<=n) 0 (fun _=>an _) (aH _) ?_ ?_
     ·refine lG ?_;exact⟨by simp[pb],fun c hc=>eN hc⟩
     ·intro j hj R' hR'
      by_cases hjn:j<n
      ·have hgo':=hR' (j+1) oO oO;have e2:=getD_map eC es lK (i:=j) oO;have hb:=hbit j hjn k' oO;have hy:=hyg j hjn;obtain⟨-,-,hym⟩:=hxM j hjn;have zj:=zg j hjn;rw[bu (0,0) oO,P0]at hgo';have hdec:(num (es.getD j lK).2).testBit k'=decide ((pr.getD j (0,0)).2/2^k'%2=1):=by rw[zj];exact j6
       rw[hdec]at hb;clear zj hdec;generalize pr.getD j (0,0)=p at*;obtain⟨y,q⟩:=p;simp only at hym hb hy hgo';obtain⟨e,hee⟩: ∃e,e=es.getD j lK:=⟨_,rfl⟩;rw[<-hee]at e2 hb;obtain⟨en,ea⟩:=e;simp only[eC]at e2;obtain⟨v,hv⟩: ∃v,v=z*z%M*pb (pr.take j) k'%M:=⟨_,rfl⟩;have hvm:v<M:=by rw[hv];exact aD _ oO
       rw[<-bQ,bM,<-hv]at hgo';rw[<-hv];have hx2:=fun nm=>kW 1025 1000 nm oC o (some 22) none (a:=v) (b:=y) (m:=M) oO oO oO oO
       clear hR' hx1 hbit hyg hxM zg
       by_cases hq:q/2^k'%2=1
       ·rw[decide_eq_true hq]at hb;rw[hq,wA,aV hym]at hgo';repeat' first|simp only[go_sem,seval,l2,ll,e2,hy]|refine cP hb ?_|(refine bC (hx2 _) (by simp[aj]) ?_)|refine sB ?_|apply xX<;>intro hc|refine⟨oD,?_⟩|exact oD|fail
        refine hgo' _ ?_;refine lG ?_;exact fun c hc=>eN hc
       ·rw[decide_eq_false hq]at hb;rw[show q/2^k'%2=0 by omega,Nat.pow_zero,hM1,dG,aV hvm]at hgo'
        refine o8 (aN @l2 (aN @ll (aN @e2 @hy))) @hb ?_;refine hgo' _ ?_;refine lG ?_;exact fun c hc=>eN hc
      ·obtain rfl:j=n:=by omega
       rw[cd oO,<-hstep];refine fx (aN @ll (hwk trivial)) ?_;refine hgo _ ?_;refine lG ?_;exact fun c hc=>eN hc
def HP (x:Bool×Bytes):Int:=if x.1 then-(num x.2:Int)else num x.2
theorem CC (x:Bool×Bytes):(HP x).natAbs=num x.2:=by unfold HP;split<;>omega
theorem GW {x:Bool×Bytes} (h:c9 x=true):lO (HP x)=x:=by
 obtain⟨n,a⟩:=x;simp only[c9,aY,fE]at h;have hz:=rI h.1;have hb:aO (num a)=a:=fF h.1;cases n
 ·simp[lO,HP,zs,zb,hb]
 ·have:a≠[]:=by simpa using h.2
  have hp:num a≠0:=fun e=>this (hz.1 e)
  simp[lO,HP,zs,zb,hb];omega
theorem tF {z:Int} (h:z.natAbs<dw):c9 (lO z)=true:=U4 h
theorem ZM:dV Zp 2:=⟨fun _=>rfl,fun x y hy=>by simp[Zp,eC,lO,PV.cells]at hy;rcases hy with rfl|rfl<;>rfl,fun h=>by omega,fun _ x=>rfl⟩
def tz (w:List Int) (t:fV):Int:=HP (t.neg,t.abs)*w.getD t.var.toNat 0
def WB (ts:List fV) (w:List Int):Prop:= ∀t∈ts,0<=t.var/\t.var<w.length/\c9 (t.neg,t.abs)=true/\(w.getD t.var.toNat 0).natAbs<dw/\(HP (t.neg,t.abs)).natAbs*(w.getD t.var.toNat 0).natAbs<dw
theorem WE:dV (fun t:fV=>PV.s t.base) 1:=⟨fun _=>rfl,fun _ y hy=>by cases dr.1 hy;rfl,fun _ _=>rfl,fun h=>absurd rfl h⟩
theorem Xc (w:List Int):dV (fun t=>Zp (tz w t)) 2:=⟨fun x=>ZM.len _,fun x y hy=>ZM.one _ y hy,fun h=>by omega,fun _ x=>rfl⟩
theorem CU (n nm:Nat) (g:Int) (tg:Bytes) {ts:List fV} {w:List Int} (hn:ts.length<1000000) (hw:WB ts w):iB Tryz.prog 391 nm [(n,⟨0,[.v (.sl (w.map Zp))],false,none⟩)] [.v (eH.pv ⟨g,tg,ts⟩), .p n 0 0] (.tup [.v (.sl (ts.map fun t=> .s t.base)), .v (.sl (ts.map fun t=>Zp (tz w t))), .v (E 0)]) []:=by
 have l4:(ts.map fV.pv).length=ts.length:=aE ..;have l5:(w.map Zp).length=w.length:=aE ..
 by_cases h0:ts=[]
 ·subst h0;simp only[eH.pv,bH];refine iB.w mixed Tryz.call391 Tryz.func391 rfl (je.1 _ _ _ (by cbv)) (je.2 _ _ (by cbv)) (obs:=[⟨0,[.v (.sl (w.map Zp))],false,none⟩]) (args:=[.v (.agg [.i .i64 g, .s tg, .sl []]), .p 0 0 0]) (fs:=[none]) (j:=none) (nw:=none) (v:= .tup [.v (.sl []), .v (.sl []), .v (E 0)]) (ns:=[n]) (obsA:=[⟨0,[.v (.sl (w.map Zp))],false,none⟩]) rfl ?_ (by simp) (by simp) rfl (by simp[aQ,au.aF,AV.aF,AV.aF.renL]) (by simp[aQ,AV.aF,cq]) (by simp[AV.aF,AV.aF.renL]) (by simp[eK,outs,au.aF,AV.aF,AV.aF.renL])
  simp only[go_sem,seval];repeat' first|simp only[go_sem,seval,true_or,or_true,false_or,or_false,ae,ga,dS,fL,fh,fj,dT,nu,oe,fB,fQ,cJ,aB,AV.aF,AV.aF.renL,ax]|(refine ah ?_)|refine sB ?_|apply xX<;>intro hc|refine⟨oD,?_⟩|exact oD|fail
  all_goals first|rfl|trivial|skip
 have hpos:0<ts.length:=kJ.2 h0;simp only[eH.pv];refine iB.w mixed Tryz.call391 Tryz.func391 rfl (je.1 _ _ _ (by cbv)) (je.2 _ _ (by cbv)) (obs:=[⟨0,[.v (.sl (w.map Zp))],false,none⟩]) (args:=[.v (.agg [.i .i64 g, .s tg, .sl (ts.map fV.pv)]), .p 0 0 0]) (fs:=[none]) (j:=none) (nw:=none) (v:= .tup [.v (.sl (ts.map fun t=> .s t.base)), .v (.sl (ts.map fun t=>Zp (tz w t))), .v (E 0)]) (ns:=[n]) (obsA:=[⟨0,[.v (.sl (w.map Zp))],false,none⟩]) rfl ?_ (by simp) (by simp) rfl (by simp[aQ,au.aF,AV.aF,AV.aF.renL]) (by simp[aQ,AV.aF,cq]) (by simp[AV.aF,AV.aF.renL]) (by simp[eK,outs,au.aF,AV.aF,AV.aF.renL])
 simp only[go_sem,seval];refine eF @l4 ?_;refine ah ?_;have e1:=getD_map fV.pv ts kB hpos;obtain⟨t1,t2,t3,t4,t5⟩:=hw _ (az kB hpos);have r1:bO (fun t:fV=>PV.s t.base) (ts.take (0+1))=bO (fun t:fV=>PV.s t.base) (ts.take 0)++[.v (.s (ts.getD 0 kB).base)]:=by rw[bu kB hpos,dh];rfl
 have r2:bO (fun t=>Zp (tz w t)) (ts.take (0+1))=bO (fun t=>Zp (tz w t)) (ts.take 0)++[.v (.b (zs (tz w (ts.getD 0 kB)))), .v (.s (zb (tz w (ts.getD 0 kB))))]:=by rw[bu kB hpos,dh];rfl
 have htz:tz w (ts.getD 0 kB)=HP ((ts.getD 0 kB).neg,(ts.getD 0 kB).abs)*w.getD (ts.getD 0 kB).var.toNat 0:=rfl;obtain⟨y,hy⟩: ∃y,y=ts.getD 0 kB:=⟨_,rfl⟩;rw[<-hy]at e1 t1 t2 t3 t4 t5 r1 r2 htz;clear hy;obtain⟨b,v,n,a⟩:=y;simp only at t1 t2 t3 t4 t5 r1 htz;have hx:=Lx (x:=HP (n,a)) (y:=w.getD v.toNat 0) (by rw[CC];simp only[c9,aY]at t3;exact tQ t3.1) t4 t5
 have e2:=getD_map Zp w 0 (i:=v.toNat) oO;have ez:Z (HP (n,a))= .agg [.b n, .s a]:=congrArg eC (GW t3);rw[ez,<-htz]at hx;clear t3 t4 t5 ez htz;generalize tz w ⟨b,v,n,a⟩=z at*;generalize w.getD v.toNat 0=wv at*;simp only[fV.pv]at e1;simp only[Zp,eC,lO]at e2;refine o8 (aN @l4 (aN @l5 (aN @e1 @e2))) @hx ?_;have hB:=WE;have hZ:=Xc w;refine af (α:=Nat) (fun j=>ts.length-(j+1)) (fun j=>⟨[(1, .p 0 0 0),(6, .rs 1035 j 0 (j+1) 1),(7, .rs 1039 j 0 (j+1) 2),(13, .v (.sl (ts.map fV.pv))),(14,E' ts.length),(15,E' (j+1))],[(0,⟨0,[.v (.sl (w.map Zp))],false,none⟩),(1035,⟨j,bO (fun t:fV=>PV.s t.base) (ts.take (j+1)),true,some 22⟩),(1039,⟨j,bO (fun t=>Zp (tz w t)) (ts.take (j+1)),true,some 89⟩)],1044⟩) (fun j=>j+1<=ts.length) 0 (fun _=>cC rfl) hpos ?_ ?_
 ·rw[dI,r1,r2,List.take_zero,show bO (fun t:fV=>PV.s t.base) []=[]from rfl,show bO (fun t=>Zp (tz w t)) []=[]from rfl]
  exact lE
 ·clear e1 e2 hx r1 r2 t1 t2;intro j hj R hR;have hj1:(ts.take (j+1)).length=j+1:=by rw[bU];omega
  have q1:=de hB (ts.take (j+1));have q2:=dK hB (ts.take (j+1));have q5:=de hZ (ts.take (j+1));have q6:=dK hZ (ts.take (j+1));rw[hj1]at q1 q2 q5 q6;rw[dG]at q1 q2
  by_cases hlt:j+1<ts.length
  ·have hgo:=hR (j+1) oO oO;clear hR;have e1:=getD_map fV.pv ts kB hlt;obtain⟨t1,t2,t3,t4,t5⟩:=hw _ (az kB hlt);have r1:bO (fun t:fV=>PV.s t.base) (ts.take ((j+1)+1))=bO (fun t:fV=>PV.s t.base) (ts.take (j+1))++[.v (.s (ts.getD (j+1) kB).base)]:=by rw[bu kB hlt,dh];rfl
   have r2:bO (fun t=>Zp (tz w t)) (ts.take ((j+1)+1))=bO (fun t=>Zp (tz w t)) (ts.take (j+1))++[.v (.b (zs (tz w (ts.getD (j+1) kB)))), .v (.s (zb (tz w (ts.getD (j+1) kB))))]:=by rw[bu kB hlt,dh];rfl
   have htz:tz w (ts.getD (j+1) kB)=HP ((ts.getD (j+1) kB).neg,(ts.getD (j+1) kB).abs)*w.getD (ts.getD (j+1) kB).var.toNat 0:=rfl;obtain⟨y,hy⟩: ∃y,y=ts.getD (j+1) kB:=⟨_,rfl⟩;rw[<-hy]at e1 t1 t2 t3 t4 t5 r1 r2 htz;clear hy;obtain⟨b,v,n,a⟩:=y;simp only at t1 t2 t3 t4 t5 r1 htz;have hx:=Lx (x:=HP (n,a)) (y:=w.getD v.toNat 0) (by rw[CC];simp only[c9,aY]at t3;exact tQ t3.1) t4 t5
   have e2:=getD_map Zp w 0 (i:=v.toNat) oO;have ez:Z (HP (n,a))= .agg [.b n, .s a]:=congrArg eC (GW t3);rw[ez,<-htz]at hx;clear t3 t4 t5 ez htz;generalize tz w ⟨b,v,n,a⟩=z at*;generalize w.getD v.toNat 0=wv at*;simp only[fV.pv]at e1;simp only[Zp,eC,lO]at e2;rw[r1,r2]at hgo;refine o8 (aN @l4 (aN @l5 (aN @e1 (aN @e2 (aN @q1 (aN @q2 (aN @q5 @q6))))))) @hx ?_;refine hgo _ ?_
   (refine AS.Le.of (by first|decide|omega) ?_ ?_<;>simp[dM,dL,aK,aj,AV.bd,AV.bd.bdL,u8,ai,ak,ar])
   all_goals (refine⟨?_,?_⟩<;>(intro c hc;rcases hc with h|h<;>first|exact eu h|(rcases h with rfl|rfl<;>rfl)|(subst h;rfl)))
  ·obtain hjv:j+1=ts.length:=by omega
   rw[hjv,cK]at q1 q2 q5 q6;rw[hjv,cK];have q3:=fk hB ts;have q4:chunk 1 ts.length (ts.flatMap fun x=>[PV.s x.base])=ts.map fun t=> .s t.base:=dA hB ts
   have q7:=fk hZ ts;have q8:chunk 2 ts.length (ts.flatMap fun x=>(Zp (tz w x)).cells)=ts.map fun t=>Zp (tz w t):=dA hZ ts
   repeat' first|simp only[go_sem,seval,true_or,or_true,false_or,or_false,ae,ga,dS,fL,fh,fj,dT,nu,oe,fB,fQ,cJ,aB,AV.aF,AV.aF.renL,ax,l4,q1,q2,q3,q4,q5,q6,q7,q8,e9]|refine sB ?_|apply xX<;>intro hc|refine⟨oD,?_⟩|exact oD|fail
   all_goals first|rfl|trivial|skip
noncomputable def Tm (gs:List (Bytes×Bytes)) (w:List Int) (q:eH):Nat:=Ey (num (gs.getD q.me.toNat gY).1) (q.terms.map fun t=>(num t.base,lO (tz w t)))
noncomputable def xy (s:dJ) (w:List Int):List Bytes:=s.eqs.map fun q=>aO (Tm s.groups w q)
theorem Bc (s:dJ) (w:List Int):(xy s w).length=s.eqs.length:=aE ..
theorem MP {l:List Bytes} {i:Nat} (h:i<l.length):bO PV.s (l.take (i+1))=bO PV.s (l.take i)++[.v (.s (l.getD i []))]:=by
 rw[bu [] h,dh];rfl
theorem Rz {m:Bytes} (lm:m.length<=8) {o:Bytes} (lo:o.length<=8) (hE:gE m o=0) {ts:List fV} {w:List Int} (hn:ts.length<1000000) (hg: ∀t∈ts,jc m o t.base=true) (hw:WB ts w):aA Tryz.prog 61 [G m o, .sl (ts.map fun t=> .s t.base), .sl (ts.map fun t=>Zp (tz w t))] (.tup [N (Ey (num m) (ts.map fun t=>(num t.base,lO (tz w t)))),E 0]):=by
 have h:=Ba lm lo hE (xs:=ts.map fun t=>num t.base) (es:=ts.map fun t=>lO (tz w t)) (fun x hx=>by
  obtain⟨t,ht,rfl⟩:=bw.1 hx;exact((cL hE).1 (hg t ht)).2) (fun e he=>by
  obtain⟨t,ht,rfl⟩:=bw.1 he;obtain⟨-,-,-,h4,h5⟩:=hw t ht;exact tF (by rw[tz,kI];exact h5)) (by simp) (by simpa using hn)
 rw[List.zip_map',iQ,iQ]at h;rw[show(ts.map fun t=>PV.s t.base)=ts.map (cY∘fun t=>num t.base)from ir fun t ht=>(eV (qu hE (hg t ht))).symm]
 exact h
theorem GU {s:dJ} (hs:CI s) {w:List Int} (hw: ∀q∈s.eqs,WB q.terms w):aA Tryz.prog 278 [s.pv, .sl (w.map Zp)] (.tup [.sl ((xy s w).map .s),E 0]):=by
 obtain⟨L,hLd⟩: ∃L,L=xy s w:=⟨_,rfl⟩;have hI:=fun i (h:i<s.eqs.length)=>(show L.getD i []=aO (Tm s.groups w (s.eqs.getD i kF)) by rw[hLd,xy];simp[aR,h])
 have hL:L.length=s.eqs.length:=by rw[hLd,Bc]
 rw[<-hLd];clear hLd;obtain⟨gs,vs,es⟩:=s;obtain⟨-,hg,hv,hq,ng,nv,ne,-⟩:=hs;simp only at hg hv hq ng nv ne hw hI hL;have l1:(gs.map gO).length=gs.length:=aE ..;have l3:(es.map eH.pv).length=es.length:=aE ..;unfold dJ.pv;simp only
 by_cases h0:es=[]
 ·subst h0;obtain rfl:L=[]:=gJ.1 hL;simp only[bH];refine eW Tryz.call278 Tryz.func278 ?_;exact U2
 have hpos:0<es.length:=kJ.2 h0;refine eW Tryz.call278 Tryz.func278 ?_;refine eF @l3 ?_;refine ah ?_;have e1:=getD_map eH.pv es kF hpos;obtain⟨q1,q2,q3,q4,q5⟩:=hq _ (az kF hpos);have kw:=hw _ (az kF hpos);have r1:=MP (l:=L) (i:=0) (by rw[hL];exact hpos)
 have r2:=hI 0 hpos;obtain⟨x,hx⟩: ∃x,x=es.getD 0 kF:=⟨_,rfl⟩;rw[<-hx]at e1 q1 q2 q3 q4 q5 kw r2;clear hx;obtain⟨gr,tg,ts⟩:=x;simp only at q1 q2 q3 q4 q5 kw;have hgl:gr.toNat<gs.length:=by omega
 have kg:=hg _ (az gY hgl);have e3:=getD_map gO gs gY hgl;simp only[Tm]at r2;obtain⟨z,hz⟩: ∃z,z=gs.getD gr.toNat gY:=⟨_,rfl⟩;rw[<-hz]at q5 kg e3 r2;clear hz q3;obtain⟨m,o⟩:=z;simp only at q5 kg r2;have hcl:=fun nm=>CU 1001 nm gr tg (ts:=ts) (w:=w) oO kw
 have xe:=Rz kg.2.1 kg.2.2 kg.1 (ts:=ts) (w:=w) oO (fun t ht=>(q5 t ht).2.2.1) kw
 have xe:aA Tryz.prog 61 [G m o, .sl (ts.map fun t=> .s t.base), .sl (ts.map fun t=>Zp (tz w t))] (.tup [.s (L.getD 0 []),E 0]):=by rw[r2];exact xe
 clear r2 kw kg q5;simp only[gO]at e3;simp only[eH.pv]at e1 hcl;repeat' first|simp only[go_sem,seval,l1,l3,e1,e3,aL]|(refine bC (hcl _) (by simp[aj]) ?_)|refine cP xe ?_|refine sB ?_|apply xX<;>intro hc|refine⟨oD,?_⟩|exact oD|fail
 have hM:dV PV.s 1:=dV.s;refine af (α:=Nat) (fun j=>es.length-(j+1)) (fun j=>⟨[(2, .p 1000 0 0),(6, .fn (.func 391) [] [.p 1001 0 0]),(7, .rs 1047 j 0 (j+1) 1),(16, .v (.sl (es.map eH.pv))),(17,E' es.length),(18,E' (j+1))],[(1000,⟨0,[.v (.sl (gs.map gO)), .v (.sl (vs.map dO)), .v (.sl (es.map eH.pv))],false,none⟩),(1001,⟨0,[.v (.sl (w.map Zp))],false,none⟩),(1047,⟨j,bO PV.s (L.take (j+1)),true,some 22⟩)],1051⟩) (fun j=>j+1<=es.length) 0 (fun _=>cC rfl) hpos ?_ ?_
 ·rw[dI,r1,List.take_zero,show bO PV.s ([]:List Bytes)=[]from rfl]
  exact lE
 ·clear e1 e3 q1 q2 q4 xe hcl r1;intro i hi R hR;have hj1:(L.take (i+1)).length=i+1:=by rw[bU];omega
  have p1:=de hM (L.take (i+1));have p2:=dK hM (L.take (i+1));rw[hj1,dG]at p1 p2
  by_cases hlt:i+1<es.length
  ·have hgo:=hR (i+1) oO oO;clear hR;have e1:=getD_map eH.pv es kF hlt;obtain⟨q1,q2,q3,q4,q5⟩:=hq _ (az kF hlt);have kw:=hw _ (az kF hlt);have r1:=MP (l:=L) (i:=(i+1)) (by rw[hL];exact hlt)
   have r2:=hI (i+1) hlt;obtain⟨x,hx⟩: ∃x,x=es.getD (i+1) kF:=⟨_,rfl⟩;rw[<-hx]at e1 q1 q2 q3 q4 q5 kw r2;clear hx;obtain⟨gr,tg,ts⟩:=x;simp only at q1 q2 q3 q4 q5 kw;have hgl:gr.toNat<gs.length:=by omega
   have kg:=hg _ (az gY hgl);have e3:=getD_map gO gs gY hgl;simp only[Tm]at r2;obtain⟨z,hz⟩: ∃z,z=gs.getD gr.toNat gY:=⟨_,rfl⟩;rw[<-hz]at q5 kg e3 r2;clear hz q3;obtain⟨m,o⟩:=z;simp only at q5 kg r2;have hcl:=fun nm=>CU 1001 nm gr tg (ts:=ts) (w:=w) oO kw
   have xe:=Rz kg.2.1 kg.2.2 kg.1 (ts:=ts) (w:=w) oO (fun t ht=>(q5 t ht).2.2.1) kw
   have xe:aA Tryz.prog 61 [G m o, .sl (ts.map fun t=> .s t.base), .sl (ts.map fun t=>Zp (tz w t))] (.tup [.s (L.getD (i+1) []),E 0]):=by rw[r2];exact xe
   clear r2 kw kg q5;simp only[gO]at e3;simp only[eH.pv]at e1 hcl;rw[r1]at hgo;repeat' first|simp only[go_sem,seval,l1,l3,e1,e3,aL,p1,p2]|(refine bC (hcl _) (by simp[aj]) ?_)|refine cP xe ?_|refine sB ?_|apply xX<;>intro hc|refine⟨oD,?_⟩|exact oD|fail
   refine hgo _ ?_
   (refine AS.Le.of (by first|decide|omega) ?_ ?_<;>simp[dM,dL,aK,aj,AV.bd,AV.bd.bdL,u8,ai,ak,ar])
   all_goals (intro c hc;rcases hc with h|h<;>first|exact eu h|(subst h;rfl))
  ·obtain hjv:i+1=es.length:=by omega
   rw[hjv]at p1 p2;have hLt:L.take es.length=L:=cd oO;rw[hLt]at p1 p2;rw[hjv,hLt];have p3:=fk hM L;have p4:=dA hM L;rw[hL]at p4;repeat' first|simp only[go_sem,seval,l3,p1,p2,p3,p4,e9]|refine sB ?_|apply xX<;>intro hc|refine⟨oD,?_⟩|exact oD|fail
   all_goals exact congrArg (fun l=>PV.tup [PV.sl l,E 0]) p4
theorem PF (x:Bool×Bytes):aA Tryz.prog 389 [eC x] (.b (!c9 x)):=by
 obtain⟨n,a⟩:=x;have hv:=fP n a;rw[show(aa a&& !(n&&a==[]))=c9 (n,a)from rfl]at hv
 generalize c9 (n,a)=b at*;simp only[eC];refine eW Tryz.call389 Tryz.func389 ?_;exact z1 @hv
end Go.Proofs.YtfdjchnefpefbaaGreatDoor
