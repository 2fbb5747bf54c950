/- Part of the proof. -/
import Derived.Test.YtipbhapfacgabaaGreatDoorUH32
set_option linter.all false
set_option maxHeartbeats 16000000
set_option maxRecDepth 100000
namespace Go.Proofs.Tryz
open Go Go.Dom Go.Num
variable {es:List (Bool×Bytes)} {i x:Nat} {xs:List Nat}
def ew (l:List Nat):List AV:=l.map fun x=> .v (N x)
theorem rC (l:List Nat):(ew l).length=l.length:=by simp[ew]
theorem GB (n:Nat):(List.replicate n [AV.v (.s [])]).flatten=ew (List.replicate n 0):=by
 unfold ew
 induction n with
 |zero=>rfl
 |succ n ih=>rw[List.replicate_succ,List.flatten_cons,ih];rfl
theorem GA {l:List Nat} (h:i<l.length):(ew l).getD i .u= .v (N (l.getD i 0)):=by
 simp[ew,bR,h]
theorem GD {l:List Nat} {o:Nat}:(ew l).set o (.v (N x))=ew (l.set o x):=by
 simp[ew,wU]
theorem yO {l:List Nat} {o:Nat} (h:o<l.length):(ew l).take o++[.v (N x)]++(ew l).drop (o+1)=ew (l.set o x):=by
 rw[<-GD,xl,ah (by rw[rC];exact h)];simp
theorem u7 {l:List Nat} {c:AV} {n:Nat} (h:c∈ew l):c.bd n=true:=by
 obtain⟨x,-,rfl⟩:=cG.1 h;rfl
def vW (x:Nat):PV:=N x
theorem UG (xs:List Nat) (h:i<xs.length):(xs.map vW).getD i .fn0=N (xs.getD i 0):=getD_map vW xs 0 h
theorem QG {m:Bytes} (lm:m.length<=8) {o:Bytes} (lo:o.length<=8) (hE:gE m o=0) (hx: ∀x∈xs,GP m o x) (he: ∀e∈es,dh e=true) (n1:xs.length<1000000) (n2:es.length<1000000):aF 92 [G m o, .sl (xs.map vW), .sl (es.map fw), .b true] (E 0):=by
 have l1:(xs.map vW).length=xs.length:=aR ..;have l2:(es.map fw).length=es.length:=aR ..;have c3:=nS lm lo;rw[hE]at c3;have hn:=cU lm;refine eW call92 func92 ?_;refine fq @l1 ?_;refine aq (α:=Nat) (fun i=>xs.length-i) (fun i=>⟨[(1, .v (.sl (xs.map vW))),(2, .v (.sl (es.map fw))),(3, .v (.b true)),(4, .p 1000 0 0),(16, .v (.sl (xs.map vW))),(17,E' xs.length),(18,E' i)],[(1000,⟨0,[.v (.s m), .v (.s o)],false,none⟩)],_⟩) (fun i=>i<=xs.length) 0 (fun _=>aB _) (aT _) ?_ ?_
 ·exact lE
 ·intro i hi R hR
  by_cases hlt:i<xs.length
  ·have e1:=UG xs hlt;have k:=hx _ (aG 0 hlt);have hgo:=hR (i+1) oO oO;have c1:=aD (aZ (xs.getD i 0));rw[vN (show xs.getD i 0<(2^64) by have:=k.lt;omega)]at c1
   clear hR k;generalize xs.getD i 0=x at*;exact qe (aN @l1 @e1) @hgo @c1
  ·obtain rfl:i=xs.length:=oO;clear hR;refine fq (aN @l1 @l2) ?_;refine aq (α:=Nat) (fun i=>es.length-i) (fun i=>⟨[(1, .v (.sl (xs.map vW))),(3, .v (.b true)),(4, .p 1000 0 0),(26, .v (.sl (es.map fw))),(27,E' es.length),(28,E' i)],[(1000,⟨0,[.v (.s m), .v (.s o)],false,none⟩)],_⟩) (fun i=>i<=es.length) 0 (fun _=>aB _) (aT _) ?_ ?_
   ·exact lE
   ·intro i hi R hR
    by_cases hlt:i<es.length
    ·have e1:=getD_map fw es lU hlt;have k:=he _ (aG lU hlt);have hgo:=hR (i+1) oO oO;obtain⟨x,hxx⟩: ∃x,x=es.getD i lU:=⟨_,rfl⟩;rw[<-hxx]at e1 k;clear hR hxx;obtain⟨n,a⟩:=x;have c2:=ib n a;rw[show(aa a&& !(n&&a==[]))=true from k]at c2
     simp only[fw]at e1;exact qe (aN @l2 @e1) @hgo @c2
    ·obtain rfl:i=es.length:=oO;clear hR;refine Hx (aN @l1 @l2) @c3 ?_;refine aq (α:=Nat) (fun i=>xs.length-i) (fun i=>⟨[(4, .p 1000 0 0),(43, .v (.sl (xs.map vW))),(44,E' xs.length),(45,E' i)],[(1000,⟨0,[.v (.s m), .v (.s o)],false,none⟩)],_⟩) (fun i=>i<=xs.length) 0 (fun _=>aB _) (aT _) ?_ ?_
     ·exact lE
     ·intro i hi R hR
      by_cases hlt:i<xs.length
      ·have e1:=UG xs hlt;have k:=hx _ (aG 0 hlt);have hgo:=hR (i+1) oO oO;have c4:=sE lm o (aZ (xs.getD i 0));rw[k.has hE lm]at c4;clear hR k;generalize xs.getD i 0=x at*;exact qe (aN @l1 @e1) @hgo @c4
      ·obtain rfl:i=xs.length:=oO;exact oo @l1
theorem Up {e:Bytes} (he:aa e=true):cH (num e)<1000000:=by
 have h1:num e<2^1024:=by
  refine ba (cu e) ?_;have le:e.length<=128:=by simp[aa]at he;exact he.1
  exact fV (cW oC le) (by decide+kernel)
 unfold cH;split
 ·decide
 ·rename_i h;have:=(wR h).2 h1;omega
theorem O2 (M:Nat) (hl:es.length=xs.length):((xs.zip es).map fun p=>(Ml M p.1 p.2,num p.2.2)).length=xs.length/\ ∀i,i<xs.length->((xs.zip es).map fun p=>(Ml M p.1 p.2,num p.2.2)).getD i (0,0)=(Ml M (xs.getD i 0) (es.getD i lU),num (es.getD i lU).2):=by
 constructor
 ·simp;omega
 ·intro i hi;have h2:i<es.length:=oO;have e:(xs.zip es)[i]?=some (xs[i],es[i]):=List.getElem?_zip_eq_some.2 ⟨bG hi,bG h2⟩;rw[bR,gY,e,bR,bG hi,bR,bG h2];rfl
theorem Mg (n:Nat):n<2^cH n:=by
 unfold cH;split
 ·rename_i h;subst h;decide
 ·exact tT
theorem sD {m:Bytes} (lm:m.length<=8) {o:Bytes} (lo:o.length<=8) (hE:gE m o=0) (hx: ∀x∈xs,GP m o x) (he: ∀e∈es,dh e=true) (hl:es.length=xs.length) (n1:xs.length<1000000):aF 42 [G m o, .sl (xs.map vW), .sl (es.map fw)] (.tup [N (CC (num m) (xs.zip es)),E 0]):=by
 have l1:(xs.map vW).length=xs.length:=aR ..;have l2:(es.map fw).length=xs.length:=by rw[aR];exact hl
 have hch:=QG lm lo hE hx he n1 oO;obtain⟨vm,vo,m1,-,-⟩:=qJ hE;have hn:=cU lm;obtain⟨zl,zg⟩:=O2 (num m) hl;unfold CC;generalize hpr:((xs.zip es).map fun p=>(Ml (num m) p.1 p.2,num p.2.2))=pr at*
 clear hpr;obtain⟨M,hM⟩: ∃M,M=num m:=⟨_,rfl⟩;have eG:G m o= .agg [N M, .s o]:=by rw[hM,show N (num m)= .s m from congrArg PV.s (eU vm)]
 rw[eG]at hch⊢;have hxM: ∀i,i<xs.length->xs.getD i 0<M/\Nat.gcd (xs.getD i 0) M=1/\(pr.getD i (0,0)).1<M:=fun i hi=>by
  have k:=hx _ (aG 0 hi);refine⟨by rw[hM];exact k.lt,by rw[hM];exact k.SF,?_⟩
  rw[zg i hi,hM];unfold Ml;split
  ·exact k.unit.inv.1
  ·exact k.lt
 rw[<-hM]at hn m1 zg⊢;clear hx hM eG lm lo hE vm vo;have hM1:1%M=1:=bM oO;have hN:(ew (List.replicate xs.length 0)).length=xs.length:=by simp[ew]
 refine eW call42 func42 ?_;repeat' first|simp only[go_sem,seval,l1,l2,GB,hN,du,kR]|refine cP hch ?_|refine oE ?_|apply xX<;>intro hc
 refine aq (α:=Nat×List Nat×Nat) (fun s=>xs.length-s.1) (fun s=>⟨[(1, .v (.sl (xs.map vW))),(2, .v (.sl (es.map fw))),(3, .p 1000 0 0),(9, .rs 1017 0 0 xs.length 1),(10,E' s.2.2),(35, .v (.sl (xs.map vW))),(36,E' xs.length),(37,E' s.1)],[(1000,⟨0,[.v (N M), .v (.s o)],false,none⟩),(1017,⟨0,ew s.2.1,false,none⟩)],_⟩) (fun s=>s.1<=xs.length/\s.2.1.length=xs.length/\s.2.2<1000000/\ ∀j,j<s.1->s.2.1.getD j 0=(pr.getD j (0,0)).1/\(pr.getD j (0,0)).2<2^s.2.2) (0,List.replicate xs.length 0,0) (fun _=>aB _) ⟨aT _,by simp,(by decide:0<1000000),fun j hj=>aJ hj (tB _)⟩ ?_ ?_
 ·refine lG ?_;exact fun c hc=>u7 hc
 ·rintro⟨i,l,k⟩ ⟨hi,hll,hk,hj⟩ R hR;simp only at hi hll hk hj;have ll:(ew l).length=xs.length:=by rw[rC];exact hll
  by_cases hlt:i<xs.length
  ·have e1:=UG xs hlt;have e2:=getD_map fw es lU (i:=i) oO;have ke:=he _ (aG lU (show i<es.length by omega))
   obtain⟨x1,x2,x3⟩:=hxM i hlt;have zi:=zg i hlt;obtain⟨x,hxx⟩: ∃x,x=xs.getD i 0:=⟨_,rfl⟩;obtain⟨e,hee⟩: ∃e,e=es.getD i lU:=⟨_,rfl⟩;rw[<-hxx]at e1 x1 x2 zi;rw[<-hee]at e2 ke zi;clear hxx hee;obtain⟨n,a⟩:=e;simp only[dh,aV]at ke;have hbt:=wu ke.1;have hbe:=Up ke.1;have hmx: ∀ _:True,(if(cH (num a):Int)>(k:Int)then(cH (num a):Int)else(k:Int))=((max k (cH (num a)):Nat):Int):=fun _=>by split<;>omega
   have hinv:=qZ (a:=x) (m:=M) oO hn oO x2;have hgo:=fun y (hy:y=(pr.getD i (0,0)).1)=>hR (i+1,l.set i y,max k (cH (num a))) ⟨by show i+1<= _;omega,by simp[hll],by show max k _< _;omega,fun j hj2=>by
    by_cases hji:j=i
    ·subst hji;refine⟨by simp[bR,hll,hlt,hy],?_⟩
     rw[zi];exact ba (Mg _) (cW oC (Nat.le_max_right _ _))
    ·obtain⟨h1,h2⟩:=hj j (by simp only at hj2;omega)
     refine⟨?_,ba h2 (cW oC (Nat.le_max_left _ _))⟩;rw[<-h1];simp[bR,List.getElem?_set,kA hji]⟩ (by show xs.length-(i+1)<xs.length-i;omega)
   rw[zi]at hgo;simp only[fw]at e2;clear hR hj hch zg hxM he;have p1: ∀y,List.take i (ew l)++[AV.v (.s (aZ y))]++List.drop (i+1) (ew l)=ew (l.set i y):=fun y=>yO oO
   have p2: ∀x y,List.take i (ew (l.set i x))++[AV.v (.s (aZ y))]++List.drop (i+1) (ew (l.set i x))=ew (l.set i y):=fun x y=>by rw[yO (by rw[nh];omega),List.set_set]
   have p3: ∀y,(ew (l.set i y)).length=xs.length:=fun y=>by rw[rC,nh,hll]
   cases n
   ·have hgo:=hgo x (by simp[Ml])
    refine qN (aN @l1 (aN @l2 (aN @ll (aN @e1 (aN @e2 (aN @p1 (aN @p3 (hmx oT)))))))) @hbt ?_;refine hgo _ ?_;refine lG ?_;exact fun c hc=>u7 hc
   ·have hgo:=hgo (iQ x M) (by simp[Ml])
    refine zS (aN @l1 (aN @l2 (aN @ll (aN @e1 (aN @e2 (aN @p1 (aN @p2 (aN @p3 (hmx oT))))))))) @hbt @hinv ?_;refine hgo _ ?_;refine lG ?_;exact fun c hc=>u7 hc
  ·obtain rfl:i=xs.length:=oO;have hlp:l=pr.map (·.1):=by
    refine tL (by simp[hll,zl]) fun j h1 h2=> ?_
    have:=(hj j oO).1;rw[bR,bG h1,bR,bG (by omega:j<pr.length)]at this
    simpa using this
   have htop:pp pr k=1:=VD fun p hp=>by
    obtain⟨j,hj2,rfl⟩:=iv hp;have:=(hj j oO).2;rw[bR,bG hj2]at this;exact this
   have h0:pp pr 0%M=pp pr 0%M:=rfl;have hw1: ∀ _:True,IntKind.i64.wrap ((k:Int)-1)=(k:Int)-1:=fun _=>IntWalk.i64_in _ oO
   clear hR hj;refine qN (aN (hw1 oT) @du) @xI ?_;rw[hlp]at ll;have hbit:=fun j (hj:j<xs.length)=>xz (a:=(es.getD j lU).2) (by have:=he _ (aG lU (show j<es.length by omega));simp only[dh,aV]at this;exact this.1)
   have hyg: ∀j,j<xs.length->(ew (pr.map (·.1))).getD j .u= .v (N (pr.getD j (0,0)).1):=fun j hj=>by
    rw[GA (by simpa[zl]using hj)]
    simp[bR,zl,hj]
   subst hlp;obtain⟨n,hn0⟩: ∃n,n=xs.length:=⟨_,rfl⟩;rw[<-hn0]at ll hyg hbit zg zl l1 l2 hi hll n1 hxM hl;clear hch hlt;refine aq (α:=Nat) (fun k=>k) (fun k=>⟨[(2, .v (.sl (es.map fw))),(9, .rs 1017 0 0 n 1),(15, .p 1025 0 0),(16, .fn (.func 95) [] [.p 1025 0 0, .p 1000 0 0]),(17, .v (.i .i64 ((k:Int)-1)))],[(1025,⟨0,[.v (N (pp pr k%M))],false,some 22⟩),(1017,⟨0,ew (pr.map (·.1)),false,none⟩),(1000,⟨0,[.v (N M), .v (.s o)],false,none⟩)],_⟩) (fun j=>j<=k) k (fun _=>aB _) (aB _) ?_ ?_
   ·rw[hn0];refine lG ?_;exact⟨by rw[htop,hM1],fun c hc=>u7 hc⟩
   ·intro k' hk' R hR
    cases k' with
    |zero=>
     exact z0
    |succ k'=>
     have hgo:=hR k' oO oO;obtain⟨z,hz⟩: ∃z,z=pp pr (k'+1)%M:=⟨_,rfl⟩;have hzm:z<M:=by rw[hz];exact aL _ oO
     have e1: ∀ _:True,((k'+1:Nat):Int)-1=(k':Int):=fun _=>oO
     have hge: ∀ _:True,decide ((k':Int)>=0)=true:=fun _=>by simp
     have hwk: ∀ _:True,IntKind.i64.wrap ((k':Int)-1)=(k':Int)-1:=fun _=>IntWalk.i64_in _ oO
     have hstep:pp pr k'%M=(z*z%M)*(pb pr k')%M:=by
      rw[hz,<-cd,lj,Rl]
     rw[<-hz];have hx1:=fun nm=>lX 1025 1000 nm oC o (some 22) none (a:=z) (b:=z) (m:=M) oO oO oO oO
     clear hR;repeat' first|simp only[go_sem,seval,e1 oT,hge oT,iq,iW,qd,ll]|(refine aW (hx1 _) (by simp[hget]) ?_)|refine oE ?_|apply xX<;>intro hc
     refine aq (α:=Nat) (fun j=>n-j) (fun j=>⟨[(2, .v (.sl (es.map fw))),(9, .rs 1017 0 0 n 1),(15, .p 1025 0 0),(16, .fn (.func 95) [] [.p 1025 0 0, .p 1000 0 0]),(17, .v (.i .i64 (k':Int))),(85, .rs 1017 0 0 n 1),(86,E' n),(87,E' j)],[(1025,⟨0,[.v (N ((z*z%M)*pb (pr.take j) k'%M))],false,some 22⟩),(1017,⟨0,ew (pr.map (·.1)),false,none⟩),(1000,⟨0,[.v (N M), .v (.s o)],false,none⟩)],_⟩) (fun j=>j<=n) 0 (fun _=>aB _) (aT _) ?_ ?_
     ·refine lG ?_;exact⟨by simp[pb],fun c hc=>u7 hc⟩
     ·intro j hj R' hR'
      by_cases hjn:j<n
      ·have hgo':=hR' (j+1) oO oO;have e2:=getD_map fw es lU (i:=j) oO;have hb:=hbit j hjn k' oO;have hy:=hyg j hjn;obtain⟨-,-,hym⟩:=hxM j hjn;have zj:=zg j hjn;rw[aY (0,0) oO,Rk]at hgo';have hdec:(num (es.getD j lU).2).testBit k'=decide ((pr.getD j (0,0)).2/2^k'%2=1):=by rw[zj];exact kN
       rw[hdec]at hb;clear zj hdec;generalize pr.getD j (0,0)=p at*;obtain⟨y,q⟩:=p;simp only at hym hb hy hgo';obtain⟨e,hee⟩: ∃e,e=es.getD j lU:=⟨_,rfl⟩;rw[<-hee]at e2 hb;obtain⟨en,ea⟩:=e;simp only[fw]at e2;obtain⟨v,hv⟩: ∃v,v=z*z%M*pb (pr.take j) k'%M:=⟨_,rfl⟩;have hvm:v<M:=by rw[hv];exact aL _ oO
       rw[<-cr,cd,<-hv]at hgo';rw[<-hv];have hx2:=fun nm=>lX 1025 1000 nm oC o (some 22) none (a:=v) (b:=y) (m:=M) oO oO oO oO
       clear hR' hx1 hbit hyg hxM zg
       by_cases hq:q/2^k'%2=1
       ·rw[aS hq]at hb;rw[hq,Nat.pow_one,bM hym]at hgo';repeat' first|simp only[go_sem,seval,l2,ll,e2,hy]|refine cP hb ?_|(refine aW (hx2 _) (by simp[hget]) ?_)|refine oE ?_|apply xX<;>intro hc
        refine hgo' _ ?_;refine lG ?_;exact fun c hc=>u7 hc
       ·rw[b9 hq]at hb;rw[show q/2^k'%2=0 by omega,Nat.pow_zero,hM1,eH,bM hvm]at hgo'
        refine qN (aN @l2 (aN @ll (aN @e2 @hy))) @hb ?_;refine hgo' _ ?_;refine lG ?_;exact fun c hc=>u7 hc
      ·obtain rfl:j=n:=oO;rw[dc oO,<-hstep];refine eJ (aN @ll (hwk oT)) ?_;refine hgo _ ?_;refine lG ?_;exact fun c hc=>u7 hc
def DS (x:Bool×Bytes):Int:=if x.1 then-(num x.2:Int)else num x.2
theorem DJ (x:Bool×Bytes):(DS x).natAbs=num x.2:=by unfold DS;split<;>omega
theorem Ih {x:Bool×Bytes} (h:dh x=true):jB (DS x)=x:=by
 obtain⟨n,a⟩:=x;simp only[dh,aV,dC]at h;have hz:=sK h.1;have hb:aZ (num a)=a:=eU h.1;cases n
 ·simp[jB,DS,zs,zb,hb]
 ·have:a≠[]:=by simpa using h.2
  have hp:num a≠0:=fun e=>this (hz.1 e)
  simp[jB,DS,zs,zb,hb];omega
theorem rz {z:Int} (h:z.natAbs<dP):dh (jB z)=true:=Y3 h
theorem zRw:dq Zp 2:=⟨fun _=>rfl,fun x y hy=>by simp[Zp,fw,jB,PV.cells]at hy;rcases hy with rfl|rfl<;>rfl,fun h=>oO,fun _ x=>rfl⟩
def tz (w:List Int) (t:fS):Int:=DS (t.neg,t.abs)*w.getD t.var.toNat 0
def WB (ts:List fS) (w:List Int):Prop:= ∀t∈ts,0<=t.var/\t.var<w.length/\dh (t.neg,t.abs)=true/\(w.getD t.var.toNat 0).natAbs<dP/\(DS (t.neg,t.abs)).natAbs*(w.getD t.var.toNat 0).natAbs<dP
theorem Ym:dq (fun t:fS=>PV.s t.base) 1:=⟨fun _=>rfl,fun _ y hy=>by cases ik.1 hy;rfl,fun _ _=>rfl,fun h=>aJ rfl h⟩
theorem YM (w:List Int):dq (fun t=>Zp (tz w t)) 2:=⟨fun x=>zRw.len _,fun x y hy=>zRw.one _ y hy,fun h=>oO,fun _ x=>rfl⟩
theorem Eh (n nm:Nat) (g:Int) (tg:Bytes) {ts:List fS} {w:List Int} (hn:ts.length<1000000) (hw:WB ts w):jU prog 328 nm [(n,⟨0,[.v (.sl (w.map Zp))],false,none⟩)] [.v (dS.pv ⟨g,tg,ts⟩), .p n 0 0] (.tup [.v (.sl (ts.map fun t=> .s t.base)), .v (.sl (ts.map fun t=>Zp (tz w t))), .v (E 0)]) []:=by
 have l4:(ts.map fS.pv).length=ts.length:=aR ..;have l5:(w.map Zp).length=w.length:=aR ..
 by_cases h0:ts=[]
 ·subst h0;simp only[dS.pv,bH];refine jU.w mixed call328 func328 rfl (j5.1 _ _ _ (by cbv)) (j5.2 _ _ (by cbv)) (obs:=[⟨0,[.v (.sl (w.map Zp))],false,none⟩]) (args:=[.v (.agg [.i .i64 g, .s tg, .sl []]), .p 0 0 0]) (fs:=[none]) (j:=none) (nw:=none) (v:= .tup [.v (.sl []), .v (.sl []), .v (E 0)]) (ns:=[n]) (obsA:=[⟨0,[.v (.sl (w.map Zp))],false,none⟩]) rfl ?_ (by simp) (by simp) rfl (by simp[aU,aC.ren,AV.ren,AV.ren.renL]) (by simp[aU,AV.ren,cT]) (by simp[AV.ren,AV.ren.renL]) (by simp[fT,outs,aC.ren,AV.ren,AV.ren.renL])
  simp only[go_sem,seval];repeat' first|simp only[go_sem,seval,true_or,or_true,false_or,or_false,ai,iU,e7,iA,fN,gn,eN,pz,pI,gU,iF,dr,aK,AV.ren,AV.ren.renL,aI]|(refine aj ?_)|refine oE ?_|apply xX<;>intro hc
  all_goals first|rfl|trivial|skip
 have hpos:0<ts.length:=qy.2 h0;simp only[dS.pv];refine jU.w mixed call328 func328 rfl (j5.1 _ _ _ (by cbv)) (j5.2 _ _ (by cbv)) (obs:=[⟨0,[.v (.sl (w.map Zp))],false,none⟩]) (args:=[.v (.agg [.i .i64 g, .s tg, .sl (ts.map fS.pv)]), .p 0 0 0]) (fs:=[none]) (j:=none) (nw:=none) (v:= .tup [.v (.sl (ts.map fun t=> .s t.base)), .v (.sl (ts.map fun t=>Zp (tz w t))), .v (E 0)]) (ns:=[n]) (obsA:=[⟨0,[.v (.sl (w.map Zp))],false,none⟩]) rfl ?_ (by simp) (by simp) rfl (by simp[aU,aC.ren,AV.ren,AV.ren.renL]) (by simp[aU,AV.ren,cT]) (by simp[AV.ren,AV.ren.renL]) (by simp[fT,outs,aC.ren,AV.ren,AV.ren.renL])
 simp only[go_sem,seval];refine fq @l4 ?_;refine aj ?_;have e1:=getD_map fS.pv ts jl hpos;obtain⟨t1,t2,t3,t4,t5⟩:=hw _ (aG jl hpos);have r1:bI (fun t:fS=>PV.s t.base) (ts.take (0+1))=bI (fun t:fS=>PV.s t.base) (ts.take 0)++[.v (.s (ts.getD 0 jl).base)]:=by rw[aY jl hpos,dQ];rfl
 have r2:bI (fun t=>Zp (tz w t)) (ts.take (0+1))=bI (fun t=>Zp (tz w t)) (ts.take 0)++[.v (.b (zs (tz w (ts.getD 0 jl)))), .v (.s (zb (tz w (ts.getD 0 jl))))]:=by rw[aY jl hpos,dQ];rfl
 have htz:tz w (ts.getD 0 jl)=DS ((ts.getD 0 jl).neg,(ts.getD 0 jl).abs)*w.getD (ts.getD 0 jl).var.toNat 0:=rfl;obtain⟨y,hy⟩: ∃y,y=ts.getD 0 jl:=⟨_,rfl⟩;rw[<-hy]at e1 t1 t2 t3 t4 t5 r1 r2 htz;clear hy;obtain⟨b,v,n,a⟩:=y;simp only at t1 t2 t3 t4 t5 r1 htz;have hx:=Nj (x:=DS (n,a)) (y:=w.getD v.toNat 0) (by rw[DJ];simp only[dh,aV]at t3;exact oH t3.1) t4 t5
 have e2:=getD_map Zp w 0 (i:=v.toNat) oO;have ez:Z (DS (n,a))= .agg [.b n, .s a]:=congrArg fw (Ih t3);rw[ez,<-htz]at hx;clear t3 t4 t5 ez htz;generalize tz w ⟨b,v,n,a⟩=z at*;generalize w.getD v.toNat 0=wv at*;simp only[fS.pv]at e1;simp only[Zp,fw,jB]at e2;refine qN (aN @l4 (aN @l5 (aN @e1 @e2))) @hx ?_;have hB:=Ym;have hZ:=YM w;refine aq (α:=Nat) (fun j=>ts.length-(j+1)) (fun j=>⟨[(1, .p 0 0 0),(6, .rs 1035 j 0 (j+1) 1),(7, .rs 1039 j 0 (j+1) 2),(13, .v (.sl (ts.map fS.pv))),(14,E' ts.length),(15,E' (j+1))],[(0,⟨0,[.v (.sl (w.map Zp))],false,none⟩),(1035,⟨j,bI (fun t:fS=>PV.s t.base) (ts.take (j+1)),true,some 22⟩),(1039,⟨j,bI (fun t=>Zp (tz w t)) (ts.take (j+1)),true,some 94⟩)],1044⟩) (fun j=>j+1<=ts.length) 0 (fun _=>fk rfl) hpos ?_ ?_
 ·rw[fG,r1,r2,List.take_zero,show bI (fun t:fS=>PV.s t.base) []=[]from rfl,show bI (fun t=>Zp (tz w t)) []=[]from rfl]
  exact lE
 ·clear e1 e2 hx r1 r2 t1 t2;intro j hj R hR;have hj1:(ts.take (j+1)).length=j+1:=by rw[da];omega
  have q1:=dw hB (ts.take (j+1));have q2:=eD hB (ts.take (j+1));have q5:=dw hZ (ts.take (j+1));have q6:=eD hZ (ts.take (j+1));rw[hj1]at q1 q2 q5 q6;rw[eH]at q1 q2
  by_cases hlt:j+1<ts.length
  ·have hgo:=hR (j+1) oO oO;clear hR;have e1:=getD_map fS.pv ts jl hlt;obtain⟨t1,t2,t3,t4,t5⟩:=hw _ (aG jl hlt);have r1:bI (fun t:fS=>PV.s t.base) (ts.take ((j+1)+1))=bI (fun t:fS=>PV.s t.base) (ts.take (j+1))++[.v (.s (ts.getD (j+1) jl).base)]:=by rw[aY jl hlt,dQ];rfl
   have r2:bI (fun t=>Zp (tz w t)) (ts.take ((j+1)+1))=bI (fun t=>Zp (tz w t)) (ts.take (j+1))++[.v (.b (zs (tz w (ts.getD (j+1) jl)))), .v (.s (zb (tz w (ts.getD (j+1) jl))))]:=by rw[aY jl hlt,dQ];rfl
   have htz:tz w (ts.getD (j+1) jl)=DS ((ts.getD (j+1) jl).neg,(ts.getD (j+1) jl).abs)*w.getD (ts.getD (j+1) jl).var.toNat 0:=rfl;obtain⟨y,hy⟩: ∃y,y=ts.getD (j+1) jl:=⟨_,rfl⟩;rw[<-hy]at e1 t1 t2 t3 t4 t5 r1 r2 htz;clear hy;obtain⟨b,v,n,a⟩:=y;simp only at t1 t2 t3 t4 t5 r1 htz;have hx:=Nj (x:=DS (n,a)) (y:=w.getD v.toNat 0) (by rw[DJ];simp only[dh,aV]at t3;exact oH t3.1) t4 t5
   have e2:=getD_map Zp w 0 (i:=v.toNat) oO;have ez:Z (DS (n,a))= .agg [.b n, .s a]:=congrArg fw (Ih t3);rw[ez,<-htz]at hx;clear t3 t4 t5 ez htz;generalize tz w ⟨b,v,n,a⟩=z at*;generalize w.getD v.toNat 0=wv at*;simp only[fS.pv]at e1;simp only[Zp,fw,jB]at e2;rw[r1,r2]at hgo;refine qN (aN @l4 (aN @l5 (aN @e1 (aN @e2 (aN @q1 (aN @q2 (aN @q5 @q6))))))) @hx ?_;refine hgo _ ?_
   (refine AS.Le.of (by first|decide|omega) ?_ ?_<;>simp[dG,dF,aO,hget,AV.bd,AV.bd.bdL,u8,ar,au,az])
   all_goals (refine⟨?_,?_⟩<;>(intro c hc;rcases hc with h|h<;>first|exact cf h|(rcases h with rfl|rfl<;>rfl)|(subst h;rfl)))
  ·obtain hjv:j+1=ts.length:=oO;rw[hjv,cq]at q1 q2 q5 q6;rw[hjv,cq];have q3:=gH hB ts;have q4:chunk 1 ts.length (ts.flatMap fun x=>[PV.s x.base])=ts.map fun t=> .s t.base:=eC hB ts
   have q7:=gH hZ ts;have q8:chunk 2 ts.length (ts.flatMap fun x=>(Zp (tz w x)).cells)=ts.map fun t=>Zp (tz w t):=eC hZ ts
   repeat' first|simp only[go_sem,seval,true_or,or_true,false_or,or_false,ai,iU,e7,iA,fN,gn,eN,pz,pI,gU,iF,dr,aK,AV.ren,AV.ren.renL,aI,l4,q1,q2,q3,q4,q5,q6,q7,q8,gI]|refine oE ?_|apply xX<;>intro hc
   all_goals first|rfl|trivial|skip
noncomputable def Lu (gs:List (Bytes×Bytes)) (w:List Int) (q:dS):Nat:=CC (num (gs.getD q.jA.toNat iC).1) (q.terms.map fun t=>(num t.base,jB (tz w t)))
noncomputable def sG (s:cY) (w:List Int):List Bytes:=s.eqs.map fun q=>aZ (Lu s.groups w q)
theorem Ch (s:cY) (w:List Int):(sG s w).length=s.eqs.length:=aR ..
theorem Ot {l:List Bytes} (h:i<l.length):bI PV.s (l.take (i+1))=bI PV.s (l.take i)++[.v (.s (l.getD i []))]:=by
 rw[aY [] h,dQ];rfl
theorem SZ {m:Bytes} (lm:m.length<=8) {o:Bytes} (lo:o.length<=8) (hE:gE m o=0) {ts:List fS} {w:List Int} (hn:ts.length<1000000) (hg: ∀t∈ts,lf m o t.base=true) (hw:WB ts w):aF 42 [G m o, .sl (ts.map fun t=> .s t.base), .sl (ts.map fun t=>Zp (tz w t))] (.tup [N (CC (num m) (ts.map fun t=>(num t.base,jB (tz w t)))),E 0]):=by
 have h:=sD lm lo hE (xs:=ts.map fun t=>num t.base) (es:=ts.map fun t=>jB (tz w t)) (fun x hx=>by
  obtain⟨t,ht,rfl⟩:=cG.1 hx;exact((eY hE).1 (hg t ht)).2) (fun e he=>by
  obtain⟨t,ht,rfl⟩:=cG.1 he;obtain⟨-,-,-,h4,h5⟩:=hw t ht;exact rz (by rw[tz,qx];exact h5)) (by simp) (by simpa using hn)
 rw[List.zip_map',kP,kP]at h;rw[show(ts.map fun t=>PV.s t.base)=ts.map (vW∘fun t=>num t.base)from qA fun t ht=>(eT (rv hE (hg t ht))).symm]
 exact h
theorem Ie {s:cY} (hs:DZ s) {w:List Int} (hw: ∀q∈s.eqs,WB q.terms w):aF 255 [s.pv, .sl (w.map Zp)] (.tup [.sl ((sG s w).map .s),E 0]):=by
 obtain⟨L,hLd⟩: ∃L,L=sG s w:=⟨_,rfl⟩;have hI:=fun i (h:i<s.eqs.length)=>(show L.getD i []=aZ (Lu s.groups w (s.eqs.getD i jz)) by rw[hLd,sG];simp[bR,h])
 have hL:L.length=s.eqs.length:=by rw[hLd,Ch]
 rw[<-hLd];clear hLd;obtain⟨gs,vs,es⟩:=s;obtain⟨-,hg,hv,hq,ng,nv,ne,-⟩:=hs;simp only at hg hv hq ng nv ne hw hI hL;have l1:(gs.map gV).length=gs.length:=aR ..;have l3:(es.map dS.pv).length=es.length:=aR ..;unfold cY.pv;simp only
 by_cases h0:es=[]
 ·subst h0;obtain rfl:L=[]:=iZ.1 hL;simp only[bH];refine eW call255 func255 ?_;exact Tg
 have hpos:0<es.length:=qy.2 h0;refine eW call255 func255 ?_;refine fq @l3 ?_;refine aj ?_;have e1:=getD_map dS.pv es jz hpos;obtain⟨q1,q2,q3,q4,q5⟩:=hq _ (aG jz hpos);have kw:=hw _ (aG jz hpos);have r1:=Ot (l:=L) (i:=0) (by rw[hL];exact hpos)
 have r2:=hI 0 hpos;obtain⟨x,hx⟩: ∃x,x=es.getD 0 jz:=⟨_,rfl⟩;rw[<-hx]at e1 q1 q2 q3 q4 q5 kw r2;clear hx;obtain⟨gr,tg,ts⟩:=x;simp only at q1 q2 q3 q4 q5 kw;have hgl:gr.toNat<gs.length:=oO;have kg:=hg _ (aG iC hgl);have e3:=getD_map gV gs iC hgl;simp only[Lu]at r2;obtain⟨z,hz⟩: ∃z,z=gs.getD gr.toNat iC:=⟨_,rfl⟩;rw[<-hz]at q5 kg e3 r2;clear hz q3;obtain⟨m,o⟩:=z;simp only at q5 kg r2;have hcl:=fun nm=>Eh 1001 nm gr tg (ts:=ts) (w:=w) oO kw
 have xe:=SZ kg.2.1 kg.2.2 kg.1 (ts:=ts) (w:=w) oO (fun t ht=>(q5 t ht).2.2.1) kw
 have xe:aF 42 [G m o, .sl (ts.map fun t=> .s t.base), .sl (ts.map fun t=>Zp (tz w t))] (.tup [.s (L.getD 0 []),E 0]):=by rw[r2];exact xe
 clear r2 kw kg q5;simp only[gV]at e3;simp only[dS.pv]at e1 hcl;repeat' first|simp only[go_sem,seval,l1,l3,e1,e3,aX]|(refine aW (hcl _) (by simp[hget]) ?_)|refine cP xe ?_|refine oE ?_|apply xX<;>intro hc
 have hM:dq PV.s 1:=dq.s;refine aq (α:=Nat) (fun j=>es.length-(j+1)) (fun j=>⟨[(2, .p 1000 0 0),(6, .fn (.func 328) [] [.p 1001 0 0]),(7, .rs 1047 j 0 (j+1) 1),(16, .v (.sl (es.map dS.pv))),(17,E' es.length),(18,E' (j+1))],[(1000,⟨0,[.v (.sl (gs.map gV)), .v (.sl (vs.map dE)), .v (.sl (es.map dS.pv))],false,none⟩),(1001,⟨0,[.v (.sl (w.map Zp))],false,none⟩),(1047,⟨j,bI PV.s (L.take (j+1)),true,some 22⟩)],1051⟩) (fun j=>j+1<=es.length) 0 (fun _=>fk rfl) hpos ?_ ?_
 ·rw[fG,r1,List.take_zero,show bI PV.s ([]:List Bytes)=[]from rfl]
  exact lE
 ·clear e1 e3 q1 q2 q4 xe hcl r1;intro i hi R hR;have hj1:(L.take (i+1)).length=i+1:=by rw[da];omega
  have p1:=dw hM (L.take (i+1));have p2:=eD hM (L.take (i+1));rw[hj1,eH]at p1 p2
  by_cases hlt:i+1<es.length
  ·have hgo:=hR (i+1) oO oO;clear hR;have e1:=getD_map dS.pv es jz hlt;obtain⟨q1,q2,q3,q4,q5⟩:=hq _ (aG jz hlt);have kw:=hw _ (aG jz hlt);have r1:=Ot (l:=L) (i:=(i+1)) (by rw[hL];exact hlt)
   have r2:=hI (i+1) hlt;obtain⟨x,hx⟩: ∃x,x=es.getD (i+1) jz:=⟨_,rfl⟩;rw[<-hx]at e1 q1 q2 q3 q4 q5 kw r2;clear hx;obtain⟨gr,tg,ts⟩:=x;simp only at q1 q2 q3 q4 q5 kw;have hgl:gr.toNat<gs.length:=oO;have kg:=hg _ (aG iC hgl);have e3:=getD_map gV gs iC hgl;simp only[Lu]at r2;obtain⟨z,hz⟩: ∃z,z=gs.getD gr.toNat iC:=⟨_,rfl⟩;rw[<-hz]at q5 kg e3 r2;clear hz q3;obtain⟨m,o⟩:=z;simp only at q5 kg r2;have hcl:=fun nm=>Eh 1001 nm gr tg (ts:=ts) (w:=w) oO kw
   have xe:=SZ kg.2.1 kg.2.2 kg.1 (ts:=ts) (w:=w) oO (fun t ht=>(q5 t ht).2.2.1) kw
   have xe:aF 42 [G m o, .sl (ts.map fun t=> .s t.base), .sl (ts.map fun t=>Zp (tz w t))] (.tup [.s (L.getD (i+1) []),E 0]):=by rw[r2];exact xe
   clear r2 kw kg q5;simp only[gV]at e3;simp only[dS.pv]at e1 hcl;rw[r1]at hgo;repeat' first|simp only[go_sem,seval,l1,l3,e1,e3,aX,p1,p2]|(refine aW (hcl _) (by simp[hget]) ?_)|refine cP xe ?_|refine oE ?_|apply xX<;>intro hc
   refine hgo _ ?_
   (refine AS.Le.of (by first|decide|omega) ?_ ?_<;>simp[dG,dF,aO,hget,AV.bd,AV.bd.bdL,u8,ar,au,az])
   all_goals (intro c hc;rcases hc with h|h<;>first|exact cf h|(subst h;rfl))
  ·obtain hjv:i+1=es.length:=oO;rw[hjv]at p1 p2;have hLt:L.take es.length=L:=dc oO;rw[hLt]at p1 p2;rw[hjv,hLt];have p3:=gH hM L;have p4:=eC hM L;rw[hL]at p4;repeat' first|simp only[go_sem,seval,l3,p1,p2,p3,p4,gI]|refine oE ?_|apply xX<;>intro hc
   all_goals exact congrArg (fun l=>PV.tup [PV.sl l,E 0]) p4
theorem QZ (x:Bool×Bytes):aF 326 [fw x] (.b (!dh x)):=by
 obtain⟨n,a⟩:=x;have hv:=ib n a;rw[show(aa a&& !(n&&a==[]))=dh (n,a)from rfl]at hv
 generalize dh (n,a)=b at*;simp only[fw];refine eW call326 func326 ?_;exact z1 @hv
