/- Part of the proof. -/
import Derived.Test.YtkmahpcpmgedkaaGreatDoorFB29
set_option linter.all false
set_option maxHeartbeats 16000000
set_option maxRecDepth 100000
namespace Go.Proofs.Tryz
open Go Go.Dom Go.Num
variable {es:List (Bool×Bytes)} {i x:Nat} {xs:List Nat}
def aE (l:List Nat):List AV:=l.map fun x=> .v (N x)
theorem bw (l:List Nat):(aE l).length=l.length:=by simp[aE]
theorem fX (n:Nat):(List.replicate n [AV.v (.s [])]).flatten=aE (List.replicate n 0):=by
 unfold aE
 induction n with
 |zero=>rfl
 |succ n ih=>rw[List.replicate_succ,List.flatten_cons,ih];rfl
theorem fW {l:List Nat} (h:i<l.length):(aE l).getD i .u= .v (N (l.getD i 0)):=by
 simp[aE,bu,h]
theorem G0 {l:List Nat} {o:Nat}:(aE l).set o (.v (N x))=aE (l.set o x):=by
 simp[aE,uB]
theorem ec {l:List Nat} {o:Nat} (h:o<l.length):(aE l).take o++[.v (N x)]++(aE l).drop (o+1)=aE (l.set o x):=by
 rw[<-G0,ya,ah (by rw[bw];exact h)];simp
theorem dZ {l:List Nat} {c:AV} {n:Nat} (h:c∈aE l):c.bd n=true:=by
 obtain⟨x,-,rfl⟩:=bG.1 h;rfl
def dr (x:Nat):PV:=N x
theorem o6 (xs:List Nat) (h:i<xs.length):(xs.map dr).getD i .fn0=N (xs.getD i 0):=getD_map dr xs 0 h
theorem Q8 {m:Bytes} (lm:m.length<=8) {o:Bytes} (lo:o.length<=8) (hE:gE m o=0) (hx: ∀x∈xs,GP m o x) (he: ∀e∈es,cJ e=true) (n1:xs.length<1000000) (n2:es.length<1000000):aD 103 [G m o, .sl (xs.map dr), .sl (es.map dI), .b true] (E 0):=by
 have l1:(xs.map dr).length=xs.length:=aB ..;have l2:(es.map dI).length=es.length:=aB ..;have c3:=kL lm lo;rw[hE]at c3;have hn:=eP lm;refine eW call103 func103 ?_;refine cU @l1 ?_;refine af (α:=Nat) (fun i=>xs.length-i) (fun i=>⟨[(1, .v (.sl (xs.map dr))),(2, .v (.sl (es.map dI))),(3, .v (.b true)),(4, .p 1000 0 0),(16, .v (.sl (xs.map dr))),(17,E' xs.length),(18,E' i)],[(1000,⟨0,[.v (.s m), .v (.s o)],false,none⟩)],_⟩) (fun i=>i<=xs.length) 0 (fun _=>ay _) (aJ _) ?_ ?_
 ·exact lE
 ·intro i hi R hR
  by_cases hlt:i<xs.length
  ·have e1:=o6 xs hlt;have k:=hx _ (aq 0 hlt);have hgo:=hR (i+1) oO oO;have c1:=aS (aX (xs.getD i 0));rw[vN (show xs.getD i 0<(2^64) by have:=k.lt;omega)]at c1
   clear hR k;generalize xs.getD i 0=x at*;exact gV (aN @l1 @e1) @hgo @c1
  ·obtain rfl:i=xs.length:=oO;clear hR;refine cU (aN @l1 @l2) ?_;refine af (α:=Nat) (fun i=>es.length-i) (fun i=>⟨[(1, .v (.sl (xs.map dr))),(3, .v (.b true)),(4, .p 1000 0 0),(26, .v (.sl (es.map dI))),(27,E' es.length),(28,E' i)],[(1000,⟨0,[.v (.s m), .v (.s o)],false,none⟩)],_⟩) (fun i=>i<=es.length) 0 (fun _=>ay _) (aJ _) ?_ ?_
   ·exact lE
   ·intro i hi R hR
    by_cases hlt:i<es.length
    ·have e1:=getD_map dI es kJ hlt;have k:=he _ (aq kJ hlt);have hgo:=hR (i+1) oO oO;obtain⟨x,hxx⟩: ∃x,x=es.getD i kJ:=⟨_,rfl⟩;rw[<-hxx]at e1 k;clear hR hxx;obtain⟨n,a⟩:=x;have c2:=hO n a;rw[show(aa a&& !(n&&a==[]))=true from k]at c2
     simp only[dI]at e1;exact gV (aN @l2 @e1) @hgo @c2
    ·obtain rfl:i=es.length:=oO;clear hR;refine nc (aN @l1 @l2) @c3 ?_;refine af (α:=Nat) (fun i=>xs.length-i) (fun i=>⟨[(4, .p 1000 0 0),(43, .v (.sl (xs.map dr))),(44,E' xs.length),(45,E' i)],[(1000,⟨0,[.v (.s m), .v (.s o)],false,none⟩)],_⟩) (fun i=>i<=xs.length) 0 (fun _=>ay _) (aJ _) ?_ ?_
     ·exact lE
     ·intro i hi R hR
      by_cases hlt:i<xs.length
      ·have e1:=o6 xs hlt;have k:=hx _ (aq 0 hlt);have hgo:=hR (i+1) oO oO;have c4:=tj lm o (aX (xs.getD i 0));rw[k.has hE lm]at c4;clear hR k;generalize xs.getD i 0=x at*;exact gV (aN @l1 @e1) @hgo @c4
      ·obtain rfl:i=xs.length:=oO;exact gn @l1
theorem UI {e:Bytes} (he:aa e=true):cE (num e)<1000000:=by
 have h1:num e<2^1024:=by
  refine bH (cL e) ?_;have le:e.length<=128:=by simp[aa]at he;exact he.1
  exact fZ (dF oC le) (by decide+kernel)
 unfold cE;split
 ·decide
 ·rename_i h;have:=(yF h).2 h1;omega
theorem Pw (M:Nat) (hl:es.length=xs.length):((xs.zip es).map fun p=>(S8 M p.1 p.2,num p.2.2)).length=xs.length/\ ∀i,i<xs.length->((xs.zip es).map fun p=>(S8 M p.1 p.2,num p.2.2)).getD i (0,0)=(S8 M (xs.getD i 0) (es.getD i kJ),num (es.getD i kJ).2):=by
 constructor
 ·simp;omega
 ·intro i hi;have h2:i<es.length:=oO;have e:(xs.zip es)[i]?=some (xs[i],es[i]):=Ee.2 ⟨bC hi,bC h2⟩;rw[bu,dG,e,bu,bC hi,bu,bC h2];rfl
theorem Mf (n:Nat):n<2^cE n:=by
 unfold cE;split
 ·rename_i h;subst h;decide
 ·exact uQ
theorem CX {m:Bytes} (lm:m.length<=8) {o:Bytes} (lo:o.length<=8) (hE:gE m o=0) (hx: ∀x∈xs,GP m o x) (he: ∀e∈es,cJ e=true) (hl:es.length=xs.length) (n1:xs.length<1000000):aD 50 [G m o, .sl (xs.map dr), .sl (es.map dI)] (.tup [N (B5 (num m) (xs.zip es)),E 0]):=by
 have l1:(xs.map dr).length=xs.length:=aB ..;have l2:(es.map dI).length=xs.length:=by rw[aB];exact hl
 have hch:=Q8 lm lo hE hx he n1 oO;obtain⟨vm,vo,m1,-,-⟩:=jm hE;have hn:=eP lm;obtain⟨zl,zg⟩:=Pw (num m) hl;unfold B5;generalize hpr:((xs.zip es).map fun p=>(S8 (num m) p.1 p.2,num p.2.2))=pr at*
 clear hpr;obtain⟨M,hM⟩: ∃M,M=num m:=⟨_,rfl⟩;have eG:G m o= .agg [N M, .s o]:=by rw[hM,show N (num m)= .s m from congrArg PV.s (gN vm)]
 rw[eG]at hch⊢;have hxM: ∀i,i<xs.length->xs.getD i 0<M/\Nat.gcd (xs.getD i 0) M=1/\(pr.getD i (0,0)).1<M:=fun i hi=>by
  have k:=hx _ (aq 0 hi);refine⟨by rw[hM];exact k.lt,by rw[hM];exact k.Tb,?_⟩
  rw[zg i hi,hM];unfold S8;split
  ·exact k.unit.inv.1
  ·exact k.lt
 rw[<-hM]at hn m1 zg⊢;clear hx hM eG lm lo hE vm vo;have hM1:1%M=1:=bY oO;have hN:(aE (List.replicate xs.length 0)).length=xs.length:=by simp[aE]
 refine eW call50 func50 ?_;repeat' first|simp only[go_sem,seval,l1,l2,fX,hN,fb,dO]|refine cP hch ?_|refine oE ?_|apply xX<;>intro hc
 refine af (α:=Nat×List Nat×Nat) (fun s=>xs.length-s.1) (fun s=>⟨[(1, .v (.sl (xs.map dr))),(2, .v (.sl (es.map dI))),(3, .p 1000 0 0),(9, .rs 1017 0 0 xs.length 1),(10,E' s.2.2),(35, .v (.sl (xs.map dr))),(36,E' xs.length),(37,E' s.1)],[(1000,⟨0,[.v (N M), .v (.s o)],false,none⟩),(1017,⟨0,aE s.2.1,false,none⟩)],_⟩) (fun s=>s.1<=xs.length/\s.2.1.length=xs.length/\s.2.2<1000000/\ ∀j,j<s.1->s.2.1.getD j 0=(pr.getD j (0,0)).1/\(pr.getD j (0,0)).2<2^s.2.2) (0,List.replicate xs.length 0,0) (fun _=>ay _) ⟨aJ _,by simp,(by decide:0<1000000),fun j hj=>aW hj (pB _)⟩ ?_ ?_
 ·refine lG ?_;exact fun c hc=>dZ hc
 ·rintro⟨i,l,k⟩ ⟨hi,hll,hk,hj⟩ R hR;simp only at hi hll hk hj;have ll:(aE l).length=xs.length:=by rw[bw];exact hll
  by_cases hlt:i<xs.length
  ·have e1:=o6 xs hlt;have e2:=getD_map dI es kJ (i:=i) oO;have ke:=he _ (aq kJ (show i<es.length by omega))
   obtain⟨x1,x2,x3⟩:=hxM i hlt;have zi:=zg i hlt;obtain⟨x,hxx⟩: ∃x,x=xs.getD i 0:=⟨_,rfl⟩;obtain⟨e,hee⟩: ∃e,e=es.getD i kJ:=⟨_,rfl⟩;rw[<-hxx]at e1 x1 x2 zi;rw[<-hee]at e2 ke zi;clear hxx hee;obtain⟨n,a⟩:=e;simp only[cJ,aZ]at ke;have hbt:=xC ke.1;have hbe:=UI ke.1;have hmx: ∀ _:True,(if(cE (num a):Int)>(k:Int)then(cE (num a):Int)else(k:Int))=((max k (cE (num a)):Nat):Int):=fun _=>by split<;>omega
   have hinv:=rJ (a:=x) (m:=M) oO hn oO x2;have hgo:=fun y (hy:y=(pr.getD i (0,0)).1)=>hR (i+1,l.set i y,max k (cE (num a))) ⟨by show i+1<= _;omega,by simp[hll],by show max k _< _;omega,fun j hj2=>by
    by_cases hji:j=i
    ·subst hji;refine⟨by simp[bu,hll,hlt,hy],?_⟩
     rw[zi];exact bH (Mf _) (dF oC (Nat.le_max_right _ _))
    ·obtain⟨h1,h2⟩:=hj j (by simp only at hj2;omega)
     refine⟨?_,bH h2 (dF oC (Nat.le_max_left _ _))⟩;rw[<-h1];simp[bu,nS,nT hji]⟩ (by show xs.length-(i+1)<xs.length-i;omega)
   rw[zi]at hgo;simp only[dI]at e2;clear hR hj hch zg hxM he;have p1: ∀y,List.take i (aE l)++[AV.v (.s (aX y))]++List.drop (i+1) (aE l)=aE (l.set i y):=fun y=>ec oO
   have p2: ∀x y,List.take i (aE (l.set i x))++[AV.v (.s (aX y))]++List.drop (i+1) (aE (l.set i x))=aE (l.set i y):=fun x y=>by rw[ec (by rw[ft];omega),xZ]
   have p3: ∀y,(aE (l.set i y)).length=xs.length:=fun y=>by rw[bw,ft,hll]
   cases n
   ·have hgo:=hgo x (by simp[S8])
    refine kz (aN @l1 (aN @l2 (aN @ll (aN @e1 (aN @e2 (aN @p1 (aN @p3 (hmx oT)))))))) @hbt ?_;refine hgo _ ?_;refine lG ?_;exact fun c hc=>dZ hc
   ·have hgo:=hgo (fR x M) (by simp[S8])
    refine pV (aN @l1 (aN @l2 (aN @ll (aN @e1 (aN @e2 (aN @p1 (aN @p2 (aN @p3 (hmx oT))))))))) @hbt @hinv ?_;refine hgo _ ?_;refine lG ?_;exact fun c hc=>dZ hc
  ·obtain rfl:i=xs.length:=oO;have hlp:l=pr.map (·.1):=by
    refine qV (by simp[hll,zl]) fun j h1 h2=> ?_
    have:=(hj j oO).1;rw[bu,bC h1,bu,bC (by omega:j<pr.length)]at this
    simpa using this
   have htop:pp pr k=1:=VK fun p hp=>by
    obtain⟨j,hj2,rfl⟩:=ik hp;have:=(hj j oO).2;rw[bu,bC hj2]at this;exact this
   have h0:pp pr 0%M=pp pr 0%M:=rfl;have hw1: ∀ _:True,IntKind.i64.wrap ((k:Int)-1)=(k:Int)-1:=fun _=>IntWalk.i64_in _ oO
   clear hR hj;refine kz (aN (hw1 oT) @fb) @sQ ?_;rw[hlp]at ll;have hbit:=fun j (hj:j<xs.length)=>yH (a:=(es.getD j kJ).2) (by have:=he _ (aq kJ (show j<es.length by omega));simp only[cJ,aZ]at this;exact this.1)
   have hyg: ∀j,j<xs.length->(aE (pr.map (·.1))).getD j .u= .v (N (pr.getD j (0,0)).1):=fun j hj=>by
    rw[fW (by simpa[zl]using hj)]
    simp[bu,zl,hj]
   subst hlp;obtain⟨n,hn0⟩: ∃n,n=xs.length:=⟨_,rfl⟩;rw[<-hn0]at ll hyg hbit zg zl l1 l2 hi hll n1 hxM hl;clear hch hlt;refine af (α:=Nat) (fun k=>k) (fun k=>⟨[(2, .v (.sl (es.map dI))),(9, .rs 1017 0 0 n 1),(15, .p 1025 0 0),(16, .fn (.func 106) [] [.p 1025 0 0, .p 1000 0 0]),(17, .v (.i .i64 ((k:Int)-1)))],[(1025,⟨0,[.v (N (pp pr k%M))],false,some 22⟩),(1017,⟨0,aE (pr.map (·.1)),false,none⟩),(1000,⟨0,[.v (N M), .v (.s o)],false,none⟩)],_⟩) (fun j=>j<=k) k (fun _=>ay _) (ay _) ?_ ?_
   ·rw[hn0];refine lG ?_;exact⟨by rw[htop,hM1],fun c hc=>dZ hc⟩
   ·intro k' hk' R hR
    cases k' with
    |zero=>
     exact z0
    |succ k'=>
     have hgo:=hR k' oO oO;obtain⟨z,hz⟩: ∃z,z=pp pr (k'+1)%M:=⟨_,rfl⟩;have hzm:z<M:=by rw[hz];exact aL _ oO
     have e1: ∀ _:True,((k'+1:Nat):Int)-1=(k':Int):=fun _=>oO
     have hge: ∀ _:True,decide ((k':Int)>=0)=true:=fun _=>by simp
     have hwk: ∀ _:True,IntKind.i64.wrap ((k':Int)-1)=(k':Int)-1:=fun _=>IntWalk.i64_in _ oO
     have hstep:pp pr k'%M=(z*z%M)*(pb pr k')%M:=by
      rw[hz,<-dp,jz,RQ]
     rw[<-hz];have hx1:=fun nm=>mM 1025 1000 nm oC o (some 22) none (a:=z) (b:=z) (m:=M) oO oO oO oO
     clear hR;repeat' first|simp only[go_sem,seval,e1 oT,hge oT,fY,eK,qB,ll]|(refine cd (hx1 _) (by simp[az]) ?_)|refine oE ?_|apply xX<;>intro hc
     refine af (α:=Nat) (fun j=>n-j) (fun j=>⟨[(2, .v (.sl (es.map dI))),(9, .rs 1017 0 0 n 1),(15, .p 1025 0 0),(16, .fn (.func 106) [] [.p 1025 0 0, .p 1000 0 0]),(17, .v (.i .i64 (k':Int))),(85, .rs 1017 0 0 n 1),(86,E' n),(87,E' j)],[(1025,⟨0,[.v (N ((z*z%M)*pb (pr.take j) k'%M))],false,some 22⟩),(1017,⟨0,aE (pr.map (·.1)),false,none⟩),(1000,⟨0,[.v (N M), .v (.s o)],false,none⟩)],_⟩) (fun j=>j<=n) 0 (fun _=>ay _) (aJ _) ?_ ?_
     ·refine lG ?_;exact⟨by simp[pb],fun c hc=>dZ hc⟩
     ·intro j hj R' hR'
      by_cases hjn:j<n
      ·have hgo':=hR' (j+1) oO oO;have e2:=getD_map dI es kJ (i:=j) oO;have hb:=hbit j hjn k' oO;have hy:=hyg j hjn;obtain⟨-,-,hym⟩:=hxM j hjn;have zj:=zg j hjn;rw[aQ (0,0) oO,RN]at hgo';have hdec:(num (es.getD j kJ).2).testBit k'=decide ((pr.getD j (0,0)).2/2^k'%2=1):=by rw[zj];exact lA
       rw[hdec]at hb;clear zj hdec;generalize pr.getD j (0,0)=p at*;obtain⟨y,q⟩:=p;simp only at hym hb hy hgo';obtain⟨e,hee⟩: ∃e,e=es.getD j kJ:=⟨_,rfl⟩;rw[<-hee]at e2 hb;obtain⟨en,ea⟩:=e;simp only[dI]at e2;obtain⟨v,hv⟩: ∃v,v=z*z%M*pb (pr.take j) k'%M:=⟨_,rfl⟩;have hvm:v<M:=by rw[hv];exact aL _ oO
       rw[<-cF,dp,<-hv]at hgo';rw[<-hv];have hx2:=fun nm=>mM 1025 1000 nm oC o (some 22) none (a:=v) (b:=y) (m:=M) oO oO oO oO
       clear hR' hx1 hbit hyg hxM zg
       by_cases hq:q/2^k'%2=1
       ·rw[aI hq]at hb;rw[hq,Nat.pow_one,bY hym]at hgo';repeat' first|simp only[go_sem,seval,l2,ll,e2,hy]|refine cP hb ?_|(refine cd (hx2 _) (by simp[az]) ?_)|refine oE ?_|apply xX<;>intro hc
        refine hgo' _ ?_;refine lG ?_;exact fun c hc=>dZ hc
       ·rw[aH hq]at hb;rw[show q/2^k'%2=0 by omega,Nat.pow_zero,hM1,dN,bY hvm]at hgo'
        refine kz (aN @l2 (aN @ll (aN @e2 @hy))) @hb ?_;refine hgo' _ ?_;refine lG ?_;exact fun c hc=>dZ hc
      ·obtain rfl:j=n:=oO;rw[cb oO,<-hstep];refine dH (aN @ll (hwk oT)) ?_;refine hgo _ ?_;refine lG ?_;exact fun c hc=>dZ hc
def xb (x:Bool×Bytes):Int:=if x.1 then-(num x.2:Int)else num x.2
theorem pJ (x:Bool×Bytes):(xb x).natAbs=num x.2:=by unfold xb;split<;>omega
theorem qL {x:Bool×Bytes} (h:cJ x=true):gW (xb x)=x:=by
 obtain⟨n,a⟩:=x;simp only[cJ,aZ,fJ]at h;have hz:=tK h.1;have hb:aX (num a)=a:=gN h.1;cases n
 ·simp[gW,xb,zs,zb,hb]
 ·have:a≠[]:=by simpa using h.2
  have hp:num a≠0:=fun e=>this (hz.1 e)
  simp[gW,xb,zs,zb,hb];omega
theorem o8 {z:Int} (h:z.natAbs<cW):cJ (gW z)=true:=Wv h
theorem zRw:dY Zp 2:=⟨fun _=>rfl,fun x y hy=>by simp[Zp,dI,gW,PV.cells]at hy;rcases hy with rfl|rfl<;>rfl,fun h=>oO,fun _ x=>rfl⟩
def tz (w:List Int) (t:eF):Int:=xb (t.neg,t.abs)*w.getD t.var.toNat 0
def WB (ts:List eF) (w:List Int):Prop:= ∀t∈ts,0<=t.var/\t.var<w.length/\cJ (t.neg,t.abs)=true/\(w.getD t.var.toNat 0).natAbs<cW/\(xb (t.neg,t.abs)).natAbs*(w.getD t.var.toNat 0).natAbs<cW
theorem TE:dY (fun t:eF=>PV.s t.base) 1:=⟨fun _=>rfl,fun _ y hy=>by cases dt.1 hy;rfl,fun _ _=>rfl,fun h=>aW rfl h⟩
theorem TH (w:List Int):dY (fun t=>Zp (tz w t)) 2:=⟨fun x=>zRw.len _,fun x y hy=>zRw.one _ y hy,fun h=>oO,fun _ x=>rfl⟩
theorem ED (n nm:Nat) (g:Int) (tg:Bytes) {ts:List eF} {w:List Int} (hn:ts.length<1000000) (hw:WB ts w):mw prog 377 nm [(n,⟨0,[.v (.sl (w.map Zp))],false,none⟩)] [.v (da.pv ⟨g,tg,ts⟩), .p n 0 0] (.tup [.v (.sl (ts.map fun t=> .s t.base)), .v (.sl (ts.map fun t=>Zp (tz w t))), .v (E 0)]) []:=by
 have l4:(ts.map eF.pv).length=ts.length:=aB ..;have l5:(w.map Zp).length=w.length:=aB ..
 by_cases h0:ts=[]
 ·subst h0;simp only[da.pv,bK];refine mw.w mixed call377 func377 rfl (nf.1 _ _ _ (by cbv)) (nf.2 _ _ (by cbv)) (obs:=[⟨0,[.v (.sl (w.map Zp))],false,none⟩]) (args:=[.v (.agg [.i .i64 g, .s tg, .sl []]), .p 0 0 0]) (fs:=[none]) (j:=none) (nw:=none) (v:= .tup [.v (.sl []), .v (.sl []), .v (E 0)]) (ns:=[n]) (obsA:=[⟨0,[.v (.sl (w.map Zp))],false,none⟩]) rfl ?_ (by simp) (by simp) rfl (by simp[bz,aF.aY,AV.aY,AV.aY.renL]) (by simp[bz,AV.aY,dP]) (by simp[AV.aY,AV.aY.renL]) (by simp[gY,outs,aF.aY,AV.aY,AV.aY.renL])
  simp only[go_sem,seval];repeat' first|simp only[go_sem,seval,true_or,or_true,false_or,or_false,aj,kB,fK,jo,ic,ie,fM,rm,rZ,iG,jO,eV,aU,AV.aY,AV.aY.renL,aM]|(refine ai ?_)|refine oE ?_|apply xX<;>intro hc
  all_goals first|rfl|trivial|skip
 have hpos:0<ts.length:=kq.2 h0;simp only[da.pv];refine mw.w mixed call377 func377 rfl (nf.1 _ _ _ (by cbv)) (nf.2 _ _ (by cbv)) (obs:=[⟨0,[.v (.sl (w.map Zp))],false,none⟩]) (args:=[.v (.agg [.i .i64 g, .s tg, .sl (ts.map eF.pv)]), .p 0 0 0]) (fs:=[none]) (j:=none) (nw:=none) (v:= .tup [.v (.sl (ts.map fun t=> .s t.base)), .v (.sl (ts.map fun t=>Zp (tz w t))), .v (E 0)]) (ns:=[n]) (obsA:=[⟨0,[.v (.sl (w.map Zp))],false,none⟩]) rfl ?_ (by simp) (by simp) rfl (by simp[bz,aF.aY,AV.aY,AV.aY.renL]) (by simp[bz,AV.aY,dP]) (by simp[AV.aY,AV.aY.renL]) (by simp[gY,outs,aF.aY,AV.aY,AV.aY.renL])
 simp only[go_sem,seval];refine cU @l4 ?_;refine ai ?_;have e1:=getD_map eF.pv ts eR hpos;obtain⟨t1,t2,t3,t4,t5⟩:=hw _ (aq eR hpos);have r1:bj (fun t:eF=>PV.s t.base) (ts.take (0+1))=bj (fun t:eF=>PV.s t.base) (ts.take 0)++[.v (.s (ts.getD 0 eR).base)]:=by rw[aQ eR hpos,cf];rfl
 have r2:bj (fun t=>Zp (tz w t)) (ts.take (0+1))=bj (fun t=>Zp (tz w t)) (ts.take 0)++[.v (.b (zs (tz w (ts.getD 0 eR)))), .v (.s (zb (tz w (ts.getD 0 eR))))]:=by rw[aQ eR hpos,cf];rfl
 have htz:tz w (ts.getD 0 eR)=xb ((ts.getD 0 eR).neg,(ts.getD 0 eR).abs)*w.getD (ts.getD 0 eR).var.toNat 0:=rfl;obtain⟨y,hy⟩: ∃y,y=ts.getD 0 eR:=⟨_,rfl⟩;rw[<-hy]at e1 t1 t2 t3 t4 t5 r1 r2 htz;clear hy;obtain⟨b,v,n,a⟩:=y;simp only at t1 t2 t3 t4 t5 r1 htz;have hx:=Ni (x:=xb (n,a)) (y:=w.getD v.toNat 0) (by rw[pJ];simp only[cJ,aZ]at t3;exact mV t3.1) t4 t5
 have e2:=getD_map Zp w 0 (i:=v.toNat) oO;have ez:Z (xb (n,a))= .agg [.b n, .s a]:=congrArg dI (qL t3);rw[ez,<-htz]at hx;clear t3 t4 t5 ez htz;generalize tz w ⟨b,v,n,a⟩=z at*;generalize w.getD v.toNat 0=wv at*;simp only[eF.pv]at e1;simp only[Zp,dI,gW]at e2;refine kz (aN @l4 (aN @l5 (aN @e1 @e2))) @hx ?_;have hB:=TE;have hZ:=TH w;refine af (α:=Nat) (fun j=>ts.length-(j+1)) (fun j=>⟨[(1, .p 0 0 0),(6, .rs 1035 j 0 (j+1) 1),(7, .rs 1039 j 0 (j+1) 2),(13, .v (.sl (ts.map eF.pv))),(14,E' ts.length),(15,E' (j+1))],[(0,⟨0,[.v (.sl (w.map Zp))],false,none⟩),(1035,⟨j,bj (fun t:eF=>PV.s t.base) (ts.take (j+1)),true,some 22⟩),(1039,⟨j,bj (fun t=>Zp (tz w t)) (ts.take (j+1)),true,some 77⟩)],1044⟩) (fun j=>j+1<=ts.length) 0 (fun _=>bZ rfl) hpos ?_ ?_
 ·rw[dq,r1,r2,List.take_zero,show bj (fun t:eF=>PV.s t.base) []=[]from rfl,show bj (fun t=>Zp (tz w t)) []=[]from rfl]
  exact lE
 ·clear e1 e2 hx r1 r2 t1 t2;intro j hj R hR;have hj1:(ts.take (j+1)).length=j+1:=by rw[bV];omega
  have q1:=cz hB (ts.take (j+1));have q2:=cM hB (ts.take (j+1));have q5:=cz hZ (ts.take (j+1));have q6:=cM hZ (ts.take (j+1));rw[hj1]at q1 q2 q5 q6;rw[dN]at q1 q2
  by_cases hlt:j+1<ts.length
  ·have hgo:=hR (j+1) oO oO;clear hR;have e1:=getD_map eF.pv ts eR hlt;obtain⟨t1,t2,t3,t4,t5⟩:=hw _ (aq eR hlt);have r1:bj (fun t:eF=>PV.s t.base) (ts.take ((j+1)+1))=bj (fun t:eF=>PV.s t.base) (ts.take (j+1))++[.v (.s (ts.getD (j+1) eR).base)]:=by rw[aQ eR hlt,cf];rfl
   have r2:bj (fun t=>Zp (tz w t)) (ts.take ((j+1)+1))=bj (fun t=>Zp (tz w t)) (ts.take (j+1))++[.v (.b (zs (tz w (ts.getD (j+1) eR)))), .v (.s (zb (tz w (ts.getD (j+1) eR))))]:=by rw[aQ eR hlt,cf];rfl
   have htz:tz w (ts.getD (j+1) eR)=xb ((ts.getD (j+1) eR).neg,(ts.getD (j+1) eR).abs)*w.getD (ts.getD (j+1) eR).var.toNat 0:=rfl;obtain⟨y,hy⟩: ∃y,y=ts.getD (j+1) eR:=⟨_,rfl⟩;rw[<-hy]at e1 t1 t2 t3 t4 t5 r1 r2 htz;clear hy;obtain⟨b,v,n,a⟩:=y;simp only at t1 t2 t3 t4 t5 r1 htz;have hx:=Ni (x:=xb (n,a)) (y:=w.getD v.toNat 0) (by rw[pJ];simp only[cJ,aZ]at t3;exact mV t3.1) t4 t5
   have e2:=getD_map Zp w 0 (i:=v.toNat) oO;have ez:Z (xb (n,a))= .agg [.b n, .s a]:=congrArg dI (qL t3);rw[ez,<-htz]at hx;clear t3 t4 t5 ez htz;generalize tz w ⟨b,v,n,a⟩=z at*;generalize w.getD v.toNat 0=wv at*;simp only[eF.pv]at e1;simp only[Zp,dI,gW]at e2;rw[r1,r2]at hgo;refine kz (aN @l4 (aN @l5 (aN @e1 (aN @e2 (aN @q1 (aN @q2 (aN @q5 @q6))))))) @hx ?_;refine hgo _ ?_
   (refine AS.Le.of (by first|decide|omega) ?_ ?_<;>simp[dy,dx,aO,az,AV.bd,AV.bd.bdL,u8,ar,ax,aA])
   all_goals (refine⟨?_,?_⟩<;>(intro c hc;rcases hc with h|h<;>first|exact cR h|(rcases h with rfl|rfl<;>rfl)|(subst h;rfl)))
  ·obtain hjv:j+1=ts.length:=oO;rw[hjv,ct]at q1 q2 q5 q6;rw[hjv,ct];have q3:=ff hB ts;have q4:chunk 1 ts.length (ts.flatMap fun x=>[PV.s x.base])=ts.map fun t=> .s t.base:=dD hB ts
   have q7:=ff hZ ts;have q8:chunk 2 ts.length (ts.flatMap fun x=>(Zp (tz w x)).cells)=ts.map fun t=>Zp (tz w t):=dD hZ ts
   repeat' first|simp only[go_sem,seval,true_or,or_true,false_or,or_false,aj,kB,fK,jo,ic,ie,fM,rm,rZ,iG,jO,eV,aU,AV.aY,AV.aY.renL,aM,l4,q1,q2,q3,q4,q5,q6,q7,q8,fk]|refine oE ?_|apply xX<;>intro hc
   all_goals first|rfl|trivial|skip
noncomputable def PE (gs:List (Bytes×Bytes)) (w:List Int) (q:da):Nat:=B5 (num (gs.getD q.mT.toNat fC).1) (q.terms.map fun t=>(num t.base,gW (tz w t)))
noncomputable def pQ (s:cG) (w:List Int):List Bytes:=s.eqs.map fun q=>aX (PE s.groups w q)
theorem qK (s:cG) (w:List Int):(pQ s w).length=s.eqs.length:=aB ..
theorem Dp {l:List Bytes} (h:i<l.length):bj PV.s (l.take (i+1))=bj PV.s (l.take i)++[.v (.s (l.getD i []))]:=by
 rw[aQ [] h,cf];rfl
theorem Ts {m:Bytes} (lm:m.length<=8) {o:Bytes} (lo:o.length<=8) (hE:gE m o=0) {ts:List eF} {w:List Int} (hn:ts.length<1000000) (hg: ∀t∈ts,iV m o t.base=true) (hw:WB ts w):aD 50 [G m o, .sl (ts.map fun t=> .s t.base), .sl (ts.map fun t=>Zp (tz w t))] (.tup [N (B5 (num m) (ts.map fun t=>(num t.base,gW (tz w t)))),E 0]):=by
 have h:=CX lm lo hE (xs:=ts.map fun t=>num t.base) (es:=ts.map fun t=>gW (tz w t)) (fun x hx=>by
  obtain⟨t,ht,rfl⟩:=bG.1 hx;exact((cH hE).1 (hg t ht)).2) (fun e he=>by
  obtain⟨t,ht,rfl⟩:=bG.1 he;obtain⟨-,-,-,h4,h5⟩:=hw t ht;exact o8 (by rw[tz,jg];exact h5)) (by simp) (by simpa using hn)
 rw[List.zip_map',iB,iB]at h;rw[show(ts.map fun t=>PV.s t.base)=ts.map (dr∘fun t=>num t.base)from lD fun t ht=>(eE (kM hE (hg t ht))).symm]
 exact h
theorem IG {s:cG} (hs:xf s) {w:List Int} (hw: ∀q∈s.eqs,WB q.terms w):aD 253 [s.pv, .sl (w.map Zp)] (.tup [.sl ((pQ s w).map .s),E 0]):=by
 obtain⟨L,hLd⟩: ∃L,L=pQ s w:=⟨_,rfl⟩;have hI:=fun i (h:i<s.eqs.length)=>(show L.getD i []=aX (PE s.groups w (s.eqs.getD i gF)) by rw[hLd,pQ];simp[bu,h])
 have hL:L.length=s.eqs.length:=by rw[hLd,qK]
 rw[<-hLd];clear hLd;obtain⟨gs,vs,es⟩:=s;obtain⟨-,hg,hv,hq,ng,nv,ne,-⟩:=hs;simp only at hg hv hq ng nv ne hw hI hL;have l1:(gs.map eu).length=gs.length:=aB ..;have l3:(es.map da.pv).length=es.length:=aB ..;unfold cG.pv;simp only
 by_cases h0:es=[]
 ·subst h0;obtain rfl:L=[]:=gS.1 hL;simp only[bK];refine eW call253 func253 ?_;exact PG
 have hpos:0<es.length:=kq.2 h0;refine eW call253 func253 ?_;refine cU @l3 ?_;refine ai ?_;have e1:=getD_map da.pv es gF hpos;obtain⟨q1,q2,q3,q4,q5⟩:=hq _ (aq gF hpos);have kw:=hw _ (aq gF hpos);have r1:=Dp (l:=L) (i:=0) (by rw[hL];exact hpos)
 have r2:=hI 0 hpos;obtain⟨x,hx⟩: ∃x,x=es.getD 0 gF:=⟨_,rfl⟩;rw[<-hx]at e1 q1 q2 q3 q4 q5 kw r2;clear hx;obtain⟨gr,tg,ts⟩:=x;simp only at q1 q2 q3 q4 q5 kw;have hgl:gr.toNat<gs.length:=oO;have kg:=hg _ (aq fC hgl);have e3:=getD_map eu gs fC hgl;simp only[PE]at r2;obtain⟨z,hz⟩: ∃z,z=gs.getD gr.toNat fC:=⟨_,rfl⟩;rw[<-hz]at q5 kg e3 r2;clear hz q3;obtain⟨m,o⟩:=z;simp only at q5 kg r2;have hcl:=fun nm=>ED 1001 nm gr tg (ts:=ts) (w:=w) oO kw
 have xe:=Ts kg.2.1 kg.2.2 kg.1 (ts:=ts) (w:=w) oO (fun t ht=>(q5 t ht).2.2.1) kw
 have xe:aD 50 [G m o, .sl (ts.map fun t=> .s t.base), .sl (ts.map fun t=>Zp (tz w t))] (.tup [.s (L.getD 0 []),E 0]):=by rw[r2];exact xe
 clear r2 kw kg q5;simp only[eu]at e3;simp only[da.pv]at e1 hcl;repeat' first|simp only[go_sem,seval,l1,l3,e1,e3,aV]|(refine cd (hcl _) (by simp[az]) ?_)|refine cP xe ?_|refine oE ?_|apply xX<;>intro hc
 have hM:dY PV.s 1:=dY.s;refine af (α:=Nat) (fun j=>es.length-(j+1)) (fun j=>⟨[(2, .p 1000 0 0),(6, .fn (.func 377) [] [.p 1001 0 0]),(7, .rs 1047 j 0 (j+1) 1),(16, .v (.sl (es.map da.pv))),(17,E' es.length),(18,E' (j+1))],[(1000,⟨0,[.v (.sl (gs.map eu)), .v (.sl (vs.map cl)), .v (.sl (es.map da.pv))],false,none⟩),(1001,⟨0,[.v (.sl (w.map Zp))],false,none⟩),(1047,⟨j,bj PV.s (L.take (j+1)),true,some 22⟩)],1051⟩) (fun j=>j+1<=es.length) 0 (fun _=>bZ rfl) hpos ?_ ?_
 ·rw[dq,r1,List.take_zero,show bj PV.s ([]:List Bytes)=[]from rfl]
  exact lE
 ·clear e1 e3 q1 q2 q4 xe hcl r1;intro i hi R hR;have hj1:(L.take (i+1)).length=i+1:=by rw[bV];omega
  have p1:=cz hM (L.take (i+1));have p2:=cM hM (L.take (i+1));rw[hj1,dN]at p1 p2
  by_cases hlt:i+1<es.length
  ·have hgo:=hR (i+1) oO oO;clear hR;have e1:=getD_map da.pv es gF hlt;obtain⟨q1,q2,q3,q4,q5⟩:=hq _ (aq gF hlt);have kw:=hw _ (aq gF hlt);have r1:=Dp (l:=L) (i:=(i+1)) (by rw[hL];exact hlt)
   have r2:=hI (i+1) hlt;obtain⟨x,hx⟩: ∃x,x=es.getD (i+1) gF:=⟨_,rfl⟩;rw[<-hx]at e1 q1 q2 q3 q4 q5 kw r2;clear hx;obtain⟨gr,tg,ts⟩:=x;simp only at q1 q2 q3 q4 q5 kw;have hgl:gr.toNat<gs.length:=oO;have kg:=hg _ (aq fC hgl);have e3:=getD_map eu gs fC hgl;simp only[PE]at r2;obtain⟨z,hz⟩: ∃z,z=gs.getD gr.toNat fC:=⟨_,rfl⟩;rw[<-hz]at q5 kg e3 r2;clear hz q3;obtain⟨m,o⟩:=z;simp only at q5 kg r2;have hcl:=fun nm=>ED 1001 nm gr tg (ts:=ts) (w:=w) oO kw
   have xe:=Ts kg.2.1 kg.2.2 kg.1 (ts:=ts) (w:=w) oO (fun t ht=>(q5 t ht).2.2.1) kw
   have xe:aD 50 [G m o, .sl (ts.map fun t=> .s t.base), .sl (ts.map fun t=>Zp (tz w t))] (.tup [.s (L.getD (i+1) []),E 0]):=by rw[r2];exact xe
   clear r2 kw kg q5;simp only[eu]at e3;simp only[da.pv]at e1 hcl;rw[r1]at hgo;repeat' first|simp only[go_sem,seval,l1,l3,e1,e3,aV,p1,p2]|(refine cd (hcl _) (by simp[az]) ?_)|refine cP xe ?_|refine oE ?_|apply xX<;>intro hc
   refine hgo _ ?_
   (refine AS.Le.of (by first|decide|omega) ?_ ?_<;>simp[dy,dx,aO,az,AV.bd,AV.bd.bdL,u8,ar,ax,aA])
   all_goals (intro c hc;rcases hc with h|h<;>first|exact cR h|(subst h;rfl))
  ·obtain hjv:i+1=es.length:=oO;rw[hjv]at p1 p2;have hLt:L.take es.length=L:=cb oO;rw[hLt]at p1 p2;rw[hjv,hLt];have p3:=ff hM L;have p4:=dD hM L;rw[hL]at p4;repeat' first|simp only[go_sem,seval,l3,p1,p2,p3,p4,fk]|refine oE ?_|apply xX<;>intro hc
   all_goals exact congrArg (fun l=>PV.tup [PV.sl l,E 0]) p4
theorem Rs (x:Bool×Bytes):aD 375 [dI x] (.b (!cJ x)):=by
 obtain⟨n,a⟩:=x;have hv:=hO n a;rw[show(aa a&& !(n&&a==[]))=cJ (n,a)from rfl]at hv
 generalize cJ (n,a)=b at*;simp only[dI];refine eW call375 func375 ?_;exact z1 @hv
