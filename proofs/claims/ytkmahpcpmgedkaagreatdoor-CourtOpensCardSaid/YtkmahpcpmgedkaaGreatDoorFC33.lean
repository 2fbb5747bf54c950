/- Part of the proof. -/
import Derived.Test.YtkmahpcpmgedkaaGreatDoorFC32
set_option linter.all false
set_option maxHeartbeats 16000000
set_option maxRecDepth 100000
namespace Go.Proofs.Tryz
open Go Go.Dom Go.Num
variable {es:List (Bool×Bytes)} {i x:Nat} {xs:List Nat}
def aD (l:List Nat):List AV:=l.map fun x=> .v (N x)
theorem bA (l:List Nat):(aD l).length=l.length:=by simp[aD]
theorem fX (n:Nat):(List.replicate n [AV.v (.s [])]).flatten=aD (List.replicate n 0):=by
 unfold aD
 induction n with
 |zero=>rfl
 |succ n ih=>rw[List.replicate_succ,List.flatten_cons,ih];rfl
theorem fW {l:List Nat} (h:i<l.length):(aD l).getD i .u= .v (N (l.getD i 0)):=by
 simp[aD,br,h]
theorem GO {l:List Nat} {o:Nat}:(aD l).set o (.v (N x))=aD (l.set o x):=by
 simp[aD,uh]
theorem dU {l:List Nat} {o:Nat} (h:o<l.length):(aD l).take o++[.v (N x)]++(aD l).drop (o+1)=aD (l.set o x):=by
 rw[<-GO,ya,ah (by rw[bA];exact h)];simp
theorem dS {l:List Nat} {c:AV} {n:Nat} (h:c∈aD l):c.bd n=true:=by
 obtain⟨x,-,rfl⟩:=bm.1 h;rfl
def cZ (x:Nat):PV:=N x
theorem pf (xs:List Nat) (h:i<xs.length):(xs.map cZ).getD i .fn0=N (xs.getD i 0):=getD_map cZ xs 0 h
theorem QX {m:Bytes} (lm:m.length<=8) {o:Bytes} (lo:o.length<=8) (hE:gE m o=0) (hx: ∀x∈xs,GP m o x) (he: ∀e∈es,cz e=true) (n1:xs.length<1000000) (n2:es.length<1000000):aE 103 [G m o, .sl (xs.map cZ), .sl (es.map cT), .b true] (E 0):=by
 have l1:(xs.map cZ).length=xs.length:=aC ..;have l2:(es.map cT).length=es.length:=aC ..;have c3:=kL lm lo;rw[hE]at c3;have hn:=eR lm;refine eW call103 func103 ?_;refine dH @l1 ?_;refine af (α:=Nat) (fun i=>xs.length-i) (fun i=>⟨[(1, .v (.sl (xs.map cZ))),(2, .v (.sl (es.map cT))),(3, .v (.b true)),(4, .p 1000 0 0),(16, .v (.sl (xs.map cZ))),(17,E' xs.length),(18,E' i)],[(1000,⟨0,[.v (.s m), .v (.s o)],false,none⟩)],_⟩) (fun i=>i<=xs.length) 0 (fun _=>aA _) (aI _) ?_ ?_
 ·exact lE
 ·intro i hi R hR
  by_cases hlt:i<xs.length
  ·have e1:=pf xs hlt;have k:=hx _ (an 0 hlt);have hgo:=hR (i+1) oO oO;have c1:=aT (aY (xs.getD i 0));rw[vN (show xs.getD i 0<(2^64) by have:=k.lt;omega)]at c1
   clear hR k;generalize xs.getD i 0=x at*;exact gV (aN @l1 @e1) @hgo @c1
  ·obtain rfl:i=xs.length:=oO;clear hR;refine dH (aN @l1 @l2) ?_;refine af (α:=Nat) (fun i=>es.length-i) (fun i=>⟨[(1, .v (.sl (xs.map cZ))),(3, .v (.b true)),(4, .p 1000 0 0),(26, .v (.sl (es.map cT))),(27,E' es.length),(28,E' i)],[(1000,⟨0,[.v (.s m), .v (.s o)],false,none⟩)],_⟩) (fun i=>i<=es.length) 0 (fun _=>aA _) (aI _) ?_ ?_
   ·exact lE
   ·intro i hi R hR
    by_cases hlt:i<es.length
    ·have e1:=getD_map cT es fU hlt;have k:=he _ (an fU hlt);have hgo:=hR (i+1) oO oO;obtain⟨x,hxx⟩: ∃x,x=es.getD i fU:=⟨_,rfl⟩;rw[<-hxx]at e1 k;clear hR hxx;obtain⟨n,a⟩:=x;have c2:=hO n a;rw[show(aa a&& !(n&&a==[]))=true from k]at c2
     simp only[cT]at e1;exact gV (aN @l2 @e1) @hgo @c2
    ·obtain rfl:i=es.length:=oO;clear hR;refine oZ (aN @l1 @l2) @c3 ?_;refine af (α:=Nat) (fun i=>xs.length-i) (fun i=>⟨[(4, .p 1000 0 0),(43, .v (.sl (xs.map cZ))),(44,E' xs.length),(45,E' i)],[(1000,⟨0,[.v (.s m), .v (.s o)],false,none⟩)],_⟩) (fun i=>i<=xs.length) 0 (fun _=>aA _) (aI _) ?_ ?_
     ·exact lE
     ·intro i hi R hR
      by_cases hlt:i<xs.length
      ·have e1:=pf xs hlt;have k:=hx _ (an 0 hlt);have hgo:=hR (i+1) oO oO;have c4:=th lm o (aY (xs.getD i 0));rw[k.has hE lm]at c4;clear hR k;generalize xs.getD i 0=x at*;exact gV (aN @l1 @e1) @hgo @c4
      ·obtain rfl:i=xs.length:=oO;exact gi @l1
theorem Uw {e:Bytes} (he:aa e=true):c9 (num e)<1000000:=by
 have h1:num e<2^1024:=by
  refine bE (cC e) ?_;have le:e.length<=128:=by simp[aa]at he;exact he.1
  exact fZ (dc oC le) (by decide+kernel)
 unfold c9;split
 ·decide
 ·rename_i h;have:=(xU h).2 h1;omega
theorem Pk (M:Nat) (hl:es.length=xs.length):((xs.zip es).map fun p=>(SN M p.1 p.2,num p.2.2)).length=xs.length/\ ∀i,i<xs.length->((xs.zip es).map fun p=>(SN M p.1 p.2,num p.2.2)).getD i (0,0)=(SN M (xs.getD i 0) (es.getD i fU),num (es.getD i fU).2):=by
 constructor
 ·simp;omega
 ·intro i hi;have h2:i<es.length:=oO;have e:(xs.zip es)[i]?=some (xs[i],es[i]):=Dw.2 ⟨bw hi,bw h2⟩;rw[br,dG,e,br,bw hi,br,bw h2];rfl
theorem L6 (n:Nat):n<2^c9 n:=by
 unfold c9;split
 ·rename_i h;subst h;decide
 ·exact ui
theorem xd {m:Bytes} (lm:m.length<=8) {o:Bytes} (lo:o.length<=8) (hE:gE m o=0) (hx: ∀x∈xs,GP m o x) (he: ∀e∈es,cz e=true) (hl:es.length=xs.length) (n1:xs.length<1000000):aE 50 [G m o, .sl (xs.map cZ), .sl (es.map cT)] (.tup [N (wO (num m) (xs.zip es)),E 0]):=by
 have l1:(xs.map cZ).length=xs.length:=aC ..;have l2:(es.map cT).length=xs.length:=by rw[aC];exact hl
 have hch:=QX lm lo hE hx he n1 oO;obtain⟨vm,vo,m1,-,-⟩:=jf hE;have hn:=eR lm;obtain⟨zl,zg⟩:=Pk (num m) hl;unfold wO;generalize hpr:((xs.zip es).map fun p=>(SN (num m) p.1 p.2,num p.2.2))=pr at*
 clear hpr;obtain⟨M,hM⟩: ∃M,M=num m:=⟨_,rfl⟩;have eG:G m o= .agg [N M, .s o]:=by rw[hM,show N (num m)= .s m from congrArg PV.s (iu vm)]
 rw[eG]at hch⊢;have hxM: ∀i,i<xs.length->xs.getD i 0<M/\Nat.gcd (xs.getD i 0) M=1/\(pr.getD i (0,0)).1<M:=fun i hi=>by
  have k:=hx _ (an 0 hi);refine⟨by rw[hM];exact k.lt,by rw[hM];exact k.SQ,?_⟩
  rw[zg i hi,hM];unfold SN;split
  ·exact k.unit.inv.1
  ·exact k.lt
 rw[<-hM]at hn m1 zg⊢;clear hx hM eG lm lo hE vm vo;have hM1:1%M=1:=b9 oO;have hN:(aD (List.replicate xs.length 0)).length=xs.length:=by simp[aD]
 refine eW call50 func50 ?_;repeat' first|simp only[go_sem,seval,l1,l2,fX,hN,e9,iq]|refine cP hch ?_|refine oE ?_|apply xX<;>intro hc
 refine af (α:=Nat×List Nat×Nat) (fun s=>xs.length-s.1) (fun s=>⟨[(1, .v (.sl (xs.map cZ))),(2, .v (.sl (es.map cT))),(3, .p 1000 0 0),(9, .rs 1017 0 0 xs.length 1),(10,E' s.2.2),(35, .v (.sl (xs.map cZ))),(36,E' xs.length),(37,E' s.1)],[(1000,⟨0,[.v (N M), .v (.s o)],false,none⟩),(1017,⟨0,aD s.2.1,false,none⟩)],_⟩) (fun s=>s.1<=xs.length/\s.2.1.length=xs.length/\s.2.2<1000000/\ ∀j,j<s.1->s.2.1.getD j 0=(pr.getD j (0,0)).1/\(pr.getD j (0,0)).2<2^s.2.2) (0,List.replicate xs.length 0,0) (fun _=>aA _) ⟨aI _,by simp,(by decide:0<1000000),fun j hj=>aM hj (pE _)⟩ ?_ ?_
 ·refine lG ?_;exact fun c hc=>dS hc
 ·rintro⟨i,l,k⟩ ⟨hi,hll,hk,hj⟩ R hR;simp only at hi hll hk hj;have ll:(aD l).length=xs.length:=by rw[bA];exact hll
  by_cases hlt:i<xs.length
  ·have e1:=pf xs hlt;have e2:=getD_map cT es fU (i:=i) oO;have ke:=he _ (an fU (show i<es.length by omega))
   obtain⟨x1,x2,x3⟩:=hxM i hlt;have zi:=zg i hlt;obtain⟨x,hxx⟩: ∃x,x=xs.getD i 0:=⟨_,rfl⟩;obtain⟨e,hee⟩: ∃e,e=es.getD i fU:=⟨_,rfl⟩;rw[<-hxx]at e1 x1 x2 zi;rw[<-hee]at e2 ke zi;clear hxx hee;obtain⟨n,a⟩:=e;simp only[cz,ba]at ke;have hbt:=wW ke.1;have hbe:=Uw ke.1;have hmx: ∀ _:True,(if(c9 (num a):Int)>(k:Int)then(c9 (num a):Int)else(k:Int))=((max k (c9 (num a)):Nat):Int):=fun _=>by split<;>omega
   have hinv:=rJ (a:=x) (m:=M) oO hn oO x2;have hgo:=fun y (hy:y=(pr.getD i (0,0)).1)=>hR (i+1,l.set i y,max k (c9 (num a))) ⟨by show i+1<= _;omega,by simp[hll],by show max k _< _;omega,fun j hj2=>by
    by_cases hji:j=i
    ·subst hji;refine⟨by simp[br,hll,hlt,hy],?_⟩
     rw[zi];exact bE (L6 _) (dc oC (Nat.le_max_right _ _))
    ·obtain⟨h1,h2⟩:=hj j (by simp only at hj2;omega)
     refine⟨?_,bE h2 (dc oC (Nat.le_max_left _ _))⟩;rw[<-h1];simp[br,nX,nZ hji]⟩ (by show xs.length-(i+1)<xs.length-i;omega)
   rw[zi]at hgo;simp only[cT]at e2;clear hR hj hch zg hxM he;have p1: ∀y,List.take i (aD l)++[AV.v (.s (aY y))]++List.drop (i+1) (aD l)=aD (l.set i y):=fun y=>dU oO
   have p2: ∀x y,List.take i (aD (l.set i x))++[AV.v (.s (aY y))]++List.drop (i+1) (aD (l.set i x))=aD (l.set i y):=fun x y=>by rw[dU (by rw[fA];omega),List.set_set]
   have p3: ∀y,(aD (l.set i y)).length=xs.length:=fun y=>by rw[bA,fA,hll]
   cases n
   ·have hgo:=hgo x (by simp[SN])
    refine jm (aN @l1 (aN @l2 (aN @ll (aN @e1 (aN @e2 (aN @p1 (aN @p3 (hmx oT)))))))) @hbt ?_;refine hgo _ ?_;refine lG ?_;exact fun c hc=>dS hc
   ·have hgo:=hgo (fR x M) (by simp[SN])
    refine qC (aN @l1 (aN @l2 (aN @ll (aN @e1 (aN @e2 (aN @p1 (aN @p2 (aN @p3 (hmx oT))))))))) @hbt @hinv ?_;refine hgo _ ?_;refine lG ?_;exact fun c hc=>dS hc
  ·obtain rfl:i=xs.length:=oO;have hlp:l=pr.map (·.1):=by
    refine um (by simp[hll,zl]) fun j h1 h2=> ?_
    have:=(hj j oO).1;rw[br,bw h1,br,bw (by omega:j<pr.length)]at this
    simpa using this
   have htop:pp pr k=1:=VA fun p hp=>by
    obtain⟨j,hj2,rfl⟩:=iG hp;have:=(hj j oO).2;rw[br,bw hj2]at this;exact this
   have h0:pp pr 0%M=pp pr 0%M:=rfl;have hw1: ∀ _:True,IntKind.i64.wrap ((k:Int)-1)=(k:Int)-1:=fun _=>IntWalk.i64_in _ oO
   clear hR hj;refine jm (aN (hw1 oT) @e9) @sO ?_;rw[hlp]at ll;have hbit:=fun j (hj:j<xs.length)=>yd (a:=(es.getD j fU).2) (by have:=he _ (an fU (show j<es.length by omega));simp only[cz,ba]at this;exact this.1)
   have hyg: ∀j,j<xs.length->(aD (pr.map (·.1))).getD j .u= .v (N (pr.getD j (0,0)).1):=fun j hj=>by
    rw[fW (by simpa[zl]using hj)]
    simp[br,zl,hj]
   subst hlp;obtain⟨n,hn0⟩: ∃n,n=xs.length:=⟨_,rfl⟩;rw[<-hn0]at ll hyg hbit zg zl l1 l2 hi hll n1 hxM hl;clear hch hlt;refine af (α:=Nat) (fun k=>k) (fun k=>⟨[(2, .v (.sl (es.map cT))),(9, .rs 1017 0 0 n 1),(15, .p 1025 0 0),(16, .fn (.func 106) [] [.p 1025 0 0, .p 1000 0 0]),(17, .v (.i .i64 ((k:Int)-1)))],[(1025,⟨0,[.v (N (pp pr k%M))],false,some 22⟩),(1017,⟨0,aD (pr.map (·.1)),false,none⟩),(1000,⟨0,[.v (N M), .v (.s o)],false,none⟩)],_⟩) (fun j=>j<=k) k (fun _=>aA _) (aA _) ?_ ?_
   ·rw[hn0];refine lG ?_;exact⟨by rw[htop,hM1],fun c hc=>dS hc⟩
   ·intro k' hk' R hR
    cases k' with
    |zero=>
     exact z0
    |succ k'=>
     have hgo:=hR k' oO oO;obtain⟨z,hz⟩: ∃z,z=pp pr (k'+1)%M:=⟨_,rfl⟩;have hzm:z<M:=by rw[hz];exact aL _ oO
     have e1: ∀ _:True,((k'+1:Nat):Int)-1=(k':Int):=fun _=>oO
     have hge: ∀ _:True,decide ((k':Int)>=0)=true:=fun _=>by simp
     have hwk: ∀ _:True,IntKind.i64.wrap ((k':Int)-1)=(k':Int)-1:=fun _=>IntWalk.i64_in _ oO
     have hstep:pp pr k'%M=(z*z%M)*(pb pr k')%M:=by
      rw[hz,<-du,jM,RD]
     rw[<-hz];have hx1:=fun nm=>mJ 1025 1000 nm oC o (some 22) none (a:=z) (b:=z) (m:=M) oO oO oO oO
     clear hR;repeat' first|simp only[go_sem,seval,e1 oT,hge oT,fY,eF,qy,ll]|(refine cu (hx1 _) (by simp[ay]) ?_)|refine oE ?_|apply xX<;>intro hc
     refine af (α:=Nat) (fun j=>n-j) (fun j=>⟨[(2, .v (.sl (es.map cT))),(9, .rs 1017 0 0 n 1),(15, .p 1025 0 0),(16, .fn (.func 106) [] [.p 1025 0 0, .p 1000 0 0]),(17, .v (.i .i64 (k':Int))),(85, .rs 1017 0 0 n 1),(86,E' n),(87,E' j)],[(1025,⟨0,[.v (N ((z*z%M)*pb (pr.take j) k'%M))],false,some 22⟩),(1017,⟨0,aD (pr.map (·.1)),false,none⟩),(1000,⟨0,[.v (N M), .v (.s o)],false,none⟩)],_⟩) (fun j=>j<=n) 0 (fun _=>aA _) (aI _) ?_ ?_
     ·refine lG ?_;exact⟨by simp[pb],fun c hc=>dS hc⟩
     ·intro j hj R' hR'
      by_cases hjn:j<n
      ·have hgo':=hR' (j+1) oO oO;have e2:=getD_map cT es fU (i:=j) oO;have hb:=hbit j hjn k' oO;have hy:=hyg j hjn;obtain⟨-,-,hym⟩:=hxM j hjn;have zj:=zg j hjn;rw[aS (0,0) oO,RA]at hgo';have hdec:(num (es.getD j fU).2).testBit k'=decide ((pr.getD j (0,0)).2/2^k'%2=1):=by rw[zj];exact lB
       rw[hdec]at hb;clear zj hdec;generalize pr.getD j (0,0)=p at*;obtain⟨y,q⟩:=p;simp only at hym hb hy hgo';obtain⟨e,hee⟩: ∃e,e=es.getD j fU:=⟨_,rfl⟩;rw[<-hee]at e2 hb;obtain⟨en,ea⟩:=e;simp only[cT]at e2;obtain⟨v,hv⟩: ∃v,v=z*z%M*pb (pr.take j) k'%M:=⟨_,rfl⟩;have hvm:v<M:=by rw[hv];exact aL _ oO
       rw[<-cM,du,<-hv]at hgo';rw[<-hv];have hx2:=fun nm=>mJ 1025 1000 nm oC o (some 22) none (a:=v) (b:=y) (m:=M) oO oO oO oO
       clear hR' hx1 hbit hyg hxM zg
       by_cases hq:q/2^k'%2=1
       ·rw[aJ hq]at hb;rw[hq,Nat.pow_one,b9 hym]at hgo';repeat' first|simp only[go_sem,seval,l2,ll,e2,hy]|refine cP hb ?_|(refine cu (hx2 _) (by simp[ay]) ?_)|refine oE ?_|apply xX<;>intro hc
        refine hgo' _ ?_;refine lG ?_;exact fun c hc=>dS hc
       ·rw[aG hq]at hb;rw[show q/2^k'%2=0 by omega,Nat.pow_zero,hM1,db,b9 hvm]at hgo'
        refine jm (aN @l2 (aN @ll (aN @e2 @hy))) @hb ?_;refine hgo' _ ?_;refine lG ?_;exact fun c hc=>dS hc
      ·obtain rfl:j=n:=oO;rw[cl oO,<-hstep];refine dI (aN @ll (hwk oT)) ?_;refine hgo _ ?_;refine lG ?_;exact fun c hc=>dS hc
def Jj (x:Bool×Bytes):Int:=if x.1 then-(num x.2:Int)else num x.2
theorem D6 (x:Bool×Bytes):(Jj x).natAbs=num x.2:=by unfold Jj;split<;>omega
theorem Is {x:Bool×Bytes} (h:cz x=true):nf (Jj x)=x:=by
 obtain⟨n,a⟩:=x;simp only[cz,ba,fJ]at h;have hz:=tB h.1;have hb:aY (num a)=a:=iu h.1;cases n
 ·simp[nf,Jj,zs,zb,hb]
 ·have:a≠[]:=by simpa using h.2
  have hp:num a≠0:=fun e=>this (hz.1 e)
  simp[nf,Jj,zs,zb,hb];omega
theorem u9 {z:Int} (h:z.natAbs<dZ):cz (nf z)=true:=Ws h
theorem zRw:dL Zp 2:=⟨fun _=>rfl,fun x y hy=>by simp[Zp,cT,nf,PV.cells]at hy;rcases hy with rfl|rfl<;>rfl,fun h=>oO,fun _ x=>rfl⟩
def tz (w:List Int) (t:eT):Int:=Jj (t.neg,t.abs)*w.getD t.var.toNat 0
def WB (ts:List eT) (w:List Int):Prop:= ∀t∈ts,0<=t.var/\t.var<w.length/\cz (t.neg,t.abs)=true/\(w.getD t.var.toNat 0).natAbs<dZ/\(Jj (t.neg,t.abs)).natAbs*(w.getD t.var.toNat 0).natAbs<dZ
theorem Yj:dL (fun t:eT=>PV.s t.base) 1:=⟨fun _=>rfl,fun _ y hy=>by cases cR.1 hy;rfl,fun _ _=>rfl,fun h=>aM rfl h⟩
theorem YQ (w:List Int):dL (fun t=>Zp (tz w t)) 2:=⟨fun x=>zRw.len _,fun x y hy=>zRw.one _ y hy,fun h=>oO,fun _ x=>rfl⟩
theorem Ep (n nm:Nat) (g:Int) (tg:Bytes) {ts:List eT} {w:List Int} (hn:ts.length<1000000) (hw:WB ts w):ml prog 377 nm [(n,⟨0,[.v (.sl (w.map Zp))],false,none⟩)] [.v (dx.pv ⟨g,tg,ts⟩), .p n 0 0] (.tup [.v (.sl (ts.map fun t=> .s t.base)), .v (.sl (ts.map fun t=>Zp (tz w t))), .v (E 0)]) []:=by
 have l4:(ts.map eT.pv).length=ts.length:=aC ..;have l5:(w.map Zp).length=w.length:=aC ..
 by_cases h0:ts=[]
 ·subst h0;simp only[dx.pv,bR];refine ml.w mixed call377 func377 rfl (nh.1 _ _ _ (by cbv)) (nh.2 _ _ (by cbv)) (obs:=[⟨0,[.v (.sl (w.map Zp))],false,none⟩]) (args:=[.v (.agg [.i .i64 g, .s tg, .sl []]), .p 0 0 0]) (fs:=[none]) (j:=none) (nw:=none) (v:= .tup [.v (.sl []), .v (.sl []), .v (E 0)]) (ns:=[n]) (obsA:=[⟨0,[.v (.sl (w.map Zp))],false,none⟩]) rfl ?_ (by simp) (by simp) rfl (by simp[bz,aF.aZ,AV.aZ,AV.aZ.renL]) (by simp[bz,AV.aZ,dM]) (by simp[AV.aZ,AV.aZ.renL]) (by simp[gY,outs,aF.aZ,AV.aZ,AV.aZ.renL])
  simp only[go_sem,seval];repeat' first|simp only[go_sem,seval,true_or,or_true,false_or,or_false,aj,kD,fE,jB,ia,ic,fG,rq,rX,iL,jY,eP,aV,AV.aZ,AV.aZ.renL,aO]|(refine ai ?_)|refine oE ?_|apply xX<;>intro hc
  all_goals first|rfl|trivial|skip
 have hpos:0<ts.length:=iX.2 h0;simp only[dx.pv];refine ml.w mixed call377 func377 rfl (nh.1 _ _ _ (by cbv)) (nh.2 _ _ (by cbv)) (obs:=[⟨0,[.v (.sl (w.map Zp))],false,none⟩]) (args:=[.v (.agg [.i .i64 g, .s tg, .sl (ts.map eT.pv)]), .p 0 0 0]) (fs:=[none]) (j:=none) (nw:=none) (v:= .tup [.v (.sl (ts.map fun t=> .s t.base)), .v (.sl (ts.map fun t=>Zp (tz w t))), .v (E 0)]) (ns:=[n]) (obsA:=[⟨0,[.v (.sl (w.map Zp))],false,none⟩]) rfl ?_ (by simp) (by simp) rfl (by simp[bz,aF.aZ,AV.aZ,AV.aZ.renL]) (by simp[bz,AV.aZ,dM]) (by simp[AV.aZ,AV.aZ.renL]) (by simp[gY,outs,aF.aZ,AV.aZ,AV.aZ.renL])
 simp only[go_sem,seval];refine dH @l4 ?_;refine ai ?_;have e1:=getD_map eT.pv ts fp hpos;obtain⟨t1,t2,t3,t4,t5⟩:=hw _ (an fp hpos);have r1:aX (fun t:eT=>PV.s t.base) (ts.take (0+1))=aX (fun t:eT=>PV.s t.base) (ts.take 0)++[.v (.s (ts.getD 0 fp).base)]:=by rw[aS fp hpos,bU];rfl
 have r2:aX (fun t=>Zp (tz w t)) (ts.take (0+1))=aX (fun t=>Zp (tz w t)) (ts.take 0)++[.v (.b (zs (tz w (ts.getD 0 fp)))), .v (.s (zb (tz w (ts.getD 0 fp))))]:=by rw[aS fp hpos,bU];rfl
 have htz:tz w (ts.getD 0 fp)=Jj ((ts.getD 0 fp).neg,(ts.getD 0 fp).abs)*w.getD (ts.getD 0 fp).var.toNat 0:=rfl;obtain⟨y,hy⟩: ∃y,y=ts.getD 0 fp:=⟨_,rfl⟩;rw[<-hy]at e1 t1 t2 t3 t4 t5 r1 r2 htz;clear hy;obtain⟨b,v,n,a⟩:=y;simp only at t1 t2 t3 t4 t5 r1 htz;have hx:=M9 (x:=Jj (n,a)) (y:=w.getD v.toNat 0) (by rw[D6];simp only[cz,ba]at t3;exact vw t3.1) t4 t5
 have e2:=getD_map Zp w 0 (i:=v.toNat) oO;have ez:Z (Jj (n,a))= .agg [.b n, .s a]:=congrArg cT (Is t3);rw[ez,<-htz]at hx;clear t3 t4 t5 ez htz;generalize tz w ⟨b,v,n,a⟩=z at*;generalize w.getD v.toNat 0=wv at*;simp only[eT.pv]at e1;simp only[Zp,cT,nf]at e2;refine jm (aN @l4 (aN @l5 (aN @e1 @e2))) @hx ?_;have hB:=Yj;have hZ:=YQ w;refine af (α:=Nat) (fun j=>ts.length-(j+1)) (fun j=>⟨[(1, .p 0 0 0),(6, .rs 1035 j 0 (j+1) 1),(7, .rs 1039 j 0 (j+1) 2),(13, .v (.sl (ts.map eT.pv))),(14,E' ts.length),(15,E' (j+1))],[(0,⟨0,[.v (.sl (w.map Zp))],false,none⟩),(1035,⟨j,aX (fun t:eT=>PV.s t.base) (ts.take (j+1)),true,some 22⟩),(1039,⟨j,aX (fun t=>Zp (tz w t)) (ts.take (j+1)),true,some 77⟩)],1044⟩) (fun j=>j+1<=ts.length) 0 (fun _=>bQ rfl) hpos ?_ ?_
 ·rw[dF,r1,r2,List.take_zero,show aX (fun t:eT=>PV.s t.base) []=[]from rfl,show aX (fun t=>Zp (tz w t)) []=[]from rfl]
  exact lE
 ·clear e1 e2 hx r1 r2 t1 t2;intro j hj R hR;have hj1:(ts.take (j+1)).length=j+1:=by rw[bL];omega
  have q1:=cj hB (ts.take (j+1));have q2:=cq hB (ts.take (j+1));have q5:=cj hZ (ts.take (j+1));have q6:=cq hZ (ts.take (j+1));rw[hj1]at q1 q2 q5 q6;rw[db]at q1 q2
  by_cases hlt:j+1<ts.length
  ·have hgo:=hR (j+1) oO oO;clear hR;have e1:=getD_map eT.pv ts fp hlt;obtain⟨t1,t2,t3,t4,t5⟩:=hw _ (an fp hlt);have r1:aX (fun t:eT=>PV.s t.base) (ts.take ((j+1)+1))=aX (fun t:eT=>PV.s t.base) (ts.take (j+1))++[.v (.s (ts.getD (j+1) fp).base)]:=by rw[aS fp hlt,bU];rfl
   have r2:aX (fun t=>Zp (tz w t)) (ts.take ((j+1)+1))=aX (fun t=>Zp (tz w t)) (ts.take (j+1))++[.v (.b (zs (tz w (ts.getD (j+1) fp)))), .v (.s (zb (tz w (ts.getD (j+1) fp))))]:=by rw[aS fp hlt,bU];rfl
   have htz:tz w (ts.getD (j+1) fp)=Jj ((ts.getD (j+1) fp).neg,(ts.getD (j+1) fp).abs)*w.getD (ts.getD (j+1) fp).var.toNat 0:=rfl;obtain⟨y,hy⟩: ∃y,y=ts.getD (j+1) fp:=⟨_,rfl⟩;rw[<-hy]at e1 t1 t2 t3 t4 t5 r1 r2 htz;clear hy;obtain⟨b,v,n,a⟩:=y;simp only at t1 t2 t3 t4 t5 r1 htz;have hx:=M9 (x:=Jj (n,a)) (y:=w.getD v.toNat 0) (by rw[D6];simp only[cz,ba]at t3;exact vw t3.1) t4 t5
   have e2:=getD_map Zp w 0 (i:=v.toNat) oO;have ez:Z (Jj (n,a))= .agg [.b n, .s a]:=congrArg cT (Is t3);rw[ez,<-htz]at hx;clear t3 t4 t5 ez htz;generalize tz w ⟨b,v,n,a⟩=z at*;generalize w.getD v.toNat 0=wv at*;simp only[eT.pv]at e1;simp only[Zp,cT,nf]at e2;rw[r1,r2]at hgo;refine jm (aN @l4 (aN @l5 (aN @e1 (aN @e2 (aN @q1 (aN @q2 (aN @q5 @q6))))))) @hx ?_;refine hgo _ ?_
   (refine AS.Le.of (by first|decide|omega) ?_ ?_<;>simp[dC,dA,aP,ay,AV.bd,AV.bd.bdL,u8,ar,au,az])
   all_goals (refine⟨?_,?_⟩<;>(intro c hc;rcases hc with h|h<;>first|exact cL h|(rcases h with rfl|rfl<;>rfl)|(subst h;rfl)))
  ·obtain hjv:j+1=ts.length:=oO;rw[hjv,cd]at q1 q2 q5 q6;rw[hjv,cd];have q3:=dQ hB ts;have q4:chunk 1 ts.length (ts.flatMap fun x=>[PV.s x.base])=ts.map fun t=> .s t.base:=cJ hB ts
   have q7:=dQ hZ ts;have q8:chunk 2 ts.length (ts.flatMap fun x=>(Zp (tz w x)).cells)=ts.map fun t=>Zp (tz w t):=cJ hZ ts
   repeat' first|simp only[go_sem,seval,true_or,or_true,false_or,or_false,aj,kD,fE,jB,ia,ic,fG,rq,rX,iL,jY,eP,aV,AV.aZ,AV.aZ.renL,aO,l4,q1,q2,q3,q4,q5,q6,q7,q8,ec]|refine oE ?_|apply xX<;>intro hc
   all_goals first|rfl|trivial|skip
noncomputable def UQ (gs:List (Bytes×Bytes)) (w:List Int) (q:dx):Nat:=wO (num (gs.getD q.mS.toNat fj).1) (q.terms.map fun t=>(num t.base,nf (tz w t)))
noncomputable def yX (s:cU) (w:List Int):List Bytes:=s.eqs.map fun q=>aY (UQ s.groups w q)
theorem CB (s:cU) (w:List Int):(yX s w).length=s.eqs.length:=aC ..
theorem Ov {l:List Bytes} (h:i<l.length):aX PV.s (l.take (i+1))=aX PV.s (l.take i)++[.v (.s (l.getD i []))]:=by
 rw[aS [] h,bU];rfl
theorem Te {m:Bytes} (lm:m.length<=8) {o:Bytes} (lo:o.length<=8) (hE:gE m o=0) {ts:List eT} {w:List Int} (hn:ts.length<1000000) (hg: ∀t∈ts,jz m o t.base=true) (hw:WB ts w):aE 50 [G m o, .sl (ts.map fun t=> .s t.base), .sl (ts.map fun t=>Zp (tz w t))] (.tup [N (wO (num m) (ts.map fun t=>(num t.base,nf (tz w t)))),E 0]):=by
 have h:=xd lm lo hE (xs:=ts.map fun t=>num t.base) (es:=ts.map fun t=>nf (tz w t)) (fun x hx=>by
  obtain⟨t,ht,rfl⟩:=bm.1 hx;exact((ct hE).1 (hg t ht)).2) (fun e he=>by
  obtain⟨t,ht,rfl⟩:=bm.1 he;obtain⟨-,-,-,h4,h5⟩:=hw t ht;exact u9 (by rw[tz,mC];exact h5)) (by simp) (by simpa using hn)
 rw[List.zip_map',iV,iV]at h;rw[show(ts.map fun t=>PV.s t.base)=ts.map (cZ∘fun t=>num t.base)from nS fun t ht=>(eH (gO hE (hg t ht))).symm]
 exact h
theorem Iq {s:cU} (hs:Ca s) {w:List Int} (hw: ∀q∈s.eqs,WB q.terms w):aE 253 [s.pv, .sl (w.map Zp)] (.tup [.sl ((yX s w).map .s),E 0]):=by
 obtain⟨L,hLd⟩: ∃L,L=yX s w:=⟨_,rfl⟩;have hI:=fun i (h:i<s.eqs.length)=>(show L.getD i []=aY (UQ s.groups w (s.eqs.getD i hG)) by rw[hLd,yX];simp[br,h])
 have hL:L.length=s.eqs.length:=by rw[hLd,CB]
 rw[<-hLd];clear hLd;obtain⟨gs,vs,es⟩:=s;obtain⟨-,hg,hv,hq,ng,nv,ne,-⟩:=hs;simp only at hg hv hq ng nv ne hw hI hL;have l1:(gs.map eB).length=gs.length:=aC ..;have l3:(es.map dx.pv).length=es.length:=aC ..;unfold cU.pv;simp only
 by_cases h0:es=[]
 ·subst h0;obtain rfl:L=[]:=gb.1 hL;simp only[bR];refine eW call253 func253 ?_;exact SA
 have hpos:0<es.length:=iX.2 h0;refine eW call253 func253 ?_;refine dH @l3 ?_;refine ai ?_;have e1:=getD_map dx.pv es hG hpos;obtain⟨q1,q2,q3,q4,q5⟩:=hq _ (an hG hpos);have kw:=hw _ (an hG hpos);have r1:=Ov (l:=L) (i:=0) (by rw[hL];exact hpos)
 have r2:=hI 0 hpos;obtain⟨x,hx⟩: ∃x,x=es.getD 0 hG:=⟨_,rfl⟩;rw[<-hx]at e1 q1 q2 q3 q4 q5 kw r2;clear hx;obtain⟨gr,tg,ts⟩:=x;simp only at q1 q2 q3 q4 q5 kw;have hgl:gr.toNat<gs.length:=oO;have kg:=hg _ (an fj hgl);have e3:=getD_map eB gs fj hgl;simp only[UQ]at r2;obtain⟨z,hz⟩: ∃z,z=gs.getD gr.toNat fj:=⟨_,rfl⟩;rw[<-hz]at q5 kg e3 r2;clear hz q3;obtain⟨m,o⟩:=z;simp only at q5 kg r2;have hcl:=fun nm=>Ep 1001 nm gr tg (ts:=ts) (w:=w) oO kw
 have xe:=Te kg.2.1 kg.2.2 kg.1 (ts:=ts) (w:=w) oO (fun t ht=>(q5 t ht).2.2.1) kw
 have xe:aE 50 [G m o, .sl (ts.map fun t=> .s t.base), .sl (ts.map fun t=>Zp (tz w t))] (.tup [.s (L.getD 0 []),E 0]):=by rw[r2];exact xe
 clear r2 kw kg q5;simp only[eB]at e3;simp only[dx.pv]at e1 hcl;repeat' first|simp only[go_sem,seval,l1,l3,e1,e3,aU]|(refine cu (hcl _) (by simp[ay]) ?_)|refine cP xe ?_|refine oE ?_|apply xX<;>intro hc
 have hM:dL PV.s 1:=dL.s;refine af (α:=Nat) (fun j=>es.length-(j+1)) (fun j=>⟨[(2, .p 1000 0 0),(6, .fn (.func 377) [] [.p 1001 0 0]),(7, .rs 1047 j 0 (j+1) 1),(16, .v (.sl (es.map dx.pv))),(17,E' es.length),(18,E' (j+1))],[(1000,⟨0,[.v (.sl (gs.map eB)), .v (.sl (vs.map cO)), .v (.sl (es.map dx.pv))],false,none⟩),(1001,⟨0,[.v (.sl (w.map Zp))],false,none⟩),(1047,⟨j,aX PV.s (L.take (j+1)),true,some 22⟩)],1051⟩) (fun j=>j+1<=es.length) 0 (fun _=>bQ rfl) hpos ?_ ?_
 ·rw[dF,r1,List.take_zero,show aX PV.s ([]:List Bytes)=[]from rfl]
  exact lE
 ·clear e1 e3 q1 q2 q4 xe hcl r1;intro i hi R hR;have hj1:(L.take (i+1)).length=i+1:=by rw[bL];omega
  have p1:=cj hM (L.take (i+1));have p2:=cq hM (L.take (i+1));rw[hj1,db]at p1 p2
  by_cases hlt:i+1<es.length
  ·have hgo:=hR (i+1) oO oO;clear hR;have e1:=getD_map dx.pv es hG hlt;obtain⟨q1,q2,q3,q4,q5⟩:=hq _ (an hG hlt);have kw:=hw _ (an hG hlt);have r1:=Ov (l:=L) (i:=(i+1)) (by rw[hL];exact hlt)
   have r2:=hI (i+1) hlt;obtain⟨x,hx⟩: ∃x,x=es.getD (i+1) hG:=⟨_,rfl⟩;rw[<-hx]at e1 q1 q2 q3 q4 q5 kw r2;clear hx;obtain⟨gr,tg,ts⟩:=x;simp only at q1 q2 q3 q4 q5 kw;have hgl:gr.toNat<gs.length:=oO;have kg:=hg _ (an fj hgl);have e3:=getD_map eB gs fj hgl;simp only[UQ]at r2;obtain⟨z,hz⟩: ∃z,z=gs.getD gr.toNat fj:=⟨_,rfl⟩;rw[<-hz]at q5 kg e3 r2;clear hz q3;obtain⟨m,o⟩:=z;simp only at q5 kg r2;have hcl:=fun nm=>Ep 1001 nm gr tg (ts:=ts) (w:=w) oO kw
   have xe:=Te kg.2.1 kg.2.2 kg.1 (ts:=ts) (w:=w) oO (fun t ht=>(q5 t ht).2.2.1) kw
   have xe:aE 50 [G m o, .sl (ts.map fun t=> .s t.base), .sl (ts.map fun t=>Zp (tz w t))] (.tup [.s (L.getD (i+1) []),E 0]):=by rw[r2];exact xe
   clear r2 kw kg q5;simp only[eB]at e3;simp only[dx.pv]at e1 hcl;rw[r1]at hgo;repeat' first|simp only[go_sem,seval,l1,l3,e1,e3,aU,p1,p2]|(refine cu (hcl _) (by simp[ay]) ?_)|refine cP xe ?_|refine oE ?_|apply xX<;>intro hc
   refine hgo _ ?_
   (refine AS.Le.of (by first|decide|omega) ?_ ?_<;>simp[dC,dA,aP,ay,AV.bd,AV.bd.bdL,u8,ar,au,az])
   all_goals (intro c hc;rcases hc with h|h<;>first|exact cL h|(subst h;rfl))
  ·obtain hjv:i+1=es.length:=oO;rw[hjv]at p1 p2;have hLt:L.take es.length=L:=cl oO;rw[hLt]at p1 p2;rw[hjv,hLt];have p3:=dQ hM L;have p4:=cJ hM L;rw[hL]at p4;repeat' first|simp only[go_sem,seval,l3,p1,p2,p3,p4,ec]|refine oE ?_|apply xX<;>intro hc
   all_goals exact congrArg (fun l=>PV.tup [PV.sl l,E 0]) p4
theorem Re (x:Bool×Bytes):aE 375 [cT x] (.b (!cz x)):=by
 obtain⟨n,a⟩:=x;have hv:=hO n a;rw[show(aa a&& !(n&&a==[]))=cz (n,a)from rfl]at hv
 generalize cz (n,a)=b at*;simp only[cT];refine eW call375 func375 ?_;exact z1 @hv
