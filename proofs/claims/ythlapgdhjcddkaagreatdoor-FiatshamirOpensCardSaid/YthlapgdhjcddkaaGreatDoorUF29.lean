/- Part of the proof. -/
import Derived.Test.YthlapgdhjcddkaaGreatDoorUF25
set_option linter.all false
set_option maxHeartbeats 16000000
set_option maxRecDepth 100000
namespace Go.Proofs.Tryz
open Go Go.Dom Go.Num
variable {es:List (Bool×Bytes)} {i x:Nat} {xs:List Nat}
def bL (l:List Nat):List AV:=l.map fun x=> .v (N x)
theorem e9 (l:List Nat):(bL l).length=l.length:=by simp[bL]
theorem p9 (n:Nat):(List.replicate n [AV.v (.s [])]).flatten=bL (List.replicate n 0):=by
 unfold bL
 induction n with
 |zero=>rfl
 |succ n ih=>rw[List.replicate_succ,List.flatten_cons,ih];rfl
theorem jT {l:List Nat} (h:i<l.length):(bL l).getD i .u= .v (N (l.getD i 0)):=by
 simp[bL,bu,h]
theorem HU {l:List Nat} {o:Nat}:(bL l).set o (.v (N x))=bL (l.set o x):=by
 simp[bL,vF]
theorem iX {l:List Nat} {o:Nat} (h:o<l.length):(bL l).take o++[.v (N x)]++(bL l).drop (o+1)=bL (l.set o x):=by
 rw[<-HU,yO,af (by rw[e9];exact h)];simp
theorem iN {l:List Nat} {c:AV} {n:Nat} (h:c∈bL l):c.bd n=true:=by
 obtain⟨x,-,rfl⟩:=cx.1 h;rfl
def fY (x:Nat):PV:=N x
theorem Af (xs:List Nat) (h:i<xs.length):(xs.map fY).getD i .fn0=N (xs.getD i 0):=getD_map fY xs 0 h
theorem SH {m:Bytes} (lm:m.length<=8) {o:Bytes} (lo:o.length<=8) (hE:gE m o=0) (hx: ∀x∈xs,GP m o x) (he: ∀e∈es,cr e=true) (n1:xs.length<1000000) (n2:es.length<1000000):aH 276 [G m o, .sl (xs.map fY), .sl (es.map ca), .b true] (E 0):=by
 have l1:(xs.map fY).length=xs.length:=au ..;have l2:(es.map ca).length=es.length:=au ..;have c3:=pw lm lo;rw[hE]at c3;have hn:=ga lm;refine eW call276 func276 ?_;refine dh @l1 ?_;refine ah (α:=Nat) (fun i=>xs.length-i) (fun i=>⟨[(1, .v (.sl (xs.map fY))),(2, .v (.sl (es.map ca))),(3, .v (.b true)),(4, .p 1000 0 0),(16, .v (.sl (xs.map fY))),(17,E' xs.length),(18,E' i)],[(1000,⟨0,[.v (.s m), .v (.s o)],false,none⟩)],_⟩) (fun i=>i<=xs.length) 0 (fun _=>aA _) (aD _) ?_ ?_
 ·exact lE
 ·intro i hi R hR
  by_cases hlt:i<xs.length
  ·have e1:=Af xs hlt;have k:=hx _ (ai 0 hlt);have hgo:=hR (i+1) oO oO;have c1:=aX (b7 (xs.getD i 0));rw[vN (show xs.getD i 0<(2^64) by have:=k.lt;omega)]at c1
   clear hR k;generalize xs.getD i 0=x at*;exact gi (aN @l1 @e1) @hgo @c1
  ·obtain rfl:i=xs.length:=oO;clear hR;refine dh (aN @l1 @l2) ?_;refine ah (α:=Nat) (fun i=>es.length-i) (fun i=>⟨[(1, .v (.sl (xs.map fY))),(3, .v (.b true)),(4, .p 1000 0 0),(26, .v (.sl (es.map ca))),(27,E' es.length),(28,E' i)],[(1000,⟨0,[.v (.s m), .v (.s o)],false,none⟩)],_⟩) (fun i=>i<=es.length) 0 (fun _=>aA _) (aD _) ?_ ?_
   ·exact lE
   ·intro i hi R hR
    by_cases hlt:i<es.length
    ·have e1:=getD_map ca es eT hlt;have k:=he _ (ai eT hlt);have hgo:=hR (i+1) oO oO;obtain⟨x,hxx⟩: ∃x,x=es.getD i eT:=⟨_,rfl⟩;rw[<-hxx]at e1 k;clear hR hxx;obtain⟨n,a⟩:=x;have c2:=gY n a;rw[show(ae a&& !(n&&a==[]))=true from k]at c2
     simp only[ca]at e1;exact gi (aN @l2 @e1) @hgo @c2
    ·obtain rfl:i=es.length:=oO;clear hR;refine jA (aN @l1 @l2) @c3 ?_;refine ah (α:=Nat) (fun i=>xs.length-i) (fun i=>⟨[(4, .p 1000 0 0),(43, .v (.sl (xs.map fY))),(44,E' xs.length),(45,E' i)],[(1000,⟨0,[.v (.s m), .v (.s o)],false,none⟩)],_⟩) (fun i=>i<=xs.length) 0 (fun _=>aA _) (aD _) ?_ ?_
     ·exact lE
     ·intro i hi R hR
      by_cases hlt:i<xs.length
      ·have e1:=Af xs hlt;have k:=hx _ (ai 0 hlt);have hgo:=hR (i+1) oO oO;have c4:=uC lm o (b7 (xs.getD i 0));rw[k.has hE lm]at c4;clear hR k;generalize xs.getD i 0=x at*;exact gi (aN @l1 @e1) @hgo @c4
      ·obtain rfl:i=xs.length:=oO;exact fz @l1
theorem Wq {e:Bytes} (he:ae e=true):dG (num e)<1000000:=by
 have h1:num e<2^1024:=by
  refine bM (cO e) ?_;have le:e.length<=128:=by simp[ae]at he;exact he.1
  exact fw (dp oC le) (by decide+kernel)
 unfold dG;split
 ·decide
 ·rename_i h;have:=(yV h).2 h1;omega
theorem QQ (M:Nat) (hl:es.length=xs.length):((xs.zip es).map fun p=>(UK M p.1 p.2,num p.2.2)).length=xs.length/\ ∀i,i<xs.length->((xs.zip es).map fun p=>(UK M p.1 p.2,num p.2.2)).getD i (0,0)=(UK M (xs.getD i 0) (es.getD i eT),num (es.getD i eT).2):=by
 constructor
 ·simp;omega
 ·intro i hi;have h2:i<es.length:=oO;have e:(xs.zip es)[i]?=some (xs[i],es[i]):=EE.2 ⟨bC hi,bC h2⟩;rw[bu,fy,e,bu,bC hi,bu,bC h2];rfl
theorem MN (n:Nat):n<2^dG n:=by
 unfold dG;split
 ·rename_i h;subst h;decide
 ·exact vI
theorem SI {m:Bytes} (lm:m.length<=8) {o:Bytes} (lo:o.length<=8) (hE:gE m o=0) (hx: ∀x∈xs,GP m o x) (he: ∀e∈es,cr e=true) (hl:es.length=xs.length) (n1:xs.length<1000000):aH 275 [G m o, .sl (xs.map fY), .sl (es.map ca)] (.tup [N (Q2 (num m) (xs.zip es)),E 0]):=by
 have l1:(xs.map fY).length=xs.length:=au ..;have l2:(es.map ca).length=xs.length:=by rw[au];exact hl
 have hch:=SH lm lo hE hx he n1 oO;obtain⟨vm,vo,m1,-,-⟩:=nD hE;have hn:=ga lm;obtain⟨zl,zg⟩:=QQ (num m) hl;unfold Q2;generalize hpr:((xs.zip es).map fun p=>(UK (num m) p.1 p.2,num p.2.2))=pr at*
 clear hpr;obtain⟨M,hM⟩: ∃M,M=num m:=⟨_,rfl⟩;have eG:G m o= .agg [N M, .s o]:=by rw[hM,show N (num m)= .s m from congrArg PV.s (jr vm)]
 rw[eG]at hch⊢;have hxM: ∀i,i<xs.length->xs.getD i 0<M/\Nat.gcd (xs.getD i 0) M=1/\(pr.getD i (0,0)).1<M:=fun i hi=>by
  have k:=hx _ (ai 0 hi);refine⟨by rw[hM];exact k.lt,by rw[hM];exact k.UN,?_⟩
  rw[zg i hi,hM];unfold UK;split
  ·exact k.unit.inv.1
  ·exact k.lt
 rw[<-hM]at hn m1 zg⊢;clear hx hM eG lm lo hE vm vo;have hM1:1%M=1:=bV oO;have hN:(bL (List.replicate xs.length 0)).length=xs.length:=by simp[bL]
 refine eW call275 func275 ?_;repeat' first|simp only[go_sem,seval,l1,l2,p9,hN,fS,eY]|refine cP hch ?_|refine oE ?_|apply xX<;>intro hc
 refine ah (α:=Nat×List Nat×Nat) (fun s=>xs.length-s.1) (fun s=>⟨[(1, .v (.sl (xs.map fY))),(2, .v (.sl (es.map ca))),(3, .p 1000 0 0),(9, .rs 1017 0 0 xs.length 1),(10,E' s.2.2),(35, .v (.sl (xs.map fY))),(36,E' xs.length),(37,E' s.1)],[(1000,⟨0,[.v (N M), .v (.s o)],false,none⟩),(1017,⟨0,bL s.2.1,false,none⟩)],_⟩) (fun s=>s.1<=xs.length/\s.2.1.length=xs.length/\s.2.2<1000000/\ ∀j,j<s.1->s.2.1.getD j 0=(pr.getD j (0,0)).1/\(pr.getD j (0,0)).2<2^s.2.2) (0,List.replicate xs.length 0,0) (fun _=>aA _) ⟨aD _,by simp,(by decide:0<1000000),fun j hj=>aJ hj (kI _)⟩ ?_ ?_
 ·refine lG ?_;exact fun c hc=>iN hc
 ·rintro⟨i,l,k⟩ ⟨hi,hll,hk,hj⟩ R hR;simp only at hi hll hk hj;have ll:(bL l).length=xs.length:=by rw[e9];exact hll
  by_cases hlt:i<xs.length
  ·have e1:=Af xs hlt;have e2:=getD_map ca es eT (i:=i) oO;have ke:=he _ (ai eT (show i<es.length by omega))
   obtain⟨x1,x2,x3⟩:=hxM i hlt;have zi:=zg i hlt;obtain⟨x,hxx⟩: ∃x,x=xs.getD i 0:=⟨_,rfl⟩;obtain⟨e,hee⟩: ∃e,e=es.getD i eT:=⟨_,rfl⟩;rw[<-hxx]at e1 x1 x2 zi;rw[<-hee]at e2 ke zi;clear hxx hee;obtain⟨n,a⟩:=e;simp only[cr,bc]at ke;have hbt:=yf ke.1;have hbe:=Wq ke.1;have hmx: ∀ _:True,(if(dG (num a):Int)>(k:Int)then(dG (num a):Int)else(k:Int))=((max k (dG (num a)):Nat):Int):=fun _=>by split<;>omega
   have hinv:=sY (a:=x) (m:=M) oO hn oO x2;have hgo:=fun y (hy:y=(pr.getD i (0,0)).1)=>hR (i+1,l.set i y,max k (dG (num a))) ⟨by show i+1<= _;omega,by simp[hll],by show max k _< _;omega,fun j hj2=>by
    by_cases hji:j=i
    ·subst hji;refine⟨by simp[bu,hll,hlt,hy],?_⟩
     rw[zi];exact bM (MN _) (dp oC (Nat.le_max_right _ _))
    ·obtain⟨h1,h2⟩:=hj j (by simp only at hj2;omega)
     refine⟨?_,bM h2 (dp oC (Nat.le_max_left _ _))⟩;rw[<-h1];simp[bu,yM,aY hji]⟩ (by show xs.length-(i+1)<xs.length-i;omega)
   rw[zi]at hgo;simp only[ca]at e2;clear hR hj hch zg hxM he;have p1: ∀y,List.take i (bL l)++[AV.v (.s (b7 y))]++List.drop (i+1) (bL l)=bL (l.set i y):=fun y=>iX oO
   have p2: ∀x y,List.take i (bL (l.set i x))++[AV.v (.s (b7 y))]++List.drop (i+1) (bL (l.set i x))=bL (l.set i y):=fun x y=>by rw[iX (by rw[jZ];omega),List.set_set]
   have p3: ∀y,(bL (l.set i y)).length=xs.length:=fun y=>by rw[e9,jZ,hll]
   cases n
   ·have hgo:=hgo x (by simp[UK])
    refine gR (aN @l1 (aN @l2 (aN @ll (aN @e1 (aN @e2 (aN @p1 (aN @p3 (hmx oT)))))))) @hbt ?_;refine hgo _ ?_;refine lG ?_;exact fun c hc=>iN hc
   ·have hgo:=hgo (gV x M) (by simp[UK])
    refine rz (aN @l1 (aN @l2 (aN @ll (aN @e1 (aN @e2 (aN @p1 (aN @p2 (aN @p3 (hmx oT))))))))) @hbt @hinv ?_;refine hgo _ ?_;refine lG ?_;exact fun c hc=>iN hc
  ·obtain rfl:i=xs.length:=oO;have hlp:l=pr.map (·.1):=by
    refine vO (by simp[hll,zl]) fun j h1 h2=> ?_
    have:=(hj j oO).1;rw[bu,bC h1,bu,bC (by omega:j<pr.length)]at this
    simpa using this
   have htop:pp pr k=1:=XO fun p hp=>by
    obtain⟨j,hj2,rfl⟩:=fU hp;have:=(hj j oO).2;rw[bu,bC hj2]at this;exact this
   have h0:pp pr 0%M=pp pr 0%M:=rfl;have hw1: ∀ _:True,IntKind.i64.wrap ((k:Int)-1)=(k:Int)-1:=fun _=>IntWalk.i64_in _ oO
   clear hR hj;refine gR (aN (hw1 oT) @fS) @Da ?_;rw[hlp]at ll;have hbit:=fun j (hj:j<xs.length)=>zp (a:=(es.getD j eT).2) (by have:=he _ (ai eT (show j<es.length by omega));simp only[cr,bc]at this;exact this.1)
   have hyg: ∀j,j<xs.length->(bL (pr.map (·.1))).getD j .u= .v (N (pr.getD j (0,0)).1):=fun j hj=>by
    rw[jT (by simpa[zl]using hj)]
    simp[bu,zl,hj]
   subst hlp;obtain⟨n,hn0⟩: ∃n,n=xs.length:=⟨_,rfl⟩;rw[<-hn0]at ll hyg hbit zg zl l1 l2 hi hll n1 hxM hl;clear hch hlt;refine ah (α:=Nat) (fun k=>k) (fun k=>⟨[(2, .v (.sl (es.map ca))),(9, .rs 1017 0 0 n 1),(15, .p 1025 0 0),(16, .fn (.func 343) [] [.p 1025 0 0, .p 1000 0 0]),(17, .v (.i .i64 ((k:Int)-1)))],[(1025,⟨0,[.v (N (pp pr k%M))],false,some 22⟩),(1017,⟨0,bL (pr.map (·.1)),false,none⟩),(1000,⟨0,[.v (N M), .v (.s o)],false,none⟩)],_⟩) (fun j=>j<=k) k (fun _=>aA _) (aA _) ?_ ?_
   ·rw[hn0];refine lG ?_;exact⟨by rw[htop,hM1],fun c hc=>iN hc⟩
   ·intro k' hk' R hR
    cases k' with
    |zero=>
     exact z0
    |succ k'=>
     have hgo:=hR k' oO oO;obtain⟨z,hz⟩: ∃z,z=pp pr (k'+1)%M:=⟨_,rfl⟩;have hzm:z<M:=by rw[hz];exact aV _ oO
     have e1: ∀ _:True,((k'+1:Nat):Int)-1=(k':Int):=fun _=>oO
     have hge: ∀ _:True,decide ((k':Int)>=0)=true:=fun _=>by simp
     have hwk: ∀ _:True,IntKind.i64.wrap ((k':Int)-1)=(k':Int)-1:=fun _=>IntWalk.i64_in _ oO
     have hstep:pp pr k'%M=(z*z%M)*(pb pr k')%M:=by
      rw[hz,<-db,jt,To]
     rw[<-hz];have hx1:=fun nm=>nj 1025 1000 nm oC o (some 22) none (a:=z) (b:=z) (m:=M) oO oO oO oO
     clear hR;repeat' first|simp only[go_sem,seval,e1 oT,hge oT,kO,gA,rq,ll]|(refine bK (hx1 _) (by simp[az]) ?_)|refine oE ?_|apply xX<;>intro hc
     refine ah (α:=Nat) (fun j=>n-j) (fun j=>⟨[(2, .v (.sl (es.map ca))),(9, .rs 1017 0 0 n 1),(15, .p 1025 0 0),(16, .fn (.func 343) [] [.p 1025 0 0, .p 1000 0 0]),(17, .v (.i .i64 (k':Int))),(85, .rs 1017 0 0 n 1),(86,E' n),(87,E' j)],[(1025,⟨0,[.v (N ((z*z%M)*pb (pr.take j) k'%M))],false,some 22⟩),(1017,⟨0,bL (pr.map (·.1)),false,none⟩),(1000,⟨0,[.v (N M), .v (.s o)],false,none⟩)],_⟩) (fun j=>j<=n) 0 (fun _=>aA _) (aD _) ?_ ?_
     ·refine lG ?_;exact⟨by simp[pb],fun c hc=>iN hc⟩
     ·intro j hj R' hR'
      by_cases hjn:j<n
      ·have hgo':=hR' (j+1) oO oO;have e2:=getD_map ca es eT (i:=j) oO;have hb:=hbit j hjn k' oO;have hy:=hyg j hjn;obtain⟨-,-,hym⟩:=hxM j hjn;have zj:=zg j hjn;rw[aL (0,0) oO,Tn]at hgo';have hdec:(num (es.getD j eT).2).testBit k'=decide ((pr.getD j (0,0)).2/2^k'%2=1):=by rw[zj];exact l9
       rw[hdec]at hb;clear zj hdec;generalize pr.getD j (0,0)=p at*;obtain⟨y,q⟩:=p;simp only at hym hb hy hgo';obtain⟨e,hee⟩: ∃e,e=es.getD j eT:=⟨_,rfl⟩;rw[<-hee]at e2 hb;obtain⟨en,ea⟩:=e;simp only[ca]at e2;obtain⟨v,hv⟩: ∃v,v=z*z%M*pb (pr.take j) k'%M:=⟨_,rfl⟩;have hvm:v<M:=by rw[hv];exact aV _ oO
       rw[<-de,db,<-hv]at hgo';rw[<-hv];have hx2:=fun nm=>nj 1025 1000 nm oC o (some 22) none (a:=v) (b:=y) (m:=M) oO oO oO oO
       clear hR' hx1 hbit hyg hxM zg
       by_cases hq:q/2^k'%2=1
       ·rw[aQ hq]at hb;rw[hq,Nat.pow_one,bV hym]at hgo';repeat' first|simp only[go_sem,seval,l2,ll,e2,hy]|refine cP hb ?_|(refine bK (hx2 _) (by simp[az]) ?_)|refine oE ?_|apply xX<;>intro hc
        refine hgo' _ ?_;refine lG ?_;exact fun c hc=>iN hc
       ·rw[aS hq]at hb;rw[show q/2^k'%2=0 by omega,Nat.pow_zero,hM1,dr,bV hvm]at hgo'
        refine gR (aN @l2 (aN @ll (aN @e2 @hy))) @hb ?_;refine hgo' _ ?_;refine lG ?_;exact fun c hc=>iN hc
      ·obtain rfl:j=n:=oO;rw[cQ oO,<-hstep];refine dw (aN @ll (hwk oT)) ?_;refine hgo _ ?_;refine lG ?_;exact fun c hc=>iN hc
def zo (x:Bool×Bytes):Int:=if x.1 then-(num x.2:Int)else num x.2
theorem vU (x:Bool×Bytes):(zo x).natAbs=num x.2:=by unfold zo;split<;>omega
theorem yt {x:Bool×Bytes} (h:cr x=true):iB (zo x)=x:=by
 obtain⟨n,a⟩:=x;simp only[cr,bc,fW]at h;have hz:=uL h.1;have hb:b7 (num a)=a:=jr h.1;cases n
 ·simp[iB,zo,zs,zb,hb]
 ·have:a≠[]:=by simpa using h.2
  have hp:num a≠0:=fun e=>this (hz.1 e)
  simp[iB,zo,zs,zb,hb];omega
theorem tC {z:Int} (h:z.natAbs<ek):cr (iB z)=true:=YL h
theorem zRw:cH Zp 2:=⟨fun _=>rfl,fun x y hy=>by simp[Zp,ca,iB,PV.cells]at hy;rcases hy with rfl|rfl<;>rfl,fun h=>oO,fun _ x=>rfl⟩
def tz (w:List Int) (t:dx):Int:=zo (t.neg,t.abs)*w.getD t.var.toNat 0
def WB (ts:List dx) (w:List Int):Prop:= ∀t∈ts,0<=t.var/\t.var<w.length/\cr (t.neg,t.abs)=true/\(w.getD t.var.toNat 0).natAbs<ek/\(zo (t.neg,t.abs)).natAbs*(w.getD t.var.toNat 0).natAbs<ek
theorem aaQ:cH (fun t:dx=>PV.s t.base) 1:=⟨fun _=>rfl,fun _ y hy=>by cases fa.1 hy;rfl,fun _ _=>rfl,fun h=>aJ rfl h⟩
theorem abd (w:List Int):cH (fun t=>Zp (tz w t)) 2:=⟨fun x=>zRw.len _,fun x y hy=>zRw.one _ y hy,fun h=>oO,fun _ x=>rfl⟩
theorem Fs (n nm:Nat) (g:Int) (tg:Bytes) {ts:List dx} {w:List Int} (hn:ts.length<1000000) (hw:WB ts w):jS prog 279 nm [(n,⟨0,[.v (.sl (w.map Zp))],false,none⟩)] [.v (bZ.pv ⟨g,tg,ts⟩), .p n 0 0] (.tup [.v (.sl (ts.map fun t=> .s t.base)), .v (.sl (ts.map fun t=>Zp (tz w t))), .v (E 0)]) []:=by
 have l4:(ts.map dx.pv).length=ts.length:=au ..;have l5:(w.map Zp).length=w.length:=au ..
 by_cases h0:ts=[]
 ·subst h0;simp only[bZ.pv,cb];refine jS.w mixed call279 func279 rfl (jq.1 _ _ _ (by cbv)) (jq.2 _ _ (by cbv)) (obs:=[⟨0,[.v (.sl (w.map Zp))],false,none⟩]) (args:=[.v (.agg [.i .i64 g, .s tg, .sl []]), .p 0 0 0]) (fs:=[none]) (j:=none) (nw:=none) (v:= .tup [.v (.sl []), .v (.sl []), .v (E 0)]) (ns:=[n]) (obsA:=[⟨0,[.v (.sl (w.map Zp))],false,none⟩]) rfl ?_ (by simp) (by simp) rfl (by simp[bA,aI.aR,AV.aR,AV.aR.renL]) (by simp[bA,AV.aR,dq]) (by simp[AV.aR,AV.aR.renL]) (by simp[fh,outs,aI.aR,AV.aR,AV.aR.renL])
  simp only[go_sem,seval];repeat' first|simp only[go_sem,seval,true_or,or_true,false_or,or_false,ar,gX,ey,gM,fp,fH,eA,nT,om,fO,gS,dE,aK,AV.aR,AV.aR.renL,aG]|(refine aq ?_)|refine oE ?_|apply xX<;>intro hc
  all_goals first|rfl|trivial|skip
 have hpos:0<ts.length:=gF.2 h0;simp only[bZ.pv];refine jS.w mixed call279 func279 rfl (jq.1 _ _ _ (by cbv)) (jq.2 _ _ (by cbv)) (obs:=[⟨0,[.v (.sl (w.map Zp))],false,none⟩]) (args:=[.v (.agg [.i .i64 g, .s tg, .sl (ts.map dx.pv)]), .p 0 0 0]) (fs:=[none]) (j:=none) (nw:=none) (v:= .tup [.v (.sl (ts.map fun t=> .s t.base)), .v (.sl (ts.map fun t=>Zp (tz w t))), .v (E 0)]) (ns:=[n]) (obsA:=[⟨0,[.v (.sl (w.map Zp))],false,none⟩]) rfl ?_ (by simp) (by simp) rfl (by simp[bA,aI.aR,AV.aR,AV.aR.renL]) (by simp[bA,AV.aR,dq]) (by simp[AV.aR,AV.aR.renL]) (by simp[fh,outs,aI.aR,AV.aR,AV.aR.renL])
 simp only[go_sem,seval];refine dh @l4 ?_;refine aq ?_;have e1:=getD_map dx.pv ts dN hpos;obtain⟨t1,t2,t3,t4,t5⟩:=hw _ (ai dN hpos);have r1:aP (fun t:dx=>PV.s t.base) (ts.take (0+1))=aP (fun t:dx=>PV.s t.base) (ts.take 0)++[.v (.s (ts.getD 0 dN).base)]:=by rw[aL dN hpos,bU];rfl
 have r2:aP (fun t=>Zp (tz w t)) (ts.take (0+1))=aP (fun t=>Zp (tz w t)) (ts.take 0)++[.v (.b (zs (tz w (ts.getD 0 dN)))), .v (.s (zb (tz w (ts.getD 0 dN))))]:=by rw[aL dN hpos,bU];rfl
 have htz:tz w (ts.getD 0 dN)=zo ((ts.getD 0 dN).neg,(ts.getD 0 dN).abs)*w.getD (ts.getD 0 dN).var.toNat 0:=rfl;obtain⟨y,hy⟩: ∃y,y=ts.getD 0 dN:=⟨_,rfl⟩;rw[<-hy]at e1 t1 t2 t3 t4 t5 r1 r2 htz;clear hy;obtain⟨b,v,n,a⟩:=y;simp only at t1 t2 t3 t4 t5 r1 htz;have hx:=N3 (x:=zo (n,a)) (y:=w.getD v.toNat 0) (by rw[vU];simp only[cr,bc]at t3;exact wN t3.1) t4 t5
 have e2:=getD_map Zp w 0 (i:=v.toNat) oO;have ez:Z (zo (n,a))= .agg [.b n, .s a]:=congrArg ca (yt t3);rw[ez,<-htz]at hx;clear t3 t4 t5 ez htz;generalize tz w ⟨b,v,n,a⟩=z at*;generalize w.getD v.toNat 0=wv at*;simp only[dx.pv]at e1;simp only[Zp,ca,iB]at e2;refine gR (aN @l4 (aN @l5 (aN @e1 @e2))) @hx ?_;have hB:=aaQ;have hZ:=abd w;refine ah (α:=Nat) (fun j=>ts.length-(j+1)) (fun j=>⟨[(1, .p 0 0 0),(6, .rs 1035 j 0 (j+1) 1),(7, .rs 1039 j 0 (j+1) 2),(13, .v (.sl (ts.map dx.pv))),(14,E' ts.length),(15,E' (j+1))],[(0,⟨0,[.v (.sl (w.map Zp))],false,none⟩),(1035,⟨j,aP (fun t:dx=>PV.s t.base) (ts.take (j+1)),true,some 22⟩),(1039,⟨j,aP (fun t=>Zp (tz w t)) (ts.take (j+1)),true,some 77⟩)],1044⟩) (fun j=>j+1<=ts.length) 0 (fun _=>cd rfl) hpos ?_ ?_
 ·rw[eX,r1,r2,List.take_zero,show aP (fun t:dx=>PV.s t.base) []=[]from rfl,show aP (fun t=>Zp (tz w t)) []=[]from rfl]
  exact lE
 ·clear e1 e2 hx r1 r2 t1 t2;intro j hj R hR;have hj1:(ts.take (j+1)).length=j+1:=by rw[bQ];omega
  have q1:=bT hB (ts.take (j+1));have q2:=cf hB (ts.take (j+1));have q5:=bT hZ (ts.take (j+1));have q6:=cf hZ (ts.take (j+1));rw[hj1]at q1 q2 q5 q6;rw[dr]at q1 q2
  by_cases hlt:j+1<ts.length
  ·have hgo:=hR (j+1) oO oO;clear hR;have e1:=getD_map dx.pv ts dN hlt;obtain⟨t1,t2,t3,t4,t5⟩:=hw _ (ai dN hlt);have r1:aP (fun t:dx=>PV.s t.base) (ts.take ((j+1)+1))=aP (fun t:dx=>PV.s t.base) (ts.take (j+1))++[.v (.s (ts.getD (j+1) dN).base)]:=by rw[aL dN hlt,bU];rfl
   have r2:aP (fun t=>Zp (tz w t)) (ts.take ((j+1)+1))=aP (fun t=>Zp (tz w t)) (ts.take (j+1))++[.v (.b (zs (tz w (ts.getD (j+1) dN)))), .v (.s (zb (tz w (ts.getD (j+1) dN))))]:=by rw[aL dN hlt,bU];rfl
   have htz:tz w (ts.getD (j+1) dN)=zo ((ts.getD (j+1) dN).neg,(ts.getD (j+1) dN).abs)*w.getD (ts.getD (j+1) dN).var.toNat 0:=rfl;obtain⟨y,hy⟩: ∃y,y=ts.getD (j+1) dN:=⟨_,rfl⟩;rw[<-hy]at e1 t1 t2 t3 t4 t5 r1 r2 htz;clear hy;obtain⟨b,v,n,a⟩:=y;simp only at t1 t2 t3 t4 t5 r1 htz;have hx:=N3 (x:=zo (n,a)) (y:=w.getD v.toNat 0) (by rw[vU];simp only[cr,bc]at t3;exact wN t3.1) t4 t5
   have e2:=getD_map Zp w 0 (i:=v.toNat) oO;have ez:Z (zo (n,a))= .agg [.b n, .s a]:=congrArg ca (yt t3);rw[ez,<-htz]at hx;clear t3 t4 t5 ez htz;generalize tz w ⟨b,v,n,a⟩=z at*;generalize w.getD v.toNat 0=wv at*;simp only[dx.pv]at e1;simp only[Zp,ca,iB]at e2;rw[r1,r2]at hgo;refine gR (aN @l4 (aN @l5 (aN @e1 (aN @e2 (aN @q1 (aN @q2 (aN @q5 @q6))))))) @hx ?_;refine hgo _ ?_
   (refine AS.Le.of (by first|decide|omega) ?_ ?_<;>simp[cU,cT,aO,az,AV.bd,AV.bd.bdL,u8,aj,ak,an])
   all_goals (refine⟨?_,?_⟩<;>(intro c hc;rcases hc with h|h<;>first|exact bj h|(rcases h with rfl|rfl<;>rfl)|(subst h;rfl)))
  ·obtain hjv:j+1=ts.length:=oO;rw[hjv,bm]at q1 q2 q5 q6;rw[hjv,bm];have q3:=dI hB ts;have q4:chunk 1 ts.length (ts.flatMap fun x=>[PV.s x.base])=ts.map fun t=> .s t.base:=cK hB ts
   have q7:=dI hZ ts;have q8:chunk 2 ts.length (ts.flatMap fun x=>(Zp (tz w x)).cells)=ts.map fun t=>Zp (tz w t):=cK hZ ts
   repeat' first|simp only[go_sem,seval,true_or,or_true,false_or,or_false,ar,gX,ey,gM,fp,fH,eA,nT,om,fO,gS,dE,aK,AV.aR,AV.aR.renL,aG,l4,q1,q2,q3,q4,q5,q6,q7,q8,dj]|refine oE ?_|apply xX<;>intro hc
   all_goals first|rfl|trivial|skip
noncomputable def L5 (gs:List (Bytes×Bytes)) (w:List Int) (q:bZ):Nat:=Q2 (num (gs.getD q.ig.toNat dL).1) (q.terms.map fun t=>(num t.base,iB (tz w t)))
noncomputable def wE (s:aT) (w:List Int):List Bytes:=s.eqs.map fun q=>b7 (L5 s.groups w q)
theorem yr (s:aT) (w:List Int):(wE s w).length=s.eqs.length:=au ..
theorem PT {l:List Bytes} (h:i<l.length):aP PV.s (l.take (i+1))=aP PV.s (l.take i)++[.v (.s (l.getD i []))]:=by
 rw[aL [] h,bU];rfl
theorem U5 {m:Bytes} (lm:m.length<=8) {o:Bytes} (lo:o.length<=8) (hE:gE m o=0) {ts:List dx} {w:List Int} (hn:ts.length<1000000) (hg: ∀t∈ts,nU m o t.base=true) (hw:WB ts w):aH 275 [G m o, .sl (ts.map fun t=> .s t.base), .sl (ts.map fun t=>Zp (tz w t))] (.tup [N (Q2 (num m) (ts.map fun t=>(num t.base,iB (tz w t)))),E 0]):=by
 have h:=SI lm lo hE (xs:=ts.map fun t=>num t.base) (es:=ts.map fun t=>iB (tz w t)) (fun x hx=>by
  obtain⟨t,ht,rfl⟩:=cx.1 hx;exact((dH hE).1 (hg t ht)).2) (fun e he=>by
  obtain⟨t,ht,rfl⟩:=cx.1 he;obtain⟨-,-,-,h4,h5⟩:=hw t ht;exact tC (by rw[tz,mZ];exact h5)) (by simp) (by simpa using hn)
 rw[List.zip_map',iK,iK]at h;rw[show(ts.map fun t=>PV.s t.base)=ts.map (fY∘fun t=>num t.base)from mW fun t ht=>(fA (fP hE (hg t ht))).symm]
 exact h
theorem Jn {s:aT} (hs:xq s) {w:List Int} (hw: ∀q∈s.eqs,WB q.terms w):aH 195 [s.pv, .sl (w.map Zp)] (.tup [.sl ((wE s w).map .s),E 0]):=by
 obtain⟨L,hLd⟩: ∃L,L=wE s w:=⟨_,rfl⟩;have hI:=fun i (h:i<s.eqs.length)=>(show L.getD i []=b7 (L5 s.groups w (s.eqs.getD i dU)) by rw[hLd,wE];simp[bu,h])
 have hL:L.length=s.eqs.length:=by rw[hLd,yr]
 rw[<-hLd];clear hLd;obtain⟨gs,vs,es⟩:=s;obtain⟨-,hg,hv,hq,ng,nv,ne,-⟩:=hs;simp only at hg hv hq ng nv ne hw hI hL;have l1:(gs.map cz).length=gs.length:=au ..;have l3:(es.map bZ.pv).length=es.length:=au ..;unfold aT.pv;simp only
 by_cases h0:es=[]
 ·subst h0;obtain rfl:L=[]:=dt.1 hL;simp only[cb];refine eW call195 func195 ?_;exact Uu
 have hpos:0<es.length:=gF.2 h0;refine eW call195 func195 ?_;refine dh @l3 ?_;refine aq ?_;have e1:=getD_map bZ.pv es dU hpos;obtain⟨q1,q2,q3,q4,q5⟩:=hq _ (ai dU hpos);have kw:=hw _ (ai dU hpos);have r1:=PT (l:=L) (i:=0) (by rw[hL];exact hpos)
 have r2:=hI 0 hpos;obtain⟨x,hx⟩: ∃x,x=es.getD 0 dU:=⟨_,rfl⟩;rw[<-hx]at e1 q1 q2 q3 q4 q5 kw r2;clear hx;obtain⟨gr,tg,ts⟩:=x;simp only at q1 q2 q3 q4 q5 kw;have hgl:gr.toNat<gs.length:=oO;have kg:=hg _ (ai dL hgl);have e3:=getD_map cz gs dL hgl;simp only[L5]at r2;obtain⟨z,hz⟩: ∃z,z=gs.getD gr.toNat dL:=⟨_,rfl⟩;rw[<-hz]at q5 kg e3 r2;clear hz q3;obtain⟨m,o⟩:=z;simp only at q5 kg r2;have hcl:=fun nm=>Fs 1001 nm gr tg (ts:=ts) (w:=w) oO kw
 have xe:=U5 kg.2.1 kg.2.2 kg.1 (ts:=ts) (w:=w) oO (fun t ht=>(q5 t ht).2.2.1) kw
 have xe:aH 275 [G m o, .sl (ts.map fun t=> .s t.base), .sl (ts.map fun t=>Zp (tz w t))] (.tup [.s (L.getD 0 []),E 0]):=by rw[r2];exact xe
 clear r2 kw kg q5;simp only[cz]at e3;simp only[bZ.pv]at e1 hcl;repeat' first|simp only[go_sem,seval,l1,l3,e1,e3,aW]|(refine bK (hcl _) (by simp[az]) ?_)|refine cP xe ?_|refine oE ?_|apply xX<;>intro hc
 have hM:cH PV.s 1:=cH.s;refine ah (α:=Nat) (fun j=>es.length-(j+1)) (fun j=>⟨[(2, .p 1000 0 0),(6, .fn (.func 279) [] [.p 1001 0 0]),(7, .rs 1047 j 0 (j+1) 1),(16, .v (.sl (es.map bZ.pv))),(17,E' es.length),(18,E' (j+1))],[(1000,⟨0,[.v (.sl (gs.map cz)), .v (.sl (vs.map bO)), .v (.sl (es.map bZ.pv))],false,none⟩),(1001,⟨0,[.v (.sl (w.map Zp))],false,none⟩),(1047,⟨j,aP PV.s (L.take (j+1)),true,some 22⟩)],1051⟩) (fun j=>j+1<=es.length) 0 (fun _=>cd rfl) hpos ?_ ?_
 ·rw[eX,r1,List.take_zero,show aP PV.s ([]:List Bytes)=[]from rfl]
  exact lE
 ·clear e1 e3 q1 q2 q4 xe hcl r1;intro i hi R hR;have hj1:(L.take (i+1)).length=i+1:=by rw[bQ];omega
  have p1:=bT hM (L.take (i+1));have p2:=cf hM (L.take (i+1));rw[hj1,dr]at p1 p2
  by_cases hlt:i+1<es.length
  ·have hgo:=hR (i+1) oO oO;clear hR;have e1:=getD_map bZ.pv es dU hlt;obtain⟨q1,q2,q3,q4,q5⟩:=hq _ (ai dU hlt);have kw:=hw _ (ai dU hlt);have r1:=PT (l:=L) (i:=(i+1)) (by rw[hL];exact hlt)
   have r2:=hI (i+1) hlt;obtain⟨x,hx⟩: ∃x,x=es.getD (i+1) dU:=⟨_,rfl⟩;rw[<-hx]at e1 q1 q2 q3 q4 q5 kw r2;clear hx;obtain⟨gr,tg,ts⟩:=x;simp only at q1 q2 q3 q4 q5 kw;have hgl:gr.toNat<gs.length:=oO;have kg:=hg _ (ai dL hgl);have e3:=getD_map cz gs dL hgl;simp only[L5]at r2;obtain⟨z,hz⟩: ∃z,z=gs.getD gr.toNat dL:=⟨_,rfl⟩;rw[<-hz]at q5 kg e3 r2;clear hz q3;obtain⟨m,o⟩:=z;simp only at q5 kg r2;have hcl:=fun nm=>Fs 1001 nm gr tg (ts:=ts) (w:=w) oO kw
   have xe:=U5 kg.2.1 kg.2.2 kg.1 (ts:=ts) (w:=w) oO (fun t ht=>(q5 t ht).2.2.1) kw
   have xe:aH 275 [G m o, .sl (ts.map fun t=> .s t.base), .sl (ts.map fun t=>Zp (tz w t))] (.tup [.s (L.getD (i+1) []),E 0]):=by rw[r2];exact xe
   clear r2 kw kg q5;simp only[cz]at e3;simp only[bZ.pv]at e1 hcl;rw[r1]at hgo;repeat' first|simp only[go_sem,seval,l1,l3,e1,e3,aW,p1,p2]|(refine bK (hcl _) (by simp[az]) ?_)|refine cP xe ?_|refine oE ?_|apply xX<;>intro hc
   refine hgo _ ?_
   (refine AS.Le.of (by first|decide|omega) ?_ ?_<;>simp[cU,cT,aO,az,AV.bd,AV.bd.bdL,u8,aj,ak,an])
   all_goals (intro c hc;rcases hc with h|h<;>first|exact bj h|(subst h;rfl))
  ·obtain hjv:i+1=es.length:=oO;rw[hjv]at p1 p2;have hLt:L.take es.length=L:=cQ oO;rw[hLt]at p1 p2;rw[hjv,hLt];have p3:=dI hM L;have p4:=cK hM L;rw[hL]at p4;repeat' first|simp only[go_sem,seval,l3,p1,p2,p3,p4,dj]|refine oE ?_|apply xX<;>intro hc
   all_goals exact congrArg (fun l=>PV.tup [PV.sl l,E 0]) p4
theorem S6 (x:Bool×Bytes):aH 277 [ca x] (.b (!cr x)):=by
 obtain⟨n,a⟩:=x;have hv:=gY n a;rw[show(ae a&& !(n&&a==[]))=cr (n,a)from rfl]at hv
 generalize cr (n,a)=b at*;simp only[ca];refine eW call277 func277 ?_;exact z1 @hv
