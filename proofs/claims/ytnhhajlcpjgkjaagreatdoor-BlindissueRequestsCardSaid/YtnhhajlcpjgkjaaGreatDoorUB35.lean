/- Part of the proof. -/
import Derived.Test.YtnhhajlcpjgkjaaGreatDoorUB34
import Derived.Test.YtnhhajlcpjgkjaaGreatDoorUB32
set_option linter.all false
set_option maxHeartbeats 16000000
set_option maxRecDepth 100000
namespace Go.Proofs.Tryz
open Go Go.Dom Go.Num
variable {c o sl:Bytes} {es:List (Bool×Bytes)} {i x:Nat} {xs:List Nat}
def eX (l:List Nat):List AV:=l.map fun x=> .v (N x)
theorem sO (l:List Nat):(eX l).length=l.length:=by simp[eX]
theorem Hr (n:Nat):(List.replicate n [AV.v (.s [])]).flatten=eX (List.replicate n 0):=by
 unfold eX
 induction n with
 |zero=>rfl
 |succ n ih=>rw[List.replicate_succ,List.flatten_cons,ih];rfl
theorem Hq {l:List Nat} (h:i<l.length):(eX l).getD i .u= .v (N (l.getD i 0)):=by
 simp[eX,b9,h]
theorem Hs {l:List Nat} {o:Nat}:(eX l).set o (.v (N x))=eX (l.set o x):=by
 simp[eX,yi]
theorem zP {l:List Nat} {o:Nat} (h:o<l.length):(eX l).take o++[.v (N x)]++(eX l).drop (o+1)=eX (l.set o x):=by
 rw[<-Hs,yp,ah (by rw[sO];exact h)];simp
theorem wR {l:List Nat} {c:AV} {n:Nat} (h:c∈eX l):c.bd n=true:=by
 obtain⟨x,-,rfl⟩:=cE.1 h;rfl
def GK (x:Nat):PV:=N x
theorem Vz (xs:List Nat) (h:i<xs.length):(xs.map GK).getD i .fn0=N (xs.getD i 0):=getD_map GK xs 0 h
theorem RH {m:Bytes} (lm:m.length<=8) (lo:o.length<=8) (hE:gE m o=0) (hx: ∀x∈xs,GP m o x) (he: ∀e∈es,cg e=true) (n1:xs.length<1000000) (n2:es.length<1000000):aE 93 [G m o, .sl (xs.map GK), .sl (es.map cI), .b true] (E 0):=by
 have l1:(xs.map GK).length=xs.length:=aG ..;have l2:(es.map cI).length=es.length:=aG ..;have c3:=oI lm lo;rw[hE]at c3;have hn:=dS lm;refine eW call93 func93 ?_;refine dH @l1 ?_;refine ak (α:=Nat) (fun i=>xs.length-i) (fun i=>⟨[(1, .v (.sl (xs.map GK))),(2, .v (.sl (es.map cI))),(3, .v (.b true)),(4, .p 1000 0 0),(16, .v (.sl (xs.map GK))),(17,E' xs.length),(18,E' i)],[(1000,⟨0,[.v (.s m), .v (.s o)],false,none⟩)],_⟩) (fun i=>i<=xs.length) 0 (fun _=>aD _) (aO _) ?_ ?_
 ·exact lE
 ·intro i hi R hR
  by_cases hlt:i<xs.length
  ·have e1:=Vz xs hlt;have k:=hx _ (au 0 hlt);have hgo:=hR (i+1) oO oO;have c1:=aI (bQ (xs.getD i 0));rw[vN (show xs.getD i 0<(2^64) by have:=k.lt;omega)]at c1
   clear hR k;generalize xs.getD i 0=x at*;exact js (aN @l1 @e1) @hgo @c1
  ·obtain rfl:i=xs.length:=oO;clear hR;refine dH (aN @l1 @l2) ?_;refine ak (α:=Nat) (fun i=>es.length-i) (fun i=>⟨[(1, .v (.sl (xs.map GK))),(3, .v (.b true)),(4, .p 1000 0 0),(26, .v (.sl (es.map cI))),(27,E' es.length),(28,E' i)],[(1000,⟨0,[.v (.s m), .v (.s o)],false,none⟩)],_⟩) (fun i=>i<=es.length) 0 (fun _=>aD _) (aO _) ?_ ?_
   ·exact lE
   ·intro i hi R hR
    by_cases hlt:i<es.length
    ·have e1:=getD_map cI es fm hlt;have k:=he _ (au fm hlt);have hgo:=hR (i+1) oO oO;obtain⟨x,hxx⟩: ∃x,x=es.getD i fm:=⟨_,rfl⟩;rw[<-hxx]at e1 k;clear hR hxx;obtain⟨n,a⟩:=x;have c2:=il n a;rw[show(aa a&& !(n&&a==[]))=true from k]at c2
     simp only[cI]at e1;exact js (aN @l2 @e1) @hgo @c2
    ·obtain rfl:i=es.length:=oO;clear hR;refine m9 (aN @l1 @l2) @c3 ?_;refine ak (α:=Nat) (fun i=>xs.length-i) (fun i=>⟨[(4, .p 1000 0 0),(43, .v (.sl (xs.map GK))),(44,E' xs.length),(45,E' i)],[(1000,⟨0,[.v (.s m), .v (.s o)],false,none⟩)],_⟩) (fun i=>i<=xs.length) 0 (fun _=>aD _) (aO _) ?_ ?_
     ·exact lE
     ·intro i hi R hR
      by_cases hlt:i<xs.length
      ·have e1:=Vz xs hlt;have k:=hx _ (au 0 hlt);have hgo:=hR (i+1) oO oO;have c4:=tT lm o (bQ (xs.getD i 0));rw[k.has hE lm]at c4;clear hR k;generalize xs.getD i 0=x at*;exact js (aN @l1 @e1) @hgo @c4
      ·obtain rfl:i=xs.length:=oO;exact fP @l1
theorem Vi {e:Bytes} (he:aa e=true):cW (num e)<1000000:=by
 have h1:num e<2^1024:=by
  refine br (cF e) ?_;have le:e.length<=128:=by simp[aa]at he;exact he.1
  exact gj (cQ oC le) (by decide+kernel)
 unfold cW;split
 ·decide
 ·rename_i h;have:=(yr h).2 h1;omega
theorem P6 (M:Nat) (hl:es.length=xs.length):((xs.zip es).map fun p=>(MI M p.1 p.2,num p.2.2)).length=xs.length/\ ∀i,i<xs.length->((xs.zip es).map fun p=>(MI M p.1 p.2,num p.2.2)).getD i (0,0)=(MI M (xs.getD i 0) (es.getD i fm),num (es.getD i fm).2):=by
 constructor
 ·simp;omega
 ·intro i hi;have h2:i<es.length:=oO;have e:(xs.zip es)[i]?=some (xs[i],es[i]):=List.getElem?_zip_eq_some.2 ⟨cb hi,cb h2⟩;rw[b9,ib,e,b9,cb hi,b9,cb h2];rfl
theorem ME (n:Nat):n<2^cW n:=by
 unfold cW;split
 ·rename_i h;subst h;decide
 ·exact uG
theorem tS {m:Bytes} (lm:m.length<=8) (lo:o.length<=8) (hE:gE m o=0) (hx: ∀x∈xs,GP m o x) (he: ∀e∈es,cg e=true) (hl:es.length=xs.length) (n1:xs.length<1000000):aE 39 [G m o, .sl (xs.map GK), .sl (es.map cI)] (.tup [N (wc (num m) (xs.zip es)),E 0]):=by
 have l1:(xs.map GK).length=xs.length:=aG ..;have l2:(es.map cI).length=xs.length:=by rw[aG];exact hl
 have hch:=RH lm lo hE hx he n1 oO;obtain⟨vm,vo,m1,-,-⟩:=lO hE;have hn:=dS lm;obtain⟨zl,zg⟩:=P6 (num m) hl;unfold wc;generalize hpr:((xs.zip es).map fun p=>(MI (num m) p.1 p.2,num p.2.2))=pr at*
 clear hpr;obtain⟨M,hM⟩: ∃M,M=num m:=⟨_,rfl⟩;have eG:G m o= .agg [N M, .s o]:=by rw[hM,show N (num m)= .s m from congrArg PV.s (fk vm)]
 rw[eG]at hch⊢;have hxM: ∀i,i<xs.length->xs.getD i 0<M/\Nat.gcd (xs.getD i 0) M=1/\(pr.getD i (0,0)).1<M:=fun i hi=>by
  have k:=hx _ (au 0 hi);refine⟨by rw[hM];exact k.lt,by rw[hM];exact k.TC,?_⟩
  rw[zg i hi,hM];unfold MI;split
  ·exact k.unit.inv.1
  ·exact k.lt
 rw[<-hM]at hn m1 zg⊢;clear hx hM eG lm lo hE vm vo;have hM1:1%M=1:=bE oO;have hN:(eX (List.replicate xs.length 0)).length=xs.length:=by simp[eX]
 refine eW call39 func39 ?_;repeat' first|simp only[go_sem,seval,l1,l2,Hr,hN,dQ,dt]|refine cP hch ?_|refine oE ?_|apply xX<;>intro hc
 refine ak (α:=Nat×List Nat×Nat) (fun s=>xs.length-s.1) (fun s=>⟨[(1, .v (.sl (xs.map GK))),(2, .v (.sl (es.map cI))),(3, .p 1000 0 0),(9, .rs 1017 0 0 xs.length 1),(10,E' s.2.2),(35, .v (.sl (xs.map GK))),(36,E' xs.length),(37,E' s.1)],[(1000,⟨0,[.v (N M), .v (.s o)],false,none⟩),(1017,⟨0,eX s.2.1,false,none⟩)],_⟩) (fun s=>s.1<=xs.length/\s.2.1.length=xs.length/\s.2.2<1000000/\ ∀j,j<s.1->s.2.1.getD j 0=(pr.getD j (0,0)).1/\(pr.getD j (0,0)).2<2^s.2.2) (0,List.replicate xs.length 0,0) (fun _=>aD _) ⟨aO _,by simp,(by decide:0<1000000),fun j hj=>aP hj (rL _)⟩ ?_ ?_
 ·refine lG ?_;exact fun c hc=>wR hc
 ·rintro⟨i,l,k⟩ ⟨hi,hll,hk,hj⟩ R hR;simp only at hi hll hk hj;have ll:(eX l).length=xs.length:=by rw[sO];exact hll
  by_cases hlt:i<xs.length
  ·have e1:=Vz xs hlt;have e2:=getD_map cI es fm (i:=i) oO;have ke:=he _ (au fm (show i<es.length by omega))
   obtain⟨x1,x2,x3⟩:=hxM i hlt;have zi:=zg i hlt;obtain⟨x,hxx⟩: ∃x,x=xs.getD i 0:=⟨_,rfl⟩;obtain⟨e,hee⟩: ∃e,e=es.getD i fm:=⟨_,rfl⟩;rw[<-hxx]at e1 x1 x2 zi;rw[<-hee]at e2 ke zi;clear hxx hee;obtain⟨n,a⟩:=e;simp only[cg,aZ]at ke;have hbt:=xG ke.1;have hbe:=Vi ke.1;have hmx: ∀ _:True,(if(cW (num a):Int)>(k:Int)then(cW (num a):Int)else(k:Int))=((max k (cW (num a)):Nat):Int):=fun _=>by split<;>omega
   have hinv:=sr (a:=x) (m:=M) oO hn oO x2;have hgo:=fun y (hy:y=(pr.getD i (0,0)).1)=>hR (i+1,l.set i y,max k (cW (num a))) ⟨by show i+1<= _;omega,by simp[hll],by show max k _< _;omega,fun j hj2=>by
    by_cases hji:j=i
    ·subst hji;refine⟨by simp[b9,hll,hlt,hy],?_⟩
     rw[zi];exact br (ME _) (cQ oC (Nat.le_max_right _ _))
    ·obtain⟨h1,h2⟩:=hj j (by simp only at hj2;omega)
     refine⟨?_,br h2 (cQ oC (Nat.le_max_left _ _))⟩;rw[<-h1];simp[b9,List.getElem?_set,kQ hji]⟩ (by show xs.length-(i+1)<xs.length-i;omega)
   rw[zi]at hgo;simp only[cI]at e2;clear hR hj hch zg hxM he;have p1: ∀y,List.take i (eX l)++[AV.v (.s (bQ y))]++List.drop (i+1) (eX l)=eX (l.set i y):=fun y=>zP oO
   have p2: ∀x y,List.take i (eX (l.set i x))++[AV.v (.s (bQ y))]++List.drop (i+1) (eX (l.set i x))=eX (l.set i y):=fun x y=>by rw[zP (by rw[lh];omega),yu]
   have p3: ∀y,(eX (l.set i y)).length=xs.length:=fun y=>by rw[sO,lh,hll]
   cases n
   ·have hgo:=hgo x (by simp[MI])
    refine iy (aN @l1 (aN @l2 (aN @ll (aN @e1 (aN @e2 (aN @p1 (aN @p3 (hmx oT)))))))) @hbt ?_;refine hgo _ ?_;refine lG ?_;exact fun c hc=>wR hc
   ·have hgo:=hgo (gV x M) (by simp[MI])
    refine tu (aN @l1 (aN @l2 (aN @ll (aN @e1 (aN @e2 (aN @p1 (aN @p2 (aN @p3 (hmx oT))))))))) @hbt @hinv ?_;refine hgo _ ?_;refine lG ?_;exact fun c hc=>wR hc
  ·obtain rfl:i=xs.length:=oO;have hlp:l=pr.map (·.1):=by
    refine rG (by simp[hll,zl]) fun j h1 h2=> ?_
    have:=(hj j oO).1;rw[b9,cb h1,b9,cb (by omega:j<pr.length)]at this
    simpa using this
   have htop:pp pr k=1:=Wo fun p hp=>by
    obtain⟨j,hj2,rfl⟩:=ia hp;have:=(hj j oO).2;rw[b9,cb hj2]at this;exact this
   have h0:pp pr 0%M=pp pr 0%M:=rfl;have hw1: ∀ _:True,IntKind.i64.wrap ((k:Int)-1)=(k:Int)-1:=fun _=>IntWalk.i64_in _ oO
   clear hR hj;refine iy (aN (hw1 oT) @dQ) @yN ?_;rw[hlp]at ll;have hbit:=fun j (hj:j<xs.length)=>yE (a:=(es.getD j fm).2) (by have:=he _ (au fm (show j<es.length by omega));simp only[cg,aZ]at this;exact this.1)
   have hyg: ∀j,j<xs.length->(eX (pr.map (·.1))).getD j .u= .v (N (pr.getD j (0,0)).1):=fun j hj=>by
    rw[Hq (by simpa[zl]using hj)]
    simp[b9,zl,hj]
   subst hlp;obtain⟨n,hn0⟩: ∃n,n=xs.length:=⟨_,rfl⟩;rw[<-hn0]at ll hyg hbit zg zl l1 l2 hi hll n1 hxM hl;clear hch hlt;refine ak (α:=Nat) (fun k=>k) (fun k=>⟨[(2, .v (.sl (es.map cI))),(9, .rs 1017 0 0 n 1),(15, .p 1025 0 0),(16, .fn (.func 96) [] [.p 1025 0 0, .p 1000 0 0]),(17, .v (.i .i64 ((k:Int)-1)))],[(1025,⟨0,[.v (N (pp pr k%M))],false,some 22⟩),(1017,⟨0,eX (pr.map (·.1)),false,none⟩),(1000,⟨0,[.v (N M), .v (.s o)],false,none⟩)],_⟩) (fun j=>j<=k) k (fun _=>aD _) (aD _) ?_ ?_
   ·rw[hn0];refine lG ?_;exact⟨by rw[htop,hM1],fun c hc=>wR hc⟩
   ·intro k' hk' R hR
    cases k' with
    |zero=>
     exact z0
    |succ k'=>
     have hgo:=hR k' oO oO;obtain⟨z,hz⟩: ∃z,z=pp pr (k'+1)%M:=⟨_,rfl⟩;have hzm:z<M:=by rw[hz];exact aQ _ oO
     have e1: ∀ _:True,((k'+1:Nat):Int)-1=(k':Int):=fun _=>oO
     have hge: ∀ _:True,decide ((k':Int)>=0)=true:=fun _=>by simp
     have hwk: ∀ _:True,IntKind.i64.wrap ((k':Int)-1)=(k':Int)-1:=fun _=>IntWalk.i64_in _ oO
     have hstep:pp pr k'%M=(z*z%M)*(pb pr k')%M:=by
      rw[hz,<-cL,jU,Sk]
     rw[<-hz];have hx1:=fun nm=>mF 1025 1000 nm oC o (some 22) none (a:=z) (b:=z) (m:=M) oO oO oO oO
     clear hR;repeat' first|simp only[go_sem,seval,e1 oT,hge oT,gO,gM,qT,ll]|(refine bK (hx1 _) (by simp[aC]) ?_)|refine oE ?_|apply xX<;>intro hc
     refine ak (α:=Nat) (fun j=>n-j) (fun j=>⟨[(2, .v (.sl (es.map cI))),(9, .rs 1017 0 0 n 1),(15, .p 1025 0 0),(16, .fn (.func 96) [] [.p 1025 0 0, .p 1000 0 0]),(17, .v (.i .i64 (k':Int))),(85, .rs 1017 0 0 n 1),(86,E' n),(87,E' j)],[(1025,⟨0,[.v (N ((z*z%M)*pb (pr.take j) k'%M))],false,some 22⟩),(1017,⟨0,eX (pr.map (·.1)),false,none⟩),(1000,⟨0,[.v (N M), .v (.s o)],false,none⟩)],_⟩) (fun j=>j<=n) 0 (fun _=>aD _) (aO _) ?_ ?_
     ·refine lG ?_;exact⟨by simp[pb],fun c hc=>wR hc⟩
     ·intro j hj R' hR'
      by_cases hjn:j<n
      ·have hgo':=hR' (j+1) oO oO;have e2:=getD_map cI es fm (i:=j) oO;have hb:=hbit j hjn k' oO;have hy:=hyg j hjn;obtain⟨-,-,hym⟩:=hxM j hjn;have zj:=zg j hjn;rw[aL (0,0) oO,Si]at hgo';have hdec:(num (es.getD j fm).2).testBit k'=decide ((pr.getD j (0,0)).2/2^k'%2=1):=by rw[zj];exact lf
       rw[hdec]at hb;clear zj hdec;generalize pr.getD j (0,0)=p at*;obtain⟨y,q⟩:=p;simp only at hym hb hy hgo';obtain⟨e,hee⟩: ∃e,e=es.getD j fm:=⟨_,rfl⟩;rw[<-hee]at e2 hb;obtain⟨en,ea⟩:=e;simp only[cI]at e2;obtain⟨v,hv⟩: ∃v,v=z*z%M*pb (pr.take j) k'%M:=⟨_,rfl⟩;have hvm:v<M:=by rw[hv];exact aQ _ oO
       rw[<-cK,cL,<-hv]at hgo';rw[<-hv];have hx2:=fun nm=>mF 1025 1000 nm oC o (some 22) none (a:=v) (b:=y) (m:=M) oO oO oO oO
       clear hR' hx1 hbit hyg hxM zg
       by_cases hq:q/2^k'%2=1
       ·rw[aU hq]at hb;rw[hq,Nat.pow_one,bE hym]at hgo';repeat' first|simp only[go_sem,seval,l2,ll,e2,hy]|refine cP hb ?_|(refine bK (hx2 _) (by simp[aC]) ?_)|refine oE ?_|apply xX<;>intro hc
        refine hgo' _ ?_;refine lG ?_;exact fun c hc=>wR hc
       ·rw[bu hq]at hb;rw[show q/2^k'%2=0 by omega,Nat.pow_zero,hM1,dG,bE hvm]at hgo'
        refine iy (aN @l2 (aN @ll (aN @e2 @hy))) @hb ?_;refine hgo' _ ?_;refine lG ?_;exact fun c hc=>wR hc
      ·obtain rfl:j=n:=oO;rw[cZ oO,<-hstep];refine eJ (aN @ll (hwk oT)) ?_;refine hgo _ ?_;refine lG ?_;exact fun c hc=>wR hc
def uY (x:Bool×Bytes):Int:=if x.1 then-(num x.2:Int)else num x.2
theorem pR (x:Bool×Bytes):(uY x).natAbs=num x.2:=by unfold uY;split<;>omega
theorem ri {x:Bool×Bytes} (h:cg x=true):fQ (uY x)=x:=by
 obtain⟨n,a⟩:=x;simp only[cg,aZ,ey]at h;have hz:=uh h.1;have hb:bQ (num a)=a:=fk h.1;cases n
 ·simp[fQ,uY,zs,zb,hb]
 ·have:a≠[]:=by simpa using h.2
  have hp:num a≠0:=fun e=>this (hz.1 e)
  simp[fQ,uY,zs,zb,hb];omega
theorem og {z:Int} (h:z.natAbs<da):cg (fQ z)=true:=Xo h
theorem zRw:cU Zp 2:=⟨fun _=>rfl,fun x y hy=>by simp[Zp,cI,fQ,PV.cells]at hy;rcases hy with rfl|rfl<;>rfl,fun h=>oO,fun _ x=>rfl⟩
def tz (w:List Int) (t:dM):Int:=uY (t.neg,t.abs)*w.getD t.var.toNat 0
def WB (ts:List dM) (w:List Int):Prop:= ∀t∈ts,0<=t.var/\t.var<w.length/\cg (t.neg,t.abs)=true/\(w.getD t.var.toNat 0).natAbs<da/\(uY (t.neg,t.abs)).natAbs*(w.getD t.var.toNat 0).natAbs<da
theorem T6:cU (fun t:dM=>PV.s t.base) 1:=⟨fun _=>rfl,fun _ y hy=>by cases fz.1 hy;rfl,fun _ _=>rfl,fun h=>aP rfl h⟩
theorem Ua (w:List Int):cU (fun t=>Zp (tz w t)) 2:=⟨fun x=>zRw.len _,fun x y hy=>zRw.one _ y hy,fun h=>oO,fun _ x=>rfl⟩
theorem E4 (n nm:Nat) (g:Int) (tg:Bytes) {ts:List dM} {w:List Int} (hn:ts.length<1000000) (hw:WB ts w):j4 prog 427 nm [(n,⟨0,[.v (.sl (w.map Zp))],false,none⟩)] [.v (c9.pv ⟨g,tg,ts⟩), .p n 0 0] (.tup [.v (.sl (ts.map fun t=> .s t.base)), .v (.sl (ts.map fun t=>Zp (tz w t))), .v (E 0)]) []:=by
 have l4:(ts.map dM.pv).length=ts.length:=aG ..;have l5:(w.map Zp).length=w.length:=aG ..
 by_cases h0:ts=[]
 ·subst h0;simp only[c9.pv,ca];refine j4.w mixed call427 func427 rfl (ka.1 _ _ _ (by cbv)) (ka.2 _ _ (by cbv)) (obs:=[⟨0,[.v (.sl (w.map Zp))],false,none⟩]) (args:=[.v (.agg [.i .i64 g, .s tg, .sl []]), .p 0 0 0]) (fs:=[none]) (j:=none) (nw:=none) (v:= .tup [.v (.sl []), .v (.sl []), .v (E 0)]) (ns:=[n]) (obsA:=[⟨0,[.v (.sl (w.map Zp))],false,none⟩]) rfl ?_ (by simp) (by simp) rfl (by simp[bc,aJ.aX,AV.aX,AV.aX.renL]) (by simp[bc,AV.aX,dz]) (by simp[AV.aX,AV.aX.renL]) (by simp[fL,outs,aJ.aX,AV.aX,AV.aX.renL])
  simp only[go_sem,seval];repeat' first|simp only[go_sem,seval,true_or,or_true,false_or,or_false,aq,iQ,ff,ix,fF,gp,e7,pU,qj,gT,iC,dW,aR,AV.aX,AV.aX.renL,aM]|(refine aj ?_)|refine oE ?_|apply xX<;>intro hc
  all_goals first|rfl|trivial|skip
 have hpos:0<ts.length:=je.2 h0;simp only[c9.pv];refine j4.w mixed call427 func427 rfl (ka.1 _ _ _ (by cbv)) (ka.2 _ _ (by cbv)) (obs:=[⟨0,[.v (.sl (w.map Zp))],false,none⟩]) (args:=[.v (.agg [.i .i64 g, .s tg, .sl (ts.map dM.pv)]), .p 0 0 0]) (fs:=[none]) (j:=none) (nw:=none) (v:= .tup [.v (.sl (ts.map fun t=> .s t.base)), .v (.sl (ts.map fun t=>Zp (tz w t))), .v (E 0)]) (ns:=[n]) (obsA:=[⟨0,[.v (.sl (w.map Zp))],false,none⟩]) rfl ?_ (by simp) (by simp) rfl (by simp[bc,aJ.aX,AV.aX,AV.aX.renL]) (by simp[bc,AV.aX,dz]) (by simp[AV.aX,AV.aX.renL]) (by simp[fL,outs,aJ.aX,AV.aX,AV.aX.renL])
 simp only[go_sem,seval];refine dH @l4 ?_;refine aj ?_;have e1:=getD_map dM.pv ts dE hpos;obtain⟨t1,t2,t3,t4,t5⟩:=hw _ (au dE hpos);have r1:aT (fun t:dM=>PV.s t.base) (ts.take (0+1))=aT (fun t:dM=>PV.s t.base) (ts.take 0)++[.v (.s (ts.getD 0 dE).base)]:=by rw[aL dE hpos,bT];rfl
 have r2:aT (fun t=>Zp (tz w t)) (ts.take (0+1))=aT (fun t=>Zp (tz w t)) (ts.take 0)++[.v (.b (zs (tz w (ts.getD 0 dE)))), .v (.s (zb (tz w (ts.getD 0 dE))))]:=by rw[aL dE hpos,bT];rfl
 have htz:tz w (ts.getD 0 dE)=uY ((ts.getD 0 dE).neg,(ts.getD 0 dE).abs)*w.getD (ts.getD 0 dE).var.toNat 0:=rfl;obtain⟨y,hy⟩: ∃y,y=ts.getD 0 dE:=⟨_,rfl⟩;rw[<-hy]at e1 t1 t2 t3 t4 t5 r1 r2 htz;clear hy;obtain⟨b,v,n,a⟩:=y;simp only at t1 t2 t3 t4 t5 r1 htz;have hx:=NF (x:=uY (n,a)) (y:=w.getD v.toNat 0) (by rw[pR];simp only[cg,aZ]at t3;exact jL t3.1) t4 t5
 have e2:=getD_map Zp w 0 (i:=v.toNat) oO;have ez:Z (uY (n,a))= .agg [.b n, .s a]:=congrArg cI (ri t3);rw[ez,<-htz]at hx;clear t3 t4 t5 ez htz;generalize tz w ⟨b,v,n,a⟩=z at*;generalize w.getD v.toNat 0=wv at*;simp only[dM.pv]at e1;simp only[Zp,cI,fQ]at e2;refine iy (aN @l4 (aN @l5 (aN @e1 @e2))) @hx ?_;have hB:=T6;have hZ:=Ua w;refine ak (α:=Nat) (fun j=>ts.length-(j+1)) (fun j=>⟨[(1, .p 0 0 0),(6, .rs 1035 j 0 (j+1) 1),(7, .rs 1039 j 0 (j+1) 2),(13, .v (.sl (ts.map dM.pv))),(14,E' ts.length),(15,E' (j+1))],[(0,⟨0,[.v (.sl (w.map Zp))],false,none⟩),(1035,⟨j,aT (fun t:dM=>PV.s t.base) (ts.take (j+1)),true,some 22⟩),(1039,⟨j,aT (fun t=>Zp (tz w t)) (ts.take (j+1)),true,some 94⟩)],1044⟩) (fun j=>j+1<=ts.length) 0 (fun _=>dr rfl) hpos ?_ ?_
 ·rw[ew,r1,r2,List.take_zero,show aT (fun t:dM=>PV.s t.base) []=[]from rfl,show aT (fun t=>Zp (tz w t)) []=[]from rfl]
  exact lE
 ·clear e1 e2 hx r1 r2 t1 t2;intro j hj R hR;have hj1:(ts.take (j+1)).length=j+1:=by rw[cd];omega
  have q1:=cf hB (ts.take (j+1));have q2:=ct hB (ts.take (j+1));have q5:=cf hZ (ts.take (j+1));have q6:=ct hZ (ts.take (j+1));rw[hj1]at q1 q2 q5 q6;rw[dG]at q1 q2
  by_cases hlt:j+1<ts.length
  ·have hgo:=hR (j+1) oO oO;clear hR;have e1:=getD_map dM.pv ts dE hlt;obtain⟨t1,t2,t3,t4,t5⟩:=hw _ (au dE hlt);have r1:aT (fun t:dM=>PV.s t.base) (ts.take ((j+1)+1))=aT (fun t:dM=>PV.s t.base) (ts.take (j+1))++[.v (.s (ts.getD (j+1) dE).base)]:=by rw[aL dE hlt,bT];rfl
   have r2:aT (fun t=>Zp (tz w t)) (ts.take ((j+1)+1))=aT (fun t=>Zp (tz w t)) (ts.take (j+1))++[.v (.b (zs (tz w (ts.getD (j+1) dE)))), .v (.s (zb (tz w (ts.getD (j+1) dE))))]:=by rw[aL dE hlt,bT];rfl
   have htz:tz w (ts.getD (j+1) dE)=uY ((ts.getD (j+1) dE).neg,(ts.getD (j+1) dE).abs)*w.getD (ts.getD (j+1) dE).var.toNat 0:=rfl;obtain⟨y,hy⟩: ∃y,y=ts.getD (j+1) dE:=⟨_,rfl⟩;rw[<-hy]at e1 t1 t2 t3 t4 t5 r1 r2 htz;clear hy;obtain⟨b,v,n,a⟩:=y;simp only at t1 t2 t3 t4 t5 r1 htz;have hx:=NF (x:=uY (n,a)) (y:=w.getD v.toNat 0) (by rw[pR];simp only[cg,aZ]at t3;exact jL t3.1) t4 t5
   have e2:=getD_map Zp w 0 (i:=v.toNat) oO;have ez:Z (uY (n,a))= .agg [.b n, .s a]:=congrArg cI (ri t3);rw[ez,<-htz]at hx;clear t3 t4 t5 ez htz;generalize tz w ⟨b,v,n,a⟩=z at*;generalize w.getD v.toNat 0=wv at*;simp only[dM.pv]at e1;simp only[Zp,cI,fQ]at e2;rw[r1,r2]at hgo;refine iy (aN @l4 (aN @l5 (aN @e1 (aN @e2 (aN @q1 (aN @q2 (aN @q5 @q6))))))) @hx ?_;refine hgo _ ?_
   (refine AS.Le.of (by first|decide|omega) ?_ ?_<;>simp[dw,du,aS,aC,AV.bd,AV.bd.bdL,u8,an,ar,aA])
   all_goals (refine⟨?_,?_⟩<;>(intro c hc;rcases hc with h|h<;>first|exact cv h|(rcases h with rfl|rfl<;>rfl)|(subst h;rfl)))
  ·obtain hjv:j+1=ts.length:=oO;rw[hjv,cl]at q1 q2 q5 q6;rw[hjv,cl];have q3:=dY hB ts;have q4:chunk 1 ts.length (ts.flatMap fun x=>[PV.s x.base])=ts.map fun t=> .s t.base:=de hB ts
   have q7:=dY hZ ts;have q8:chunk 2 ts.length (ts.flatMap fun x=>(Zp (tz w x)).cells)=ts.map fun t=>Zp (tz w t):=de hZ ts
   repeat' first|simp only[go_sem,seval,true_or,or_true,false_or,or_false,aq,iQ,ff,ix,fF,gp,e7,pU,qj,gT,iC,dW,aR,AV.aX,AV.aX.renL,aM,l4,q1,q2,q3,q4,q5,q6,q7,q8,ek]|refine oE ?_|apply xX<;>intro hc
   all_goals first|rfl|trivial|skip
noncomputable def I5 (gs:List (Bytes×Bytes)) (w:List Int) (q:c9):Nat:=wc (num (gs.getD q.lL.toNat eV).1) (q.terms.map fun t=>(num t.base,fQ (tz w t)))
noncomputable def oJ (s:cG) (w:List Int):List Bytes:=s.eqs.map fun q=>bQ (I5 s.groups w q)
theorem rh (s:cG) (w:List Int):(oJ s w).length=s.eqs.length:=aG ..
theorem Dw {l:List Bytes} (h:i<l.length):aT PV.s (l.take (i+1))=aT PV.s (l.take i)++[.v (.s (l.getD i []))]:=by
 rw[aL [] h,bT];rfl
theorem TT {m:Bytes} (lm:m.length<=8) (lo:o.length<=8) (hE:gE m o=0) {ts:List dM} {w:List Int} (hn:ts.length<1000000) (hg: ∀t∈ts,jJ m o t.base=true) (hw:WB ts w):aE 39 [G m o, .sl (ts.map fun t=> .s t.base), .sl (ts.map fun t=>Zp (tz w t))] (.tup [N (wc (num m) (ts.map fun t=>(num t.base,fQ (tz w t)))),E 0]):=by
 have h:=tS lm lo hE (xs:=ts.map fun t=>num t.base) (es:=ts.map fun t=>fQ (tz w t)) (fun x hx=>by
  obtain⟨t,ht,rfl⟩:=cE.1 hx;exact((cJ hE).1 (hg t ht)).2) (fun e he=>by
  obtain⟨t,ht,rfl⟩:=cE.1 he;obtain⟨-,-,-,h4,h5⟩:=hw t ht;exact og (by rw[tz,jg];exact h5)) (by simp) (by simpa using hn)
 rw[List.zip_map',ig,ig]at h;rw[show(ts.map fun t=>PV.s t.base)=ts.map (GK∘fun t=>num t.base)from mn fun t ht=>(dN (gb hE (hg t ht))).symm]
 exact h
theorem I6 {s:cG} (hs:xl s) {w:List Int} (hw: ∀q∈s.eqs,WB q.terms w):aE 317 [s.pv, .sl (w.map Zp)] (.tup [.sl ((oJ s w).map .s),E 0]):=by
 obtain⟨L,hLd⟩: ∃L,L=oJ s w:=⟨_,rfl⟩;have hI:=fun i (h:i<s.eqs.length)=>(show L.getD i []=bQ (I5 s.groups w (s.eqs.getD i fJ)) by rw[hLd,oJ];simp[b9,h])
 have hL:L.length=s.eqs.length:=by rw[hLd,rh]
 rw[<-hLd];clear hLd;obtain⟨gs,vs,es⟩:=s;obtain⟨-,hg,hv,hq,ng,nv,ne,-⟩:=hs;simp only at hg hv hq ng nv ne hw hI hL;have l1:(gs.map dO).length=gs.length:=aG ..;have l3:(es.map c9.pv).length=es.length:=aG ..;unfold cG.pv;simp only
 by_cases h0:es=[]
 ·subst h0;obtain rfl:L=[]:=eH.1 hL;simp only[ca];refine eW call317 func317 ?_;exact Qc
 have hpos:0<es.length:=je.2 h0;refine eW call317 func317 ?_;refine dH @l3 ?_;refine aj ?_;have e1:=getD_map c9.pv es fJ hpos;obtain⟨q1,q2,q3,q4,q5⟩:=hq _ (au fJ hpos);have kw:=hw _ (au fJ hpos);have r1:=Dw (l:=L) (i:=0) (by rw[hL];exact hpos)
 have r2:=hI 0 hpos;obtain⟨x,hx⟩: ∃x,x=es.getD 0 fJ:=⟨_,rfl⟩;rw[<-hx]at e1 q1 q2 q3 q4 q5 kw r2;clear hx;obtain⟨gr,tg,ts⟩:=x;simp only at q1 q2 q3 q4 q5 kw;have hgl:gr.toNat<gs.length:=oO;have kg:=hg _ (au eV hgl);have e3:=getD_map dO gs eV hgl;simp only[I5]at r2;obtain⟨z,hz⟩: ∃z,z=gs.getD gr.toNat eV:=⟨_,rfl⟩;rw[<-hz]at q5 kg e3 r2;clear hz q3;obtain⟨m,o⟩:=z;simp only at q5 kg r2;have hcl:=fun nm=>E4 1001 nm gr tg (ts:=ts) (w:=w) oO kw
 have xe:=TT kg.2.1 kg.2.2 kg.1 (ts:=ts) (w:=w) oO (fun t ht=>(q5 t ht).2.2.1) kw
 have xe:aE 39 [G m o, .sl (ts.map fun t=> .s t.base), .sl (ts.map fun t=>Zp (tz w t))] (.tup [.s (L.getD 0 []),E 0]):=by rw[r2];exact xe
 clear r2 kw kg q5;simp only[dO]at e3;simp only[c9.pv]at e1 hcl;repeat' first|simp only[go_sem,seval,l1,l3,e1,e3,bJ]|(refine bK (hcl _) (by simp[aC]) ?_)|refine cP xe ?_|refine oE ?_|apply xX<;>intro hc
 have hM:cU PV.s 1:=cU.s;refine ak (α:=Nat) (fun j=>es.length-(j+1)) (fun j=>⟨[(2, .p 1000 0 0),(6, .fn (.func 427) [] [.p 1001 0 0]),(7, .rs 1047 j 0 (j+1) 1),(16, .v (.sl (es.map c9.pv))),(17,E' es.length),(18,E' (j+1))],[(1000,⟨0,[.v (.sl (gs.map dO)), .v (.sl (vs.map cz)), .v (.sl (es.map c9.pv))],false,none⟩),(1001,⟨0,[.v (.sl (w.map Zp))],false,none⟩),(1047,⟨j,aT PV.s (L.take (j+1)),true,some 22⟩)],1051⟩) (fun j=>j+1<=es.length) 0 (fun _=>dr rfl) hpos ?_ ?_
 ·rw[ew,r1,List.take_zero,show aT PV.s ([]:List Bytes)=[]from rfl]
  exact lE
 ·clear e1 e3 q1 q2 q4 xe hcl r1;intro i hi R hR;have hj1:(L.take (i+1)).length=i+1:=by rw[cd];omega
  have p1:=cf hM (L.take (i+1));have p2:=ct hM (L.take (i+1));rw[hj1,dG]at p1 p2
  by_cases hlt:i+1<es.length
  ·have hgo:=hR (i+1) oO oO;clear hR;have e1:=getD_map c9.pv es fJ hlt;obtain⟨q1,q2,q3,q4,q5⟩:=hq _ (au fJ hlt);have kw:=hw _ (au fJ hlt);have r1:=Dw (l:=L) (i:=(i+1)) (by rw[hL];exact hlt)
   have r2:=hI (i+1) hlt;obtain⟨x,hx⟩: ∃x,x=es.getD (i+1) fJ:=⟨_,rfl⟩;rw[<-hx]at e1 q1 q2 q3 q4 q5 kw r2;clear hx;obtain⟨gr,tg,ts⟩:=x;simp only at q1 q2 q3 q4 q5 kw;have hgl:gr.toNat<gs.length:=oO;have kg:=hg _ (au eV hgl);have e3:=getD_map dO gs eV hgl;simp only[I5]at r2;obtain⟨z,hz⟩: ∃z,z=gs.getD gr.toNat eV:=⟨_,rfl⟩;rw[<-hz]at q5 kg e3 r2;clear hz q3;obtain⟨m,o⟩:=z;simp only at q5 kg r2;have hcl:=fun nm=>E4 1001 nm gr tg (ts:=ts) (w:=w) oO kw
   have xe:=TT kg.2.1 kg.2.2 kg.1 (ts:=ts) (w:=w) oO (fun t ht=>(q5 t ht).2.2.1) kw
   have xe:aE 39 [G m o, .sl (ts.map fun t=> .s t.base), .sl (ts.map fun t=>Zp (tz w t))] (.tup [.s (L.getD (i+1) []),E 0]):=by rw[r2];exact xe
   clear r2 kw kg q5;simp only[dO]at e3;simp only[c9.pv]at e1 hcl;rw[r1]at hgo;repeat' first|simp only[go_sem,seval,l1,l3,e1,e3,bJ,p1,p2]|(refine bK (hcl _) (by simp[aC]) ?_)|refine cP xe ?_|refine oE ?_|apply xX<;>intro hc
   refine hgo _ ?_
   (refine AS.Le.of (by first|decide|omega) ?_ ?_<;>simp[dw,du,aS,aC,AV.bd,AV.bd.bdL,u8,an,ar,aA])
   all_goals (intro c hc;rcases hc with h|h<;>first|exact cv h|(subst h;rfl))
  ·obtain hjv:i+1=es.length:=oO;rw[hjv]at p1 p2;have hLt:L.take es.length=L:=cZ oO;rw[hLt]at p1 p2;rw[hjv,hLt];have p3:=dY hM L;have p4:=de hM L;rw[hL]at p4;repeat' first|simp only[go_sem,seval,l3,p1,p2,p3,p4,ek]|refine oE ?_|apply xX<;>intro hc
   all_goals exact congrArg (fun l=>PV.tup [PV.sl l,E 0]) p4
theorem RX (x:Bool×Bytes):aE 425 [cI x] (.b (!cg x)):=by
 obtain⟨n,a⟩:=x;have hv:=il n a;rw[show(aa a&& !(n&&a==[]))=cg (n,a)from rfl]at hv
 generalize cg (n,a)=b at*;simp only[cI];refine eW call425 func425 ?_;exact z1 @hv
theorem Qg (l:List Int):(l.map fQ).map cI=l.map Zp:=by rw[ig];rfl
theorem l8 {w:List Int} (hw: ∀x∈w,x.natAbs<da):(w.map fQ).all cg=true:=by
 rw[bH];intro x hx;obtain⟨z,hz,rfl⟩:=cE.1 hx;exact og (hw z hz)
theorem RY {s:cG} (hs:xl s) {w:List (Bool×Bytes)} (hw:w.length<1000000):aE 315 [s.pv, .sl (w.map cI)] (E (if !(w.all cg)then 3 else if w.length≠s.vars.length then 6 else 0)):=by
 have hf:=Oc hs.b;have hc:=I8 hs.b;rw[hs.ck]at hc;rw[show qa s=true from by have:=hs.ck;unfold Oa at this;cases h:qa s<;>simp_all]at hf
 have hcf:=gG w _ _ oO RX;rw[jG]at hcf;have l1:(w.map cI).length=w.length:=aG ..;obtain⟨gs,vs,es⟩:=s;have l2:(vs.map cz).length=vs.length:=aG ..;simp only[cG.pv,aB]at hf hc⊢;generalize w.all cg=b at*;cases b
 ·refine eW call315 func315 ?_;exact wO (aN @l1 @l2) @hf @hc @hcf oT
 ·by_cases hl:w.length=vs.length
  ·have hI:((w.length:Int) !=vs.length)=false:=by rw[hl];simp
   rw[af (by simp),af (by simpa using hl)]
   refine eW call315 func315 ?_;exact wO (aN @l1 (aN @l2 @hI)) @hf @hc @hcf oT
  ·have hI:((w.length:Int) !=vs.length)=true:=by rw[pQ];omega
   rw[af (by simp),ah (by simpa using hl)]
   refine eW call315 func315 ?_;exact wO (aN @l1 (aN @l2 @hI)) @hf @hc @hcf oT
theorem Je {s:cG} (hs:xl s) {w:List Int} (hwl:w.length=s.vars.length) (hw: ∀x∈w,x.natAbs<da):aE 315 [s.pv, .sl (w.map Zp)] (E 0):=by
 have nv:=hs.nv;have:=RY hs (w:=w.map fQ) (by rw[aG];omega)
 rwa[Qg,l8 hw,aG,af (by simp),af (by simpa using hwl)]at this
def WS (s:cG) (w:List Int):Prop:= ∀q∈s.eqs,WB q.terms w
theorem Qz {s:cG} (hs:xl s) {w:List Int} (hwl:w.length=s.vars.length) (hw: ∀x∈w,x.natAbs<da) (hW:WS s w):aE 199 [s.pv, .sl (w.map Zp)] (.tup [.sl ((oJ s w).map .s),E 0]):=by
 have hr:=Je hs hwl hw;have hi:=I6 hs hW;generalize oJ s w=L at*;obtain⟨gs,vs,es⟩:=s;simp only[cG.pv]at hr hi⊢;refine eW call199 func199 ?_;exact z2 @hr @hi
def dV (o b:Bytes):Nat:=if b=[]then num o else num b
def fM (b:Bytes) (x:Int) (L:Nat):Bool:=decide (x.natAbs<L)&& !(decide (b=[])&&decide (x<0))
def tY (o:Bytes) (us:List Bytes) (w:List Int):Bool:=(List.range us.length).all fun i=>fM (us.getD i []) (w.getD i 0) (dV o (us.getD i []))
theorem dc {gs:List (Bytes×Bytes)} (h: ∀p∈gs,gE p.1 p.2=0/\p.1.length<=8/\p.2.length<=8):aa (bj gs)=true/\(bj gs).length<=8:=by
 induction gs with
 |nil=>exact⟨rfl,by simp[bj]⟩
 |cons g r ih=>
  rw[bj];obtain⟨g1,g2,g3⟩:=h g (rI ..);split
  ·exact ih fun p hp=>h p (jm _ hp)
  ·exact⟨(lO g1).2.1,g3⟩
theorem KS {s:cG} (hs:xl s) {w:List Int} (hwl:w.length=s.vars.length) (hw: ∀x∈w,x.natAbs<da):aE 316 [s.pv, .sl (w.map Zp)] (.b (tY (bj s.groups) s.vars w)):=by
 have hv:=hs.v;have nv:=hs.nv;have hor:=BW s (by have:=hs.ng;omega)
 have hoV:=dc hs.g;obtain⟨gs,vs,es⟩:=s;simp only at hv hwl nv hor hoV⊢;have l2:(vs.map cz).length=vs.length:=aG ..;have l5:(w.map Zp).length=vs.length:=by rw[aG];exact hwl
 generalize bj gs=oq at*;unfold cG.pv at*;simp only at*;refine eW call316 func316 ?_;refine dH @l2 ?_;refine ak (α:=Nat) (fun i=>vs.length-i) (fun i=>⟨[(1, .v (.sl (w.map Zp))),(2, .p 1000 0 0),(9, .v (.sl (vs.map cz))),(10,E' vs.length),(11,E' i)],[(1000,⟨0,[.v (.sl (gs.map dO)), .v (.sl (vs.map cz)), .v (.sl (es.map c9.pv))],false,none⟩)],_⟩) (fun i=>i<=vs.length/\ ∀j,j<i->fM (vs.getD j []) (w.getD j 0) (dV oq (vs.getD j []))=true) 0 (fun _=>aD _) ⟨aO _,fun j hj=>oO⟩ ?_ ?_
 ·exact lE
 ·rintro i ⟨hi,hall⟩ R hR
  by_cases hlt:i<vs.length
  ·have e1:=getD_map cz vs [] hlt;have e2:=getD_map Zp w 0 (i:=i) oO;have kb:=hv _ (au [] hlt);have kw:=hw _ (au 0 (show i<w.length by omega))
   have hgo:=fun h=>hR (i+1) ⟨oO,h⟩ oO
   have hbad:=fun h: ¬fM (vs.getD i []) (w.getD i 0) (dV oq (vs.getD i []))=true=>kS (p:=fun i=>fM (vs.getD i []) (w.getD i 0) (dV oq (vs.getD i []))) hlt (dn.2 h)
   have hnx:fM (vs.getD i []) (w.getD i 0) (dV oq (vs.getD i []))=true-> ∀j,j<i+1->fM (vs.getD j []) (w.getD j 0) (dV oq (vs.getD j []))=true:=fun h j hj=>by
    by_cases hji:j<i
    ·exact hall j hji
    ·obtain rfl:j=i:=oO;exact h
   rw[<-tY]at hbad;clear hR hall;generalize vs.getD i []=b at*;generalize w.getD i 0=x at*;have hz:=(og kw);simp only[fQ,cg,aZ]at hz;have hc:=j6 hz.1 kb.1;have hc':=j6 hz.1 hoV.1;simp only[qE]at hc hc';have hd: ∀L:Nat,decide (aW x.natAbs L>=0)= !decide (x.natAbs<L):=fun L=>Fm _ _
   simp only[cz]at e1;simp only[Zp,cI,fQ]at e2;simp only[fM,dV]at hbad hnx
   by_cases hb:b=[]
   ·subst hb;simp only[aB,decide_true,cq]at hbad hnx;have hzs:zs x=decide (x<0):=rfl;have h1:=hd (num oq);clear hd hc kb;generalize aW x.natAbs (num oq)=cm at*;generalize decide (x.natAbs<num oq)=p at*;generalize hq:decide (x<0)=q at*;cases q
    ·cases p
     ·rw[hbad (by simp)]
      exact xi (aN @l2 (aN @l5 (aN @e1 (aN @e2 (aN @hzs (aN @h1 @nn)))))) @hor @hc'
     ·have hgo:=hgo (hnx (by simp))
      exact uZ (aN @l2 (aN @l5 (aN @e1 (aN @e2 (aN @hzs (aN @h1 @nn)))))) @hgo @hor @hc'
    ·rw[hbad (by simp)]
     exact xi (aN @l2 (aN @l5 (aN @e1 (aN @e2 (aN @hzs (aN @h1 @nn)))))) @hor @hc'
   ·have hbb:(b==[])=false:=by simpa using hb
    simp only[af hb,bu hb,cY,cC,gi]at hbad hnx;have h1:=hd (num b);clear hd hc' kb;generalize aW x.natAbs (num b)=cm at*;generalize decide (x.natAbs<num b)=p at*;cases p
    ·rw[hbad (by simp)]
     exact jE (aN @l2 (aN @l5 (aN @e1 (aN @e2 (aN @hbb @h1))))) @hc
    ·have hgo:=hgo (hnx rfl);exact js (aN @l2 (aN @l5 (aN @e1 (aN @e2 (aN @hbb @h1))))) @hgo @hc
  ·obtain rfl:i=vs.length:=oO;have hg:tY oq vs w=true:=lu fun j hj=>hall j hj
   rw[hg];exact z0
noncomputable def xr (s:cG) (w:List Int):Bool:=decide (oJ s w=s.eqs.map (·.tgt))
theorem KR {s:cG} (hs:xl s) {w:List Int} (hwl:w.length=s.vars.length) (hw: ∀x∈w,x.natAbs<da) (hW:tY (bj s.groups) s.vars w=true->WS s w):aE 195 [s.pv, .sl (w.map Zp)] (.tup [.b (tY (bj s.groups) s.vars w&&xr s w),E 0]):=by
 have ne:=hs.ne;have hr:=Je hs hwl hw;have hi:=KS hs hwl hw;have hm:=fun h=>I6 hs (hW h)
 have hL:=rh s w;unfold xr;generalize oJ s w=L at*;obtain⟨gs,vs,es⟩:=s;simp only[cG.pv]at hr hi hm hL⊢;have l3:(es.map c9.pv).length=es.length:=aG ..;have l4:(L.map PV.s).length=es.length:=by rw[aG];exact hL
 simp only at ne;clear hs hW hw hwl;generalize tY (bj gs) vs w=b at*;cases b
 ·refine eW call195 func195 ?_;exact z2 @hr @hi
 have hm:=hm rfl;refine eW call195 func195 ?_;refine tj @l3 @hr @hi @hm oT ?_;refine ak (α:=Nat) (fun i=>es.length-i) (fun i=>⟨[(2, .p 1000 0 0),(7, .v (.sl (L.map .s))),(31, .v (.sl (es.map c9.pv))),(32,E' es.length),(33,E' i)],[(1000,⟨0,[.v (.sl (gs.map dO)), .v (.sl (vs.map cz)), .v (.sl (es.map c9.pv))],false,none⟩)],_⟩) (fun i=>i<=es.length/\ ∀j,j<i->L.getD j []=(es.getD j fJ).tgt) 0 (fun _=>aD _) ⟨aO _,fun j hj=>oO⟩ ?_ ?_
 ·exact lE
 ·rintro i ⟨hi,hall⟩ R hR
  by_cases hlt:i<es.length
  ·have e1:=getD_map c9.pv es fJ hlt;have e2:=getD_map PV.s L [] (i:=i) oO;have hgo:=fun h=>hR (i+1) ⟨oO,h⟩ oO
   have hnx:L.getD i []=(es.getD i fJ).tgt-> ∀j,j<i+1->L.getD j []=(es.getD j fJ).tgt:=fun h j hj=>by
    by_cases hji:j<i
    ·exact hall j hji
    ·obtain rfl:j=i:=oO;exact h
   have hbad: ¬L.getD i []=(es.getD i fJ).tgt->decide (L=es.map (·.tgt))=false:=fun h=>bu fun g=>h (by rw[g];simp[b9,hlt])
   clear hR hall;generalize es.getD i fJ=q at*;generalize L.getD i []=x at*;obtain⟨g,t,ts⟩:=q;simp only[c9.pv]at e1 hbad hnx
   by_cases hxt:x=t
   ·have hgo:=hgo (hnx hxt);have e3:(x==t)=true:=by simpa using hxt
    exact jr (aN @l3 (aN @l4 (aN @e1 (aN @e2 @e3)))) @hgo
   ·have e3:(x==t)=false:=by simpa using hxt
    rw[hbad hxt];exact fP (aN @l3 (aN @l4 (aN @e1 (aN @e2 @e3))))
  ·obtain rfl:i=es.length:=oO;rw[aU (IT hL hall)];exact z0
def lM (o c sl b:Bytes):Nat:=if b=[]then num o else qA c sl b
def lR (o c sl b:Bytes):Nat:=if b=[]then num o else Od c sl b
def lP (o c sl b:Bytes):PV:= .agg [N (lM o c sl b),N (lR o c sl b)]
structure u7 (c sl:Bytes) (s:cG):Prop where
 r:tF c sl
 g:xl s
 m: ∀b∈s.vars,b=[]->num c<=num (bj s.groups)
theorem pG (b:Bytes):aE 320 [cz b] (E (if b=[]then 0 else 1)):=by
 by_cases h:b=[]
 ·subst h;unfold cz;refine eW call320 func320 ?_;exact fP @nn
 ·rw[af h];exact Pz h
theorem Gr (c sl q b:Bytes):aE 321 [.agg [.s c, .s sl, .s q], .s b] (.tup [.agg [.s q, .s q],E 0]):=by
 refine eW call321 func321 ?_;exact z0
theorem aaM (o c sl:Bytes):cU (lP o c sl) 2:=⟨fun _=>rfl,fun x y hy=>by simp[lP,PV.cells]at hy;rcases hy with rfl|rfl<;>rfl,fun h=>oO,fun _ x=>rfl⟩
theorem Az {s:cG} (h:u7 c sl s):aE 197 [.agg [.s c, .s sl],s.pv] (.tup [.sl (s.vars.map (lP (bj s.groups) c sl)),E 0]):=by
 obtain⟨hr,hs,hm⟩:=h;have hck:=I8 hs.b;rw[hs.ck]at hck;have hor:=Cq s (by have:=hs.ng;omega)
 have hoV:=dc hs.g;have v1:=aI c;have v2:=aI sl;rw[hr.vc]at v1;rw[hr.vs]at v2;have c1:=mK hr.vc;have c2:=mK hr.vs;have d1: ∀ _:True,decide (aW (num c) 2<0)=false:=fun _=>bu (fun g=>by have:=fx.1 g;have:=hr.c2;omega)
 have d2: ∀ _:True,decide (aW (num sl) 2<0)=false:=fun _=>bu (fun g=>by have:=fx.1 g;have:=hr.s2;omega)
 have c3:=j6 hr.vc hoV.1;generalize aW (num c) 2=cm1 at*;generalize aW (num sl) 2=cm2 at*;have hv:=hs.v;have nv:=hs.nv;obtain⟨gs,vs,es⟩:=s;simp only at hv hm nv hor hoV c3⊢;generalize bj gs=q at*;have d3: ∀b∈vs,b=[]->decide (aW (num c) (num q)>0)=false:=fun b hb h=>bu fun g=>by
  have:=hm b hb h;unfold aW at g
  split at g
  ·omega
  ·split at g<;>omega
 generalize aW (num c) (num q)=cm3 at*;have eq:=dN hoV.1;have l2:(vs.map cz).length=vs.length:=aG ..;clear hm hoV;unfold cG.pv at*;simp only at*;refine eW call197 func197 ?_;refine P8 (aN (d1 oT) (aN (d2 oT) @l2)) @v1 @v2 @hck @Xq @c1 @c2 @hor ?_;refine ak (α:=Nat) (fun i=>vs.length-i) (fun i=>⟨[(2, .p 1000 0 0),(3, .p 1001 0 0),(8, .p 1037 0 0),(50, .v (.sl (vs.map cz))),(51,E' vs.length),(52,E' i)],[(1000,⟨0,[.v (.s c), .v (.s sl)],false,none⟩),(1001,⟨0,[.v (.sl (gs.map dO)), .v (.sl (vs.map cz)), .v (.sl (es.map c9.pv))],false,none⟩),(1037,⟨0,[.v (.s c), .v (.s sl), .v (.s q)],false,some 363⟩)],_⟩) (fun i=>i<=vs.length) 0 (fun _=>aD _) (aO _) ?_ ?_
 ·exact lE
 ·intro i hi R hR
  by_cases hlt:i<vs.length
  ·have e1:=getD_map cz vs [] hlt;have hk:=pG (vs.getD i []);have d3:=d3 _ (au [] hlt);have hgo:=hR (i+1) oO oO;clear hR;generalize vs.getD i []=b at*;simp only[cz]at e1 hk
   by_cases hb:b=[]
   ·rw[ah hb]at hk;have d3:=d3 hb;exact uZ (aN @l2 (aN @e1 @d3)) @hgo @hk @c3
   ·rw[af hb]at hk;exact js (aN @l2 @e1) @hgo @hk
  ·obtain rfl:i=vs.length:=oO;have hL:=aaM q c sl;have row0: ∀{i:Nat},i<vs.length->aT (lP q c sl) (vs.take (i+1))=aT (lP q c sl) (vs.take i)++[.v (N (lM q c sl (vs.getD i []))), .v (N (lR q c sl (vs.getD i [])))]:=fun h=>by
    rw[aL [] h,bT];rfl
   clear hR d3 c1 c2 c3 d1 d2 hlt
   by_cases hpos:0<vs.length
   ·refine dH @l2 ?_;refine aj ?_;have e1:=getD_map cz vs [] hpos;have hk:=pG (vs.getD 0 []);have r1:=row0 hpos;have hcs:(vs.getD 0 []=[]/\aE 321 [.agg [.s c, .s sl, .s q], .s (vs.getD 0 [])] (.tup [.agg [N (lM q c sl (vs.getD 0 [])),N (lR q c sl (vs.getD 0 []))],E 0]))\/(vs.getD 0 []≠[]/\aE 322 [.agg [.s c, .s sl, .s q], .s (vs.getD 0 [])] (.tup [.agg [N (lM q c sl (vs.getD 0 [])),N (lR q c sl (vs.getD 0 []))],E 0])):=by
     by_cases h:vs.getD 0 []=[]
     ·refine .inl ⟨h,?_⟩;rw[h,lM,lR,ah rfl,ah rfl,eq];exact Gr c sl q []
     ·obtain⟨k1,k3⟩:=hv _ (au [] hpos);refine .inr ⟨h,?_⟩;rw[lM,lR,af h,af h];exact uy (q:=q) hr k1 h k3
    generalize lM q c sl (vs.getD 0 [])=A at*;generalize lR q c sl (vs.getD 0 [])=B at*;generalize vs.getD 0 []=b at*;simp only[cz]at e1 hk;rcases hcs with⟨hb,hi1⟩|⟨hb,hi1⟩
    all_goals
     first|rw[ah hb]at hk|rw[af hb]at hk
     refine GJ (aN @l2 @e1) @hk @hi1 ?_;refine ak (α:=Nat) (fun j=>vs.length-(j+1)) (fun j=>⟨[(11, .p 1049 0 0),(12, .rs 1079 j 0 (j+1) 2),(74, .v (.sl (vs.map cz))),(75,E' vs.length),(76,E' (j+1))],[(1049,⟨0,[.fn (.func 321) [.v (.agg [.s c, .s sl, .s q])] [], .fn (.func 322) [.v (.agg [.s c, .s sl, .s q])] []],false,some 366⟩),(1079,⟨j,aT (lP q c sl) (vs.take (j+1)),true,some 277⟩)],1083⟩) (fun j=>j+1<=vs.length) 0 (fun _=>dr rfl) hpos ?_ ?_
     ·rw[ew,r1,List.take_zero,show aT (lP q c sl) []=[]from rfl]
      exact lE
     ·clear e1 hk hi1 r1 hb;intro j hj R hR;have hj1:(vs.take (j+1)).length=j+1:=by rw[cd];omega
      have q1:=cf hL (vs.take (j+1));have q2:=ct hL (vs.take (j+1));rw[hj1]at q1 q2
      by_cases hlt:j+1<vs.length
      ·have hgo:=hR (j+1) oO oO;clear hR;have e1:=getD_map cz vs [] hlt;have hk:=pG (vs.getD (j+1) []);have r1:=row0 hlt;have hcs:(vs.getD (j+1) []=[]/\aE 321 [.agg [.s c, .s sl, .s q], .s (vs.getD (j+1) [])] (.tup [.agg [N (lM q c sl (vs.getD (j+1) [])),N (lR q c sl (vs.getD (j+1) []))],E 0]))\/(vs.getD (j+1) []≠[]/\aE 322 [.agg [.s c, .s sl, .s q], .s (vs.getD (j+1) [])] (.tup [.agg [N (lM q c sl (vs.getD (j+1) [])),N (lR q c sl (vs.getD (j+1) []))],E 0])):=by
        by_cases h:vs.getD (j+1) []=[]
        ·refine .inl ⟨h,?_⟩;rw[h,lM,lR,ah rfl,ah rfl,eq];exact Gr c sl q []
        ·obtain⟨k1,k3⟩:=hv _ (au [] hlt);refine .inr ⟨h,?_⟩;rw[lM,lR,af h,af h];exact uy (q:=q) hr k1 h k3
       generalize lM q c sl (vs.getD (j+1) [])=A at*;generalize lR q c sl (vs.getD (j+1) [])=B at*;generalize vs.getD (j+1) []=b at*;simp only[cz]at e1 hk;rcases hcs with⟨hb,hi1⟩|⟨hb,hi1⟩
       all_goals
        first|rw[ah hb]at hk|rw[af hb]at hk
        rw[r1]at hgo;refine tu (aN @l2 (aN @e1 (aN @q1 @q2))) @hk @hi1 ?_;refine hgo _ ?_
        (refine AS.Le.of (by first|decide|omega) ?_ ?_<;>simp[dw,du,aS,aC,AV.bd,AV.bd.bdL,u8,an,ar,aA])
        all_goals (intro c hc;rcases hc with h|h|h<;>first|exact cv h|(subst h;rfl))
      ·obtain hjv:j+1=vs.length:=oO;rw[hjv,cl]at q1 q2;rw[hjv,cl];have q3:=dY hL vs;have q4:=de hL vs;repeat' first|simp only[go_sem,seval,l2,q1,q2,q3,q4,ek]|refine oE ?_|apply xX<;>intro hc
       all_goals skip
   ·obtain rfl:vs=[]:=eH.1 oO;exact Tk @l2
theorem Gk {s:cG} (h:u7 c sl s):aE 185 [.agg [.s c, .s sl],s.pv] (.tup [.sl (s.vars.map fun b=>N (lM (bj s.groups) c sl b)), .sl (s.vars.map fun b=>N (lR (bj s.groups) c sl b)),E 0]):=by
 have hb:=Az h;have nv:=h.g.nv;obtain⟨gs,vs,es⟩:=s;simp only at hb nv⊢;clear h;generalize bj gs=o at*;have l2:(vs.map (lP o c sl)).length=vs.length:=aG ..;unfold cG.pv at*;simp only at*
 by_cases hpos:0<vs.length
 rotate_left
 ·obtain rfl:vs=[]:=eH.1 oO;refine eW call185 func185 ?_;exact Xn @hb
 have hM:cU (fun b=>N (lM o c sl b)) 1:=⟨fun _=>rfl,fun _ y hy=>by cases fz.1 hy;rfl,fun _ _=>rfl,fun h=>aP rfl h⟩
 have hR0:cU (fun b=>N (lR o c sl b)) 1:=⟨fun _=>rfl,fun _ y hy=>by cases fz.1 hy;rfl,fun _ _=>rfl,fun h=>aP rfl h⟩
 have row1: ∀{i:Nat},i<vs.length->aT (fun b=>N (lM o c sl b)) (vs.take (i+1))=aT (fun b=>N (lM o c sl b)) (vs.take i)++[.v (N (lM o c sl (vs.getD i [])))]:=fun h=>by
  rw[aL [] h,bT];rfl
 have LK: ∀{i:Nat},i<vs.length->aT (fun b=>N (lR o c sl b)) (vs.take (i+1))=aT (fun b=>N (lR o c sl b)) (vs.take i)++[.v (N (lR o c sl (vs.getD i [])))]:=fun h=>by
  rw[aL [] h,bT];rfl
 refine eW call185 func185 ?_;refine m9 @l2 @hb ?_;refine aj ?_;have e1:=getD_map (lP o c sl) vs [] hpos;have r1:=row1 hpos;have r2:=LK hpos;simp only[lP]at e1;refine dH (aN @l2 @e1) ?_;refine ak (α:=Nat) (fun j=>vs.length-(j+1)) (fun j=>⟨[(9, .rs 1029 j 0 (j+1) 1),(10, .rs 1034 j 0 (j+1) 1),(22, .v (.sl (vs.map (lP o c sl)))),(23,E' vs.length),(24,E' (j+1))],[(1029,⟨j,aT (fun b=>N (lM o c sl b)) (vs.take (j+1)),true,some 22⟩),(1034,⟨j,aT (fun b=>N (lR o c sl b)) (vs.take (j+1)),true,some 22⟩)],1039⟩) (fun j=>j+1<=vs.length) 0 (fun _=>dr rfl) hpos ?_ ?_
 ·rw[ew,r1,r2,List.take_zero,show aT (fun b=>N (lM o c sl b)) []=[]from rfl,show aT (fun b=>N (lR o c sl b)) []=[]from rfl]
  exact lE
 ·intro j hj R hR;have hj1:(vs.take (j+1)).length=j+1:=by rw[cd];omega
  have q1:=cf hM (vs.take (j+1));have q2:=ct hM (vs.take (j+1));have q5:=cf hR0 (vs.take (j+1));have q6:=ct hR0 (vs.take (j+1));rw[hj1,dG]at q1 q2 q5 q6
  by_cases hlt:j+1<vs.length
  ·have e1:=getD_map (lP o c sl) vs [] hlt;have r1:=row1 hlt;have r2:=LK hlt;simp only[lP]at e1;have hgo:=hR (j+1) oO oO;rw[r1,r2]at hgo;clear hR;refine eJ (aN @l2 (aN @e1 (aN @q1 (aN @q2 (aN @q5 @q6))))) ?_;refine hgo _ ?_
   (refine AS.Le.of (by first|decide|omega) ?_ ?_<;>simp[dw,du,aS,aC,AV.bd,AV.bd.bdL,u8,an,ar,aA])
   all_goals (refine⟨?_,?_⟩<;>(intro c hc;rcases hc with h|h<;>first|exact cv h|(subst h;rfl)))
  ·obtain hjv:j+1=vs.length:=oO;rw[hjv,cl]at q1 q2 q5 q6;rw[hjv,cl];have q3:=dY hM vs;have q4:chunk 1 vs.length (List.flatMap (fun x=>[PV.s (bQ (lM o c sl x))]) vs)=vs.map fun b=>N (lM o c sl b):=de hM vs
   have q7:=dY hR0 vs;have q8:chunk 1 vs.length (List.flatMap (fun x=>[PV.s (bQ (lR o c sl x))]) vs)=vs.map fun b=>N (lR o c sl b):=de hR0 vs
   repeat' first|simp only[go_sem,seval,l2,q1,q2,q3,q4,q5,q6,q7,q8,ek]|refine oE ?_|apply xX<;>intro hc
   all_goals skip
