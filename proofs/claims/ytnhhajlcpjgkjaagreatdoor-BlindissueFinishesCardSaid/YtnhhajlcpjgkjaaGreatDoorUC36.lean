/- Part of the proof. -/
import Derived.Test.YtnhhajlcpjgkjaaGreatDoorUC34
set_option linter.all false
set_option maxHeartbeats 16000000
set_option maxRecDepth 100000
namespace Go.Proofs.Tryz
open Go Go.Dom Go.Num
variable {es:List (Bool×Bytes)} {i x:Nat} {xs:List Nat}
def eE (l:List Nat):List AV:=l.map fun x=> .v (N x)
theorem rD (l:List Nat):(eE l).length=l.length:=by simp[eE]
theorem F7 (n:Nat):(List.replicate n [AV.v (.s [])]).flatten=eE (List.replicate n 0):=by
 unfold eE
 induction n with
 |zero=>rfl
 |succ n ih=>rw[List.replicate_succ,List.flatten_cons,ih];rfl
theorem F6 {l:List Nat} (h:i<l.length):(eE l).getD i .u= .v (N (l.getD i 0)):=by
 simp[eE,ca,h]
theorem F8 {l:List Nat} {o:Nat}:(eE l).set o (.v (N x))=eE (l.set o x):=by
 simp[eE,wY]
theorem yo {l:List Nat} {o:Nat} (h:o<l.length):(eE l).take o++[.v (N x)]++(eE l).drop (o+1)=eE (l.set o x):=by
 rw[<-F8,wG,ah (by rw[rD];exact h)];simp
theorem uX {l:List Nat} {c:AV} {n:Nat} (h:c∈eE l):c.bd n=true:=by
 obtain⟨x,-,rfl⟩:=cv.1 h;rfl
def Fm (x:Nat):PV:=N x
theorem TP (xs:List Nat) (h:i<xs.length):(xs.map Fm).getD i .fn0=N (xs.getD i 0):=getD_map Fm xs 0 h
theorem PN {m:Bytes} (lm:m.length<=8) {o:Bytes} (lo:o.length<=8) (hE:gE m o=0) (hx: ∀x∈xs,GP m o x) (he: ∀e∈es,cr e=true) (n1:xs.length<1000000) (n2:es.length<1000000):aE 93 [G m o, .sl (xs.map Fm), .sl (es.map cU), .b true] (E 0):=by
 have l1:(xs.map Fm).length=xs.length:=aL ..;have l2:(es.map cU).length=es.length:=aL ..;have c3:=nM lm lo;rw[hE]at c3;have hn:=dO lm;refine eW call93 func93 ?_;refine dY @l1 ?_;refine ak (α:=Nat) (fun i=>xs.length-i) (fun i=>⟨[(1, .v (.sl (xs.map Fm))),(2, .v (.sl (es.map cU))),(3, .v (.b true)),(4, .p 1000 0 0),(16, .v (.sl (xs.map Fm))),(17,E' xs.length),(18,E' i)],[(1000,⟨0,[.v (.s m), .v (.s o)],false,none⟩)],_⟩) (fun i=>i<=xs.length) 0 (fun _=>aD _) (aR _) ?_ ?_
 ·exact lE
 ·intro i hi R hR
  by_cases hlt:i<xs.length
  ·have e1:=TP xs hlt;have k:=hx _ (aC 0 hlt);have hgo:=hR (i+1) oO oO;have c1:=aG (bR (xs.getD i 0));rw[vN (show xs.getD i 0<(2^64) by have:=k.lt;omega)]at c1
   clear hR k;generalize xs.getD i 0=x at*;exact kp (aN @l1 @e1) @hgo @c1
  ·obtain rfl:i=xs.length:=oO;clear hR;refine dY (aN @l1 @l2) ?_;refine ak (α:=Nat) (fun i=>es.length-i) (fun i=>⟨[(1, .v (.sl (xs.map Fm))),(3, .v (.b true)),(4, .p 1000 0 0),(26, .v (.sl (es.map cU))),(27,E' es.length),(28,E' i)],[(1000,⟨0,[.v (.s m), .v (.s o)],false,none⟩)],_⟩) (fun i=>i<=es.length) 0 (fun _=>aD _) (aR _) ?_ ?_
   ·exact lE
   ·intro i hi R hR
    by_cases hlt:i<es.length
    ·have e1:=getD_map cU es fh hlt;have k:=he _ (aC fh hlt);have hgo:=hR (i+1) oO oO;obtain⟨x,hxx⟩: ∃x,x=es.getD i fh:=⟨_,rfl⟩;rw[<-hxx]at e1 k;clear hR hxx;obtain⟨n,a⟩:=x;have c2:=gO n a;rw[show(aa a&& !(n&&a==[]))=true from k]at c2
     simp only[cU]at e1;exact kp (aN @l2 @e1) @hgo @c2
    ·obtain rfl:i=es.length:=oO;clear hR;refine rU (aN @l1 @l2) @c3 ?_;refine ak (α:=Nat) (fun i=>xs.length-i) (fun i=>⟨[(4, .p 1000 0 0),(43, .v (.sl (xs.map Fm))),(44,E' xs.length),(45,E' i)],[(1000,⟨0,[.v (.s m), .v (.s o)],false,none⟩)],_⟩) (fun i=>i<=xs.length) 0 (fun _=>aD _) (aR _) ?_ ?_
     ·exact lE
     ·intro i hi R hR
      by_cases hlt:i<xs.length
      ·have e1:=TP xs hlt;have k:=hx _ (aC 0 hlt);have hgo:=hR (i+1) oO oO;have c4:=sG lm o (bR (xs.getD i 0));rw[k.has hE lm]at c4;clear hR k;generalize xs.getD i 0=x at*;exact kp (aN @l1 @e1) @hgo @c4
      ·obtain rfl:i=xs.length:=oO;exact gU @l1
theorem Tx {e:Bytes} (he:aa e=true):cZ (num e)<1000000:=by
 have h1:num e<2^1024:=by
  refine b9 (ct e) ?_;have le:e.length<=128:=by simp[aa]at he;exact he.1
  exact fQ (cM oC le) (by decide+kernel)
 unfold cZ;split
 ·decide
 ·rename_i h;have:=(wN h).2 h1;omega
theorem Oe (M:Nat) (hl:es.length=xs.length):((xs.zip es).map fun p=>(Lq M p.1 p.2,num p.2.2)).length=xs.length/\ ∀i,i<xs.length->((xs.zip es).map fun p=>(Lq M p.1 p.2,num p.2.2)).getD i (0,0)=(Lq M (xs.getD i 0) (es.getD i fh),num (es.getD i fh).2):=by
 constructor
 ·simp;omega
 ·intro i hi;have h2:i<es.length:=oO;have e:(xs.zip es)[i]?=some (xs[i],es[i]):=List.getElem?_zip_eq_some.2 ⟨bZ hi,bZ h2⟩;rw[ca,gL,e,ca,bZ hi,ca,bZ h2];rfl
theorem Ll (n:Nat):n<2^cZ n:=by
 unfold cZ;split
 ·rename_i h;subst h;decide
 ·exact tJ
theorem sF {m:Bytes} (lm:m.length<=8) {o:Bytes} (lo:o.length<=8) (hE:gE m o=0) (hx: ∀x∈xs,GP m o x) (he: ∀e∈es,cr e=true) (hl:es.length=xs.length) (n1:xs.length<1000000):aE 39 [G m o, .sl (xs.map Fm), .sl (es.map cU)] (.tup [N (yE (num m) (xs.zip es)),E 0]):=by
 have l1:(xs.map Fm).length=xs.length:=aL ..;have l2:(es.map cU).length=xs.length:=by rw[aL];exact hl
 have hch:=PN lm lo hE hx he n1 oO;obtain⟨vm,vo,m1,-,-⟩:=mc hE;have hn:=dO lm;obtain⟨zl,zg⟩:=Oe (num m) hl;unfold yE;generalize hpr:((xs.zip es).map fun p=>(Lq (num m) p.1 p.2,num p.2.2))=pr at*
 clear hpr;obtain⟨M,hM⟩: ∃M,M=num m:=⟨_,rfl⟩;have eG:G m o= .agg [N M, .s o]:=by rw[hM,show N (num m)= .s m from congrArg PV.s (fm vm)]
 rw[eG]at hch⊢;have hxM: ∀i,i<xs.length->xs.getD i 0<M/\Nat.gcd (xs.getD i 0) M=1/\(pr.getD i (0,0)).1<M:=fun i hi=>by
  have k:=hx _ (aC 0 hi);refine⟨by rw[hM];exact k.lt,by rw[hM];exact k.RF,?_⟩
  rw[zg i hi,hM];unfold Lq;split
  ·exact k.unit.inv.1
  ·exact k.lt
 rw[<-hM]at hn m1 zg⊢;clear hx hM eG lm lo hE vm vo;have hM1:1%M=1:=bw oO;have hN:(eE (List.replicate xs.length 0)).length=xs.length:=by simp[eE]
 refine eW call39 func39 ?_;repeat' first|simp only[go_sem,seval,l1,l2,F7,hN,dJ,fW]|refine cP hch ?_|refine oE ?_|apply xX<;>intro hc
 refine ak (α:=Nat×List Nat×Nat) (fun s=>xs.length-s.1) (fun s=>⟨[(1, .v (.sl (xs.map Fm))),(2, .v (.sl (es.map cU))),(3, .p 1000 0 0),(9, .rs 1017 0 0 xs.length 1),(10,E' s.2.2),(35, .v (.sl (xs.map Fm))),(36,E' xs.length),(37,E' s.1)],[(1000,⟨0,[.v (N M), .v (.s o)],false,none⟩),(1017,⟨0,eE s.2.1,false,none⟩)],_⟩) (fun s=>s.1<=xs.length/\s.2.1.length=xs.length/\s.2.2<1000000/\ ∀j,j<s.1->s.2.1.getD j 0=(pr.getD j (0,0)).1/\(pr.getD j (0,0)).2<2^s.2.2) (0,List.replicate xs.length 0,0) (fun _=>aD _) ⟨aR _,by simp,(by decide:0<1000000),fun j hj=>aM hj (qz _)⟩ ?_ ?_
 ·refine lG ?_;exact fun c hc=>uX hc
 ·rintro⟨i,l,k⟩ ⟨hi,hll,hk,hj⟩ R hR;simp only at hi hll hk hj;have ll:(eE l).length=xs.length:=by rw[rD];exact hll
  by_cases hlt:i<xs.length
  ·have e1:=TP xs hlt;have e2:=getD_map cU es fh (i:=i) oO;have ke:=he _ (aC fh (show i<es.length by omega))
   obtain⟨x1,x2,x3⟩:=hxM i hlt;have zi:=zg i hlt;obtain⟨x,hxx⟩: ∃x,x=xs.getD i 0:=⟨_,rfl⟩;obtain⟨e,hee⟩: ∃e,e=es.getD i fh:=⟨_,rfl⟩;rw[<-hxx]at e1 x1 x2 zi;rw[<-hee]at e2 ke zi;clear hxx hee;obtain⟨n,a⟩:=e;simp only[cr,ba]at ke;have hbt:=vQ ke.1;have hbe:=Tx ke.1;have hmx: ∀ _:True,(if(cZ (num a):Int)>(k:Int)then(cZ (num a):Int)else(k:Int))=((max k (cZ (num a)):Nat):Int):=fun _=>by split<;>omega
   have hinv:=qZ (a:=x) (m:=M) oO hn oO x2;have hgo:=fun y (hy:y=(pr.getD i (0,0)).1)=>hR (i+1,l.set i y,max k (cZ (num a))) ⟨by show i+1<= _;omega,by simp[hll],by show max k _< _;omega,fun j hj2=>by
    by_cases hji:j=i
    ·subst hji;refine⟨by simp[ca,hll,hlt,hy],?_⟩
     rw[zi];exact b9 (Ll _) (cM oC (Nat.le_max_right _ _))
    ·obtain⟨h1,h2⟩:=hj j (by simp only at hj2;omega)
     refine⟨?_,b9 h2 (cM oC (Nat.le_max_left _ _))⟩;rw[<-h1];simp[ca,List.getElem?_set,j7 hji]⟩ (by show xs.length-(i+1)<xs.length-i;omega)
   rw[zi]at hgo;simp only[cU]at e2;clear hR hj hch zg hxM he;have p1: ∀y,List.take i (eE l)++[AV.v (.s (bR y))]++List.drop (i+1) (eE l)=eE (l.set i y):=fun y=>yo oO
   have p2: ∀x y,List.take i (eE (l.set i x))++[AV.v (.s (bR y))]++List.drop (i+1) (eE (l.set i x))=eE (l.set i y):=fun x y=>by rw[yo (by rw[nj];omega),List.set_set]
   have p3: ∀y,(eE (l.set i y)).length=xs.length:=fun y=>by rw[rD,nj,hll]
   cases n
   ·have hgo:=hgo x (by simp[Lq])
    refine jd (aN @l1 (aN @l2 (aN @ll (aN @e1 (aN @e2 (aN @p1 (aN @p3 (hmx oT)))))))) @hbt ?_;refine hgo _ ?_;refine lG ?_;exact fun c hc=>uX hc
   ·have hgo:=hgo (gH x M) (by simp[Lq])
    refine tO (aN @l1 (aN @l2 (aN @ll (aN @e1 (aN @e2 (aN @p1 (aN @p2 (aN @p3 (hmx oT))))))))) @hbt @hinv ?_;refine hgo _ ?_;refine lG ?_;exact fun c hc=>uX hc
  ·obtain rfl:i=xs.length:=oO;have hlp:l=pr.map (·.1):=by
    refine tL (by simp[hll,zl]) fun j h1 h2=> ?_
    have:=(hj j oO).1;rw[ca,bZ h1,ca,bZ (by omega:j<pr.length)]at this
    simpa using this
   have htop:pp pr k=1:=U2 fun p hp=>by
    obtain⟨j,hj2,rfl⟩:=gR hp;have:=(hj j oO).2;rw[ca,bZ hj2]at this;exact this
   have h0:pp pr 0%M=pp pr 0%M:=rfl;have hw1: ∀ _:True,IntKind.i64.wrap ((k:Int)-1)=(k:Int)-1:=fun _=>IntWalk.i64_in _ oO
   clear hR hj;refine jd (aN (hw1 oT) @dJ) @xo ?_;rw[hlp]at ll;have hbit:=fun j (hj:j<xs.length)=>xc (a:=(es.getD j fh).2) (by have:=he _ (aC fh (show j<es.length by omega));simp only[cr,ba]at this;exact this.1)
   have hyg: ∀j,j<xs.length->(eE (pr.map (·.1))).getD j .u= .v (N (pr.getD j (0,0)).1):=fun j hj=>by
    rw[F6 (by simpa[zl]using hj)]
    simp[ca,zl,hj]
   subst hlp;obtain⟨n,hn0⟩: ∃n,n=xs.length:=⟨_,rfl⟩;rw[<-hn0]at ll hyg hbit zg zl l1 l2 hi hll n1 hxM hl;clear hch hlt;refine ak (α:=Nat) (fun k=>k) (fun k=>⟨[(2, .v (.sl (es.map cU))),(9, .rs 1017 0 0 n 1),(15, .p 1025 0 0),(16, .fn (.func 96) [] [.p 1025 0 0, .p 1000 0 0]),(17, .v (.i .i64 ((k:Int)-1)))],[(1025,⟨0,[.v (N (pp pr k%M))],false,some 22⟩),(1017,⟨0,eE (pr.map (·.1)),false,none⟩),(1000,⟨0,[.v (N M), .v (.s o)],false,none⟩)],_⟩) (fun j=>j<=k) k (fun _=>aD _) (aD _) ?_ ?_
   ·rw[hn0];refine lG ?_;exact⟨by rw[htop,hM1],fun c hc=>uX hc⟩
   ·intro k' hk' R hR
    cases k' with
    |zero=>
     exact z0
    |succ k'=>
     have hgo:=hR k' oO oO;obtain⟨z,hz⟩: ∃z,z=pp pr (k'+1)%M:=⟨_,rfl⟩;have hzm:z<M:=by rw[hz];exact aP _ oO
     have e1: ∀ _:True,((k'+1:Nat):Int)-1=(k':Int):=fun _=>oO
     have hge: ∀ _:True,decide ((k':Int)>=0)=true:=fun _=>by simp
     have hwk: ∀ _:True,IntKind.i64.wrap ((k':Int)-1)=(k':Int)-1:=fun _=>IntWalk.i64_in _ oO
     have hstep:pp pr k'%M=(z*z%M)*(pb pr k')%M:=by
      rw[hz,<-cC,jy,Qr]
     rw[<-hz];have hx1:=fun nm=>lT 1025 1000 nm oC o (some 22) none (a:=z) (b:=z) (m:=M) oO oO oO oO
     clear hR;repeat' first|simp only[go_sem,seval,e1 oT,hge oT,gg,gi,pW,ll]|(refine bE (hx1 _) (by simp[aB]) ?_)|refine oE ?_|apply xX<;>intro hc
     refine ak (α:=Nat) (fun j=>n-j) (fun j=>⟨[(2, .v (.sl (es.map cU))),(9, .rs 1017 0 0 n 1),(15, .p 1025 0 0),(16, .fn (.func 96) [] [.p 1025 0 0, .p 1000 0 0]),(17, .v (.i .i64 (k':Int))),(85, .rs 1017 0 0 n 1),(86,E' n),(87,E' j)],[(1025,⟨0,[.v (N ((z*z%M)*pb (pr.take j) k'%M))],false,some 22⟩),(1017,⟨0,eE (pr.map (·.1)),false,none⟩),(1000,⟨0,[.v (N M), .v (.s o)],false,none⟩)],_⟩) (fun j=>j<=n) 0 (fun _=>aD _) (aR _) ?_ ?_
     ·refine lG ?_;exact⟨by simp[pb],fun c hc=>uX hc⟩
     ·intro j hj R' hR'
      by_cases hjn:j<n
      ·have hgo':=hR' (j+1) oO oO;have e2:=getD_map cU es fh (i:=j) oO;have hb:=hbit j hjn k' oO;have hy:=hyg j hjn;obtain⟨-,-,hym⟩:=hxM j hjn;have zj:=zg j hjn;rw[aQ (0,0) oO,Qq]at hgo';have hdec:(num (es.getD j fh).2).testBit k'=decide ((pr.getD j (0,0)).2/2^k'%2=1):=by rw[zj];exact kG
       rw[hdec]at hb;clear zj hdec;generalize pr.getD j (0,0)=p at*;obtain⟨y,q⟩:=p;simp only at hym hb hy hgo';obtain⟨e,hee⟩: ∃e,e=es.getD j fh:=⟨_,rfl⟩;rw[<-hee]at e2 hb;obtain⟨en,ea⟩:=e;simp only[cU]at e2;obtain⟨v,hv⟩: ∃v,v=z*z%M*pb (pr.take j) k'%M:=⟨_,rfl⟩;have hvm:v<M:=by rw[hv];exact aP _ oO
       rw[<-cA,cC,<-hv]at hgo';rw[<-hv];have hx2:=fun nm=>lT 1025 1000 nm oC o (some 22) none (a:=v) (b:=y) (m:=M) oO oO oO oO
       clear hR' hx1 hbit hyg hxM zg
       by_cases hq:q/2^k'%2=1
       ·rw[aV hq]at hb;rw[hq,Nat.pow_one,bw hym]at hgo';repeat' first|simp only[go_sem,seval,l2,ll,e2,hy]|refine cP hb ?_|(refine bE (hx2 _) (by simp[aB]) ?_)|refine oE ?_|apply xX<;>intro hc
        refine hgo' _ ?_;refine lG ?_;exact fun c hc=>uX hc
       ·rw[bL hq]at hb;rw[show q/2^k'%2=0 by omega,Nat.pow_zero,hM1,dK,bw hvm]at hgo'
        refine jd (aN @l2 (aN @ll (aN @e2 @hy))) @hb ?_;refine hgo' _ ?_;refine lG ?_;exact fun c hc=>uX hc
      ·obtain rfl:j=n:=oO;rw[c9 oO,<-hstep];refine eC (aN @ll (hwk oT)) ?_;refine hgo _ ?_;refine lG ?_;exact fun c hc=>uX hc
def Fj (x:Bool×Bytes):Int:=if x.1 then-(num x.2:Int)else num x.2
theorem Dg (x:Bool×Bytes):(Fj x).natAbs=num x.2:=by unfold Fj;split<;>omega
theorem HM {x:Bool×Bytes} (h:cr x=true):je (Fj x)=x:=by
 obtain⟨n,a⟩:=x;simp only[cr,ba,dW]at h;have hz:=sL h.1;have hb:bR (num a)=a:=fm h.1;cases n
 ·simp[je,Fj,zs,zb,hb]
 ·have:a≠[]:=by simpa using h.2
  have hp:num a≠0:=fun e=>this (hz.1 e)
  simp[je,Fj,zs,zb,hb];omega
theorem rA {z:Int} (h:z.natAbs<dC):cr (je z)=true:=V1 h
theorem zRw:cT Zp 2:=⟨fun _=>rfl,fun x y hy=>by simp[Zp,cU,je,PV.cells]at hy;rcases hy with rfl|rfl<;>rfl,fun h=>oO,fun _ x=>rfl⟩
def tz (w:List Int) (t:eD):Int:=Fj (t.neg,t.abs)*w.getD t.var.toNat 0
def WB (ts:List eD) (w:List Int):Prop:= ∀t∈ts,0<=t.var/\t.var<w.length/\cr (t.neg,t.abs)=true/\(w.getD t.var.toNat 0).natAbs<dC/\(Fj (t.neg,t.abs)).natAbs*(w.getD t.var.toNat 0).natAbs<dC
theorem XY:cT (fun t:eD=>PV.s t.base) 1:=⟨fun _=>rfl,fun _ y hy=>by cases fR.1 hy;rfl,fun _ _=>rfl,fun h=>aM rfl h⟩
theorem Yy (w:List Int):cT (fun t=>Zp (tz w t)) 2:=⟨fun x=>zRw.len _,fun x y hy=>zRw.one _ y hy,fun h=>oO,fun _ x=>rfl⟩
theorem DK (n nm:Nat) (g:Int) (tg:Bytes) {ts:List eD} {w:List Int} (hn:ts.length<1000000) (hw:WB ts w):jD prog 427 nm [(n,⟨0,[.v (.sl (w.map Zp))],false,none⟩)] [.v (dr.pv ⟨g,tg,ts⟩), .p n 0 0] (.tup [.v (.sl (ts.map fun t=> .s t.base)), .v (.sl (ts.map fun t=>Zp (tz w t))), .v (E 0)]) []:=by
 have l4:(ts.map eD.pv).length=ts.length:=aL ..;have l5:(w.map Zp).length=w.length:=aL ..
 by_cases h0:ts=[]
 ·subst h0;simp only[dr.pv,bj];refine jD.w mixed call427 func427 rfl (jJ.1 _ _ _ (by cbv)) (jJ.2 _ _ (by cbv)) (obs:=[⟨0,[.v (.sl (w.map Zp))],false,none⟩]) (args:=[.v (.agg [.i .i64 g, .s tg, .sl []]), .p 0 0 0]) (fs:=[none]) (j:=none) (nw:=none) (v:= .tup [.v (.sl []), .v (.sl []), .v (E 0)]) (ns:=[n]) (obsA:=[⟨0,[.v (.sl (w.map Zp))],false,none⟩]) rfl ?_ (by simp) (by simp) rfl (by simp[aW,aH.aU,AV.aU,AV.aU.renL]) (by simp[aW,AV.aU,dp]) (by simp[AV.aU,AV.aU.renL]) (by simp[fC,outs,aH.aU,AV.aU,AV.aU.renL])
  simp only[go_sem,seval];repeat' first|simp only[go_sem,seval,true_or,or_true,false_or,or_false,an,iB,eS,gY,ft,fT,eN,pc,pq,gF,ib,dI,aO,AV.aU,AV.aU.renL,aK]|(refine aj ?_)|refine oE ?_|apply xX<;>intro hc
  all_goals first|rfl|trivial|skip
 have hpos:0<ts.length:=lh.2 h0;simp only[dr.pv];refine jD.w mixed call427 func427 rfl (jJ.1 _ _ _ (by cbv)) (jJ.2 _ _ (by cbv)) (obs:=[⟨0,[.v (.sl (w.map Zp))],false,none⟩]) (args:=[.v (.agg [.i .i64 g, .s tg, .sl (ts.map eD.pv)]), .p 0 0 0]) (fs:=[none]) (j:=none) (nw:=none) (v:= .tup [.v (.sl (ts.map fun t=> .s t.base)), .v (.sl (ts.map fun t=>Zp (tz w t))), .v (E 0)]) (ns:=[n]) (obsA:=[⟨0,[.v (.sl (w.map Zp))],false,none⟩]) rfl ?_ (by simp) (by simp) rfl (by simp[aW,aH.aU,AV.aU,AV.aU.renL]) (by simp[aW,AV.aU,dp]) (by simp[AV.aU,AV.aU.renL]) (by simp[fC,outs,aH.aU,AV.aU,AV.aU.renL])
 simp only[go_sem,seval];refine dY @l4 ?_;refine aj ?_;have e1:=getD_map eD.pv ts fj hpos;obtain⟨t1,t2,t3,t4,t5⟩:=hw _ (aC fj hpos);have r1:aX (fun t:eD=>PV.s t.base) (ts.take (0+1))=aX (fun t:eD=>PV.s t.base) (ts.take 0)++[.v (.s (ts.getD 0 fj).base)]:=by rw[aQ fj hpos,cu];rfl
 have r2:aX (fun t=>Zp (tz w t)) (ts.take (0+1))=aX (fun t=>Zp (tz w t)) (ts.take 0)++[.v (.b (zs (tz w (ts.getD 0 fj)))), .v (.s (zb (tz w (ts.getD 0 fj))))]:=by rw[aQ fj hpos,cu];rfl
 have htz:tz w (ts.getD 0 fj)=Fj ((ts.getD 0 fj).neg,(ts.getD 0 fj).abs)*w.getD (ts.getD 0 fj).var.toNat 0:=rfl;obtain⟨y,hy⟩: ∃y,y=ts.getD 0 fj:=⟨_,rfl⟩;rw[<-hy]at e1 t1 t2 t3 t4 t5 r1 r2 htz;clear hy;obtain⟨b,v,n,a⟩:=y;simp only at t1 t2 t3 t4 t5 r1 htz;have hx:=Me (x:=Fj (n,a)) (y:=w.getD v.toNat 0) (by rw[Dg];simp only[cr,ba]at t3;exact ov t3.1) t4 t5
 have e2:=getD_map Zp w 0 (i:=v.toNat) oO;have ez:Z (Fj (n,a))= .agg [.b n, .s a]:=congrArg cU (HM t3);rw[ez,<-htz]at hx;clear t3 t4 t5 ez htz;generalize tz w ⟨b,v,n,a⟩=z at*;generalize w.getD v.toNat 0=wv at*;simp only[eD.pv]at e1;simp only[Zp,cU,je]at e2;refine jd (aN @l4 (aN @l5 (aN @e1 @e2))) @hx ?_;have hB:=XY;have hZ:=Yy w;refine ak (α:=Nat) (fun j=>ts.length-(j+1)) (fun j=>⟨[(1, .p 0 0 0),(6, .rs 1035 j 0 (j+1) 1),(7, .rs 1039 j 0 (j+1) 2),(13, .v (.sl (ts.map eD.pv))),(14,E' ts.length),(15,E' (j+1))],[(0,⟨0,[.v (.sl (w.map Zp))],false,none⟩),(1035,⟨j,aX (fun t:eD=>PV.s t.base) (ts.take (j+1)),true,some 22⟩),(1039,⟨j,aX (fun t=>Zp (tz w t)) (ts.take (j+1)),true,some 94⟩)],1044⟩) (fun j=>j+1<=ts.length) 0 (fun _=>dF rfl) hpos ?_ ?_
 ·rw[eK,r1,r2,List.take_zero,show aX (fun t:eD=>PV.s t.base) []=[]from rfl,show aX (fun t=>Zp (tz w t)) []=[]from rfl]
  exact lE
 ·clear e1 e2 hx r1 r2 t1 t2;intro j hj R hR;have hj1:(ts.take (j+1)).length=j+1:=by rw[cf];omega
  have q1:=cF hB (ts.take (j+1));have q2:=cR hB (ts.take (j+1));have q5:=cF hZ (ts.take (j+1));have q6:=cR hZ (ts.take (j+1));rw[hj1]at q1 q2 q5 q6;rw[dK]at q1 q2
  by_cases hlt:j+1<ts.length
  ·have hgo:=hR (j+1) oO oO;clear hR;have e1:=getD_map eD.pv ts fj hlt;obtain⟨t1,t2,t3,t4,t5⟩:=hw _ (aC fj hlt);have r1:aX (fun t:eD=>PV.s t.base) (ts.take ((j+1)+1))=aX (fun t:eD=>PV.s t.base) (ts.take (j+1))++[.v (.s (ts.getD (j+1) fj).base)]:=by rw[aQ fj hlt,cu];rfl
   have r2:aX (fun t=>Zp (tz w t)) (ts.take ((j+1)+1))=aX (fun t=>Zp (tz w t)) (ts.take (j+1))++[.v (.b (zs (tz w (ts.getD (j+1) fj)))), .v (.s (zb (tz w (ts.getD (j+1) fj))))]:=by rw[aQ fj hlt,cu];rfl
   have htz:tz w (ts.getD (j+1) fj)=Fj ((ts.getD (j+1) fj).neg,(ts.getD (j+1) fj).abs)*w.getD (ts.getD (j+1) fj).var.toNat 0:=rfl;obtain⟨y,hy⟩: ∃y,y=ts.getD (j+1) fj:=⟨_,rfl⟩;rw[<-hy]at e1 t1 t2 t3 t4 t5 r1 r2 htz;clear hy;obtain⟨b,v,n,a⟩:=y;simp only at t1 t2 t3 t4 t5 r1 htz;have hx:=Me (x:=Fj (n,a)) (y:=w.getD v.toNat 0) (by rw[Dg];simp only[cr,ba]at t3;exact ov t3.1) t4 t5
   have e2:=getD_map Zp w 0 (i:=v.toNat) oO;have ez:Z (Fj (n,a))= .agg [.b n, .s a]:=congrArg cU (HM t3);rw[ez,<-htz]at hx;clear t3 t4 t5 ez htz;generalize tz w ⟨b,v,n,a⟩=z at*;generalize w.getD v.toNat 0=wv at*;simp only[eD.pv]at e1;simp only[Zp,cU,je]at e2;rw[r1,r2]at hgo;refine jd (aN @l4 (aN @l5 (aN @e1 (aN @e2 (aN @q1 (aN @q2 (aN @q5 @q6))))))) @hx ?_;refine hgo _ ?_
   (refine AS.Le.of (by first|decide|omega) ?_ ?_<;>simp[dA,dz,aS,aB,AV.bd,AV.bd.bdL,u8,aq,au,aA])
   all_goals (refine⟨?_,?_⟩<;>(intro c hc;rcases hc with h|h<;>first|exact cI h|(rcases h with rfl|rfl<;>rfl)|(subst h;rfl)))
  ·obtain hjv:j+1=ts.length:=oO;rw[hjv,cg]at q1 q2 q5 q6;rw[hjv,cg];have q3:=dU hB ts;have q4:chunk 1 ts.length (ts.flatMap fun x=>[PV.s x.base])=ts.map fun t=> .s t.base:=dj hB ts
   have q7:=dU hZ ts;have q8:chunk 2 ts.length (ts.flatMap fun x=>(Zp (tz w x)).cells)=ts.map fun t=>Zp (tz w t):=dj hZ ts
   repeat' first|simp only[go_sem,seval,true_or,or_true,false_or,or_false,an,iB,eS,gY,ft,fT,eN,pc,pq,gF,ib,dI,aO,AV.aU,AV.aU.renL,aK,l4,q1,q2,q3,q4,q5,q6,q7,q8,eJ]|refine oE ?_|apply xX<;>intro hc
   all_goals first|rfl|trivial|skip
noncomputable def Mg (gs:List (Bytes×Bytes)) (w:List Int) (q:dr):Nat:=yE (num (gs.getD q.kR.toNat eU).1) (q.terms.map fun t=>(num t.base,je (tz w t)))
noncomputable def uj (s:cK) (w:List Int):List Bytes:=s.eqs.map fun q=>bR (Mg s.groups w q)
theorem BN (s:cK) (w:List Int):(uj s w).length=s.eqs.length:=aL ..
theorem Nw {l:List Bytes} (h:i<l.length):aX PV.s (l.take (i+1))=aX PV.s (l.take i)++[.v (.s (l.getD i []))]:=by
 rw[aQ [] h,cu];rfl
theorem RU {m:Bytes} (lm:m.length<=8) {o:Bytes} (lo:o.length<=8) (hE:gE m o=0) {ts:List eD} {w:List Int} (hn:ts.length<1000000) (hg: ∀t∈ts,jF m o t.base=true) (hw:WB ts w):aE 39 [G m o, .sl (ts.map fun t=> .s t.base), .sl (ts.map fun t=>Zp (tz w t))] (.tup [N (yE (num m) (ts.map fun t=>(num t.base,je (tz w t)))),E 0]):=by
 have h:=sF lm lo hE (xs:=ts.map fun t=>num t.base) (es:=ts.map fun t=>je (tz w t)) (fun x hx=>by
  obtain⟨t,ht,rfl⟩:=cv.1 hx;exact((cL hE).1 (hg t ht)).2) (fun e he=>by
  obtain⟨t,ht,rfl⟩:=cv.1 he;obtain⟨-,-,-,h4,h5⟩:=hw t ht;exact rA (by rw[tz,lj];exact h5)) (by simp) (by simpa using hn)
 rw[List.zip_map',iF,iF]at h;rw[show(ts.map fun t=>PV.s t.base)=ts.map (Fm∘fun t=>num t.base)from oX fun t ht=>(dZ (gG hE (hg t ht))).symm]
 exact h
theorem HK {s:cK} (hs:Bo s) {w:List Int} (hw: ∀q∈s.eqs,WB q.terms w):aE 317 [s.pv, .sl (w.map Zp)] (.tup [.sl ((uj s w).map .s),E 0]):=by
 obtain⟨L,hLd⟩: ∃L,L=uj s w:=⟨_,rfl⟩;have hI:=fun i (h:i<s.eqs.length)=>(show L.getD i []=bR (Mg s.groups w (s.eqs.getD i gN)) by rw[hLd,uj];simp[ca,h])
 have hL:L.length=s.eqs.length:=by rw[hLd,BN]
 rw[<-hLd];clear hLd;obtain⟨gs,vs,es⟩:=s;obtain⟨-,hg,hv,hq,ng,nv,ne,-⟩:=hs;simp only at hg hv hq ng nv ne hw hI hL;have l1:(gs.map dS).length=gs.length:=aL ..;have l3:(es.map dr.pv).length=es.length:=aL ..;unfold cK.pv;simp only
 by_cases h0:es=[]
 ·subst h0;obtain rfl:L=[]:=fg.1 hL;simp only[bj];refine eW call317 func317 ?_;exact On
 have hpos:0<es.length:=lh.2 h0;refine eW call317 func317 ?_;refine dY @l3 ?_;refine aj ?_;have e1:=getD_map dr.pv es gN hpos;obtain⟨q1,q2,q3,q4,q5⟩:=hq _ (aC gN hpos);have kw:=hw _ (aC gN hpos);have r1:=Nw (l:=L) (i:=0) (by rw[hL];exact hpos)
 have r2:=hI 0 hpos;obtain⟨x,hx⟩: ∃x,x=es.getD 0 gN:=⟨_,rfl⟩;rw[<-hx]at e1 q1 q2 q3 q4 q5 kw r2;clear hx;obtain⟨gr,tg,ts⟩:=x;simp only at q1 q2 q3 q4 q5 kw;have hgl:gr.toNat<gs.length:=oO;have kg:=hg _ (aC eU hgl);have e3:=getD_map dS gs eU hgl;simp only[Mg]at r2;obtain⟨z,hz⟩: ∃z,z=gs.getD gr.toNat eU:=⟨_,rfl⟩;rw[<-hz]at q5 kg e3 r2;clear hz q3;obtain⟨m,o⟩:=z;simp only at q5 kg r2;have hcl:=fun nm=>DK 1001 nm gr tg (ts:=ts) (w:=w) oO kw
 have xe:=RU kg.2.1 kg.2.2 kg.1 (ts:=ts) (w:=w) oO (fun t ht=>(q5 t ht).2.2.1) kw
 have xe:aE 39 [G m o, .sl (ts.map fun t=> .s t.base), .sl (ts.map fun t=>Zp (tz w t))] (.tup [.s (L.getD 0 []),E 0]):=by rw[r2];exact xe
 clear r2 kw kg q5;simp only[dS]at e3;simp only[dr.pv]at e1 hcl;repeat' first|simp only[go_sem,seval,l1,l3,e1,e3,bC]|(refine bE (hcl _) (by simp[aB]) ?_)|refine cP xe ?_|refine oE ?_|apply xX<;>intro hc
 have hM:cT PV.s 1:=cT.s;refine ak (α:=Nat) (fun j=>es.length-(j+1)) (fun j=>⟨[(2, .p 1000 0 0),(6, .fn (.func 427) [] [.p 1001 0 0]),(7, .rs 1047 j 0 (j+1) 1),(16, .v (.sl (es.map dr.pv))),(17,E' es.length),(18,E' (j+1))],[(1000,⟨0,[.v (.sl (gs.map dS)), .v (.sl (vs.map cO)), .v (.sl (es.map dr.pv))],false,none⟩),(1001,⟨0,[.v (.sl (w.map Zp))],false,none⟩),(1047,⟨j,aX PV.s (L.take (j+1)),true,some 22⟩)],1051⟩) (fun j=>j+1<=es.length) 0 (fun _=>dF rfl) hpos ?_ ?_
 ·rw[eK,r1,List.take_zero,show aX PV.s ([]:List Bytes)=[]from rfl]
  exact lE
 ·clear e1 e3 q1 q2 q4 xe hcl r1;intro i hi R hR;have hj1:(L.take (i+1)).length=i+1:=by rw[cf];omega
  have p1:=cF hM (L.take (i+1));have p2:=cR hM (L.take (i+1));rw[hj1,dK]at p1 p2
  by_cases hlt:i+1<es.length
  ·have hgo:=hR (i+1) oO oO;clear hR;have e1:=getD_map dr.pv es gN hlt;obtain⟨q1,q2,q3,q4,q5⟩:=hq _ (aC gN hlt);have kw:=hw _ (aC gN hlt);have r1:=Nw (l:=L) (i:=(i+1)) (by rw[hL];exact hlt)
   have r2:=hI (i+1) hlt;obtain⟨x,hx⟩: ∃x,x=es.getD (i+1) gN:=⟨_,rfl⟩;rw[<-hx]at e1 q1 q2 q3 q4 q5 kw r2;clear hx;obtain⟨gr,tg,ts⟩:=x;simp only at q1 q2 q3 q4 q5 kw;have hgl:gr.toNat<gs.length:=oO;have kg:=hg _ (aC eU hgl);have e3:=getD_map dS gs eU hgl;simp only[Mg]at r2;obtain⟨z,hz⟩: ∃z,z=gs.getD gr.toNat eU:=⟨_,rfl⟩;rw[<-hz]at q5 kg e3 r2;clear hz q3;obtain⟨m,o⟩:=z;simp only at q5 kg r2;have hcl:=fun nm=>DK 1001 nm gr tg (ts:=ts) (w:=w) oO kw
   have xe:=RU kg.2.1 kg.2.2 kg.1 (ts:=ts) (w:=w) oO (fun t ht=>(q5 t ht).2.2.1) kw
   have xe:aE 39 [G m o, .sl (ts.map fun t=> .s t.base), .sl (ts.map fun t=>Zp (tz w t))] (.tup [.s (L.getD (i+1) []),E 0]):=by rw[r2];exact xe
   clear r2 kw kg q5;simp only[dS]at e3;simp only[dr.pv]at e1 hcl;rw[r1]at hgo;repeat' first|simp only[go_sem,seval,l1,l3,e1,e3,bC,p1,p2]|(refine bE (hcl _) (by simp[aB]) ?_)|refine cP xe ?_|refine oE ?_|apply xX<;>intro hc
   refine hgo _ ?_
   (refine AS.Le.of (by first|decide|omega) ?_ ?_<;>simp[dA,dz,aS,aB,AV.bd,AV.bd.bdL,u8,aq,au,aA])
   all_goals (intro c hc;rcases hc with h|h<;>first|exact cI h|(subst h;rfl))
  ·obtain hjv:i+1=es.length:=oO;rw[hjv]at p1 p2;have hLt:L.take es.length=L:=c9 oO;rw[hLt]at p1 p2;rw[hjv,hLt];have p3:=dU hM L;have p4:=dj hM L;rw[hL]at p4;repeat' first|simp only[go_sem,seval,l3,p1,p2,p3,p4,eJ]|refine oE ?_|apply xX<;>intro hc
   all_goals exact congrArg (fun l=>PV.tup [PV.sl l,E 0]) p4
theorem P6 (x:Bool×Bytes):aE 425 [cU x] (.b (!cr x)):=by
 obtain⟨n,a⟩:=x;have hv:=gO n a;rw[show(aa a&& !(n&&a==[]))=cr (n,a)from rfl]at hv
 generalize cr (n,a)=b at*;simp only[cU];refine eW call425 func425 ?_;exact z1 @hv
