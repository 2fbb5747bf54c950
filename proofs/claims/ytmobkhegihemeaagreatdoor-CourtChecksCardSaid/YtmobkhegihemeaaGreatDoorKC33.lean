/-
  Part of the proof, part KC33. Own work.
-/
import Derived.Test.YtmobkhegihemeaaGreatDoorKC32
set_option linter.all false
namespace Go.Proofs.YtmobkhegihemeaaGreatDoor
open Go Go.Dom Go.Num
set_option maxRecDepth 100000
set_option maxHeartbeats 16000000
def az (l:List Nat):List AV:=l.map fun x=> .v (N x)
theorem aS (l:List Nat):(az l).length=l.length:=by simp[az]
theorem fb (n:Nat):(List.replicate n [AV.v (.s [])]).flatten=az (List.replicate n 0):=by
 unfold az
 induction n with
 |zero=>rfl
 |succ n ih=>rw[List.replicate_succ,List.flatten_cons,ih];rfl
theorem fa {l:List Nat} {i:Nat} (h:i<l.length):(az l).getD i .u= .v (N (l.getD i 0)):=by
 simp[az,aX,h]
theorem DM {l:List Nat} {o x:Nat}:(az l).set o (.v (N x))=az (l.set o x):=by
 simp[az,qV]
theorem dc {l:List Nat} {o x:Nat} (h:o<l.length):(az l).take o++[.v (N x)]++(az l).drop (o+1)=az (l.set o x):=by
 rw[←DM,um,if_pos (by rw[aS];exact h)];simp
theorem cZ {l:List Nat} {c:AV} {n:Nat} (h:c∈az l):c.bd n=true:=by
 obtain⟨x,-,rfl⟩:=a5.1 h;rfl
def cA (x:Nat):PV:=N x
theorem mZ (xs:List Nat) {i:Nat} (h:i<xs.length):(xs.map cA).getD i .fn0=N (xs.getD i 0):=getD_map cA xs 0 h
theorem Nk {m:Bytes} (lm:m.length≤8) {o:Bytes} (lo:o.length≤8) (hE:gE m o=0) {xs:List Nat} {es:List (Bool×Bytes)} (hx: ∀x∈xs,GP m o x) (he: ∀e∈es,db e=true) (n1:xs.length<1000000) (n2:es.length<1000000):aD Tryz.prog 124 [G m o, .sl (xs.map cA), .sl (es.map eg), .b true] (E 0):=by
 have l1:(xs.map cA).length=xs.length:=aH ..;have l2:(es.map eg).length=es.length:=aH ..;have c3:=jn lm lo;rw[hE]at c3;have hn:=ep lm;refine eW Tryz.call124 Tryz.func124 ?_;repeat' first|simp only[go_sem,seval,l1]|refine sB ?_|(first|apply pX|apply bX)<;>intro hc|refine⟨oD,?_⟩|exact oD|fail
 refine aj (α:=Nat) (fun i=>xs.length-i) (fun i=>⟨[(1, .v (.sl (xs.map cA))),(2, .v (.sl (es.map eg))),(3, .v (.b true)),(4, .p 1000 0 0),(16, .v (.sl (xs.map cA))),(17,E' xs.length),(18,E' i)],[(1000,⟨0,[.v (.s m), .v (.s o)],false,none⟩)],_⟩) (fun i=>i≤xs.length) 0 (fun _=>au _) (aL _) ?_ ?_
 ·exact lE
 ·intro i hi R hR
  by_cases hlt:i<xs.length
  ·have e1:=mZ xs hlt;have k:=hx _ (ay 0 hlt);have hgo:=hR (i+1) (by omega) (by omega)
   have c1:=aM (aP (xs.getD i 0));rw[vN (show xs.getD i 0<18446744073709551616 by have:=k.lt;omega)]at c1
   clear hR k;generalize xs.getD i 0=x at*;repeat' first|simp only[go_sem,seval,l1,e1]|refine cP c1 ?_|refine sB ?_|(first|apply pX|apply bX)<;>intro hc|refine⟨oD,?_⟩|exact oD|fail
   refine hgo _ ?_;exact lE
  ·obtain rfl:i=xs.length:=by omega
   clear hR;repeat' first|simp only[go_sem,seval,l1,l2]|refine sB ?_|(first|apply pX|apply bX)<;>intro hc|refine⟨oD,?_⟩|exact oD|fail
   refine aj (α:=Nat) (fun i=>es.length-i) (fun i=>⟨[(1, .v (.sl (xs.map cA))),(3, .v (.b true)),(4, .p 1000 0 0),(26, .v (.sl (es.map eg))),(27,E' es.length),(28,E' i)],[(1000,⟨0,[.v (.s m), .v (.s o)],false,none⟩)],_⟩) (fun i=>i≤es.length) 0 (fun _=>au _) (aL _) ?_ ?_
   ·exact lE
   ·intro i hi R hR
    by_cases hlt:i<es.length
    ·have e1:=getD_map eg es kZ hlt;have k:=he _ (ay kZ hlt);have hgo:=hR (i+1) (by omega) (by omega)
     obtain⟨x,hxx⟩: ∃x,x=es.getD i kZ:=⟨_,rfl⟩;rw[←hxx]at e1 k;clear hR hxx;obtain⟨n,a⟩:=x;have c2:=fJ n a;rw[show(aa a&& !(n&&a==[]))=true from k]at c2
     simp only[eg]at e1;repeat' first|simp only[go_sem,seval,l2,e1]|refine cP c2 ?_|refine sB ?_|(first|apply pX|apply bX)<;>intro hc|refine⟨oD,?_⟩|exact oD|fail
     refine hgo _ ?_;exact lE
    ·obtain rfl:i=es.length:=by omega
     clear hR;repeat' first|simp only[go_sem,seval,l1,l2]|refine cP c3 ?_|refine sB ?_|(first|apply pX|apply bX)<;>intro hc|refine⟨oD,?_⟩|exact oD|fail
     refine aj (α:=Nat) (fun i=>xs.length-i) (fun i=>⟨[(4, .p 1000 0 0),(43, .v (.sl (xs.map cA))),(44,E' xs.length),(45,E' i)],[(1000,⟨0,[.v (.s m), .v (.s o)],false,none⟩)],_⟩) (fun i=>i≤xs.length) 0 (fun _=>au _) (aL _) ?_ ?_
     ·exact lE
     ·intro i hi R hR
      by_cases hlt:i<xs.length
      ·have e1:=mZ xs hlt;have k:=hx _ (ay 0 hlt);have hgo:=hR (i+1) (by omega) (by omega)
       have c4:=qp lm o (aP (xs.getD i 0));rw[k.has hE lm]at c4;clear hR k;generalize xs.getD i 0=x at*;repeat' first|simp only[go_sem,seval,l1,e1]|refine cP c4 ?_|refine sB ?_|(first|apply pX|apply bX)<;>intro hc|refine⟨oD,?_⟩|exact oD|fail
       refine hgo _ ?_;exact lE
      ·obtain rfl:i=xs.length:=by omega
       repeat' first|simp only[go_sem,seval,l1]|refine sB ?_|(first|apply pX|apply bX)<;>intro hc|refine⟨oD,?_⟩|exact oD|fail
theorem QQ {e:Bytes} (he:aa e=true):cd (num e)<1000000:=by
 have h1:num e<2^1024:=by
  refine a9 (bV e) ?_;have le:e.length≤128:=by simp[aa]at he;exact he.1
  exact fg (cQ (by decide) le) (by decide+kernel)
 unfold cd;split
 ·decide
 ·rename_i h;have:=(ur h).2 h1;omega
theorem LF {xs:List Nat} {es:List (Bool×Bytes)} (M:Nat) (hl:es.length=xs.length):((xs.zip es).map fun p=>(O6 M p.1 p.2,num p.2.2)).length=xs.length∧ ∀i,i<xs.length→((xs.zip es).map fun p=>(O6 M p.1 p.2,num p.2.2)).getD i (0,0)=(O6 M (xs.getD i 0) (es.getD i kZ),num (es.getD i kZ).2):=by
 constructor
 ·simp;omega
 ·intro i hi;have h2:i<es.length:=by omega
  have e:(xs.zip es)[i]?=some (xs[i],es[i]):=Ay.2 ⟨aU hi,aU h2⟩;rw[aX,cH,e,aX,aU hi,aX,aU h2];rfl
theorem IV (n:Nat):n<2^cd n:=by
 unfold cd;split
 ·rename_i h;subst h;decide
 ·exact rp
theorem zx {m:Bytes} (lm:m.length≤8) {o:Bytes} (lo:o.length≤8) (hE:gE m o=0) {xs:List Nat} {es:List (Bool×Bytes)} (hx: ∀x∈xs,GP m o x) (he: ∀e∈es,db e=true) (hl:es.length=xs.length) (n1:xs.length<1000000):aD Tryz.prog 69 [G m o, .sl (xs.map cA), .sl (es.map eg)] (.tup [N (C9 (num m) (xs.zip es)),E 0]):=by
 have l1:(xs.map cA).length=xs.length:=aH ..;have l2:(es.map eg).length=xs.length:=by rw[aH];exact hl
 have hch:=Nk lm lo hE hx he n1 (by omega)
 obtain⟨vm,vo,m1,-,-⟩:=jY hE;have hn:=ep lm;obtain⟨zl,zg⟩:=LF (num m) hl;unfold C9;generalize hpr:((xs.zip es).map fun p=>(O6 (num m) p.1 p.2,num p.2.2))=pr at*
 clear hpr;obtain⟨M,hM⟩: ∃M,M=num m:=⟨_,rfl⟩;have eG:G m o= .agg [N M, .s o]:=by rw[hM,show N (num m)= .s m from congrArg PV.s (fW vm)]
 rw[eG]at hch⊢;have hxM: ∀i,i<xs.length→xs.getD i 0<M∧Nat.gcd (xs.getD i 0) M=1∧(pr.getD i (0,0)).1<M:=fun i hi=>by
  have k:=hx _ (ay 0 hi);refine⟨by rw[hM];exact k.lt,by rw[hM];exact k.O9,?_⟩
  rw[zg i hi,hM];unfold O6;split
  ·exact k.unit.inv.1
  ·exact k.lt
 rw[←hM]at hn m1 zg⊢;clear hx hM eG lm lo hE vm vo;have hM1:1%M=1:=bA (by omega)
 have hN:(az (List.replicate xs.length 0)).length=xs.length:=by simp[az]
 refine eW Tryz.call69 Tryz.func69 ?_;repeat' first|simp only[go_sem,seval,l1,l2,fb,hN,dY,beq_self_eq_true]|refine cP hch ?_|refine sB ?_|(first|apply pX|apply bX)<;>intro hc|refine⟨oD,?_⟩|exact oD|fail
 refine aj (α:=Nat×List Nat×Nat) (fun s=>xs.length-s.1) (fun s=>⟨[(1, .v (.sl (xs.map cA))),(2, .v (.sl (es.map eg))),(3, .p 1000 0 0),(9, .rs 1017 0 0 xs.length 1),(10,E' s.2.2),(35, .v (.sl (xs.map cA))),(36,E' xs.length),(37,E' s.1)],[(1000,⟨0,[.v (N M), .v (.s o)],false,none⟩),(1017,⟨0,az s.2.1,false,none⟩)],_⟩) (fun s=>s.1≤xs.length∧s.2.1.length=xs.length∧s.2.2<1000000∧ ∀j,j<s.1→s.2.1.getD j 0=(pr.getD j (0,0)).1∧(pr.getD j (0,0)).2<2^s.2.2) (0,List.replicate xs.length 0,0) (fun _=>au _) ⟨aL _,by simp,(by decide:0<1000000),fun j hj=>absurd hj (nG _)⟩ ?_ ?_
 ·(refine AS.Le.of (by first|decide|omega) ?_ ?_<;>simp[cl,cj,aF,ar,AV.bd,AV.bd.bdL,u8,ah,ai,aq])
  exact fun c hc=>cZ hc
 ·rintro⟨i,l,k⟩ ⟨hi,hll,hk,hj⟩ R hR;simp only at hi hll hk hj;have ll:(az l).length=xs.length:=by rw[aS];exact hll
  by_cases hlt:i<xs.length
  ·have e1:=mZ xs hlt;have e2:=getD_map eg es kZ (i:=i) (by omega)
   have ke:=he _ (ay kZ (show i<es.length by omega))
   obtain⟨x1,x2,x3⟩:=hxM i hlt;have zi:=zg i hlt;obtain⟨x,hxx⟩: ∃x,x=xs.getD i 0:=⟨_,rfl⟩;obtain⟨e,hee⟩: ∃e,e=es.getD i kZ:=⟨_,rfl⟩;rw[←hxx]at e1 x1 x2 zi;rw[←hee]at e2 ke zi;clear hxx hee;obtain⟨n,a⟩:=e;simp only[db,aZ]at ke;have hbt:=tH ke.1;have hbe:=QQ ke.1;have hmx: ∀ _:True,(if(cd (num a):Int)>(k:Int)then(cd (num a):Int)else(k:Int))=((max k (cd (num a)):Nat):Int):=fun _=>by split<;>omega
   have hinv:=pc (a:=x) (m:=M) (by omega) hn (by omega) x2
   have hgo:=fun y (hy:y=(pr.getD i (0,0)).1)=>hR (i+1,l.set i y,max k (cd (num a))) ⟨by show i+1≤ _;omega,by simp[hll],by show max k _< _;omega,fun j hj2=>by
    by_cases hji:j=i
    ·subst hji;refine⟨by simp[aX,hll,hlt,hy],?_⟩
     rw[zi];exact a9 (IV _) (cQ (by decide) (Nat.le_max_right _ _))
    ·obtain⟨h1,h2⟩:=hj j (by simp only at hj2;omega)
     refine⟨?_,a9 h2 (cQ (by decide) (Nat.le_max_left _ _))⟩
     rw[←h1];simp[aX,mj,l7 hji]⟩ (by show xs.length-(i+1)<xs.length-i;omega)
   rw[zi]at hgo;simp only[eg]at e2;clear hR hj hch zg hxM he;have p1: ∀y,List.take i (az l)++[AV.v (.s (aP y))]++List.drop (i+1) (az l)=az (l.set i y):=fun y=>dc (by omega)
   have p2: ∀x y,List.take i (az (l.set i x))++[AV.v (.s (aP y))]++List.drop (i+1) (az (l.set i x))=az (l.set i y):=fun x y=>by rw[dc (by rw[eP];omega),List.set_set]
   have p3: ∀y,(az (l.set i y)).length=xs.length:=fun y=>by rw[aS,eP,hll]
   cases n
   ·have hgo:=hgo x (by simp[O6])
    repeat' first|simp only[go_sem,seval,l1,l2,ll,e1,e2,p1,p3,hmx trivial]|refine cP hbt ?_|refine sB ?_|(first|apply pX|apply bX)<;>intro hc|refine⟨oD,?_⟩|exact oD|fail
    refine hgo _ ?_
    (refine AS.Le.of (by first|decide|omega) ?_ ?_<;>simp[cl,cj,aF,ar,AV.bd,AV.bd.bdL,u8,ah,ai,aq])
    exact fun c hc=>cZ hc
   ·have hgo:=hgo (eV x M) (by simp[O6])
    repeat' first|simp only[go_sem,seval,l1,l2,ll,e1,e2,p1,p2,p3,hmx trivial]|refine cP hbt ?_|refine cP hinv ?_|refine sB ?_|(first|apply pX|apply bX)<;>intro hc|refine⟨oD,?_⟩|exact oD|fail
    refine hgo _ ?_
    (refine AS.Le.of (by first|decide|omega) ?_ ?_<;>simp[cl,cj,aF,ar,AV.bd,AV.bd.bdL,u8,ah,ai,aq])
    exact fun c hc=>cZ hc
  ·obtain rfl:i=xs.length:=by omega
   have hlp:l=pr.map (·.1):=by
    refine ry (by simp[hll,zl]) fun j h1 h2=> ?_
    have:=(hj j (by omega)).1
    rw[aX,aU h1,aX,aU (by omega:j<pr.length)]at this
    simpa using this
   have htop:pp pr k=1:=RV fun p hp=>by
    obtain⟨j,hj2,rfl⟩:=gb hp;have:=(hj j (by omega)).2
    rw[aX,aU hj2]at this;exact this
   have h0:pp pr 0%M=pp pr 0%M:=rfl;have hw1: ∀ _:True,IntKind.i64.wrap ((k:Int)-1)=(k:Int)-1:=fun _=>IntWalk.i64_in _ (by omega)
   clear hR hj;repeat' first|simp only[go_sem,seval,hw1 trivial,dY]|refine cP pV ?_|refine sB ?_|(first|apply pX|apply bX)<;>intro hc|refine⟨oD,?_⟩|exact oD|fail
   rw[hlp]at ll;have hbit:=fun j (hj:j<xs.length)=>uM (a:=(es.getD j kZ).2) (by have:=he _ (ay kZ (show j<es.length by omega));simp only[db,aZ]at this;exact this.1)
   have hyg: ∀j,j<xs.length→(az (pr.map (·.1))).getD j .u= .v (N (pr.getD j (0,0)).1):=fun j hj=>by
    rw[fa (by simpa[zl]using hj)]
    simp[aX,zl,hj]
   subst hlp;obtain⟨n,hn0⟩: ∃n,n=xs.length:=⟨_,rfl⟩;rw[←hn0]at ll hyg hbit zg zl l1 l2 hi hll n1 hxM hl;clear hch hlt;refine aj (α:=Nat) (fun k=>k) (fun k=>⟨[(2, .v (.sl (es.map eg))),(9, .rs 1017 0 0 n 1),(15, .p 1025 0 0),(16, .fn (.func 127) [] [.p 1025 0 0, .p 1000 0 0]),(17, .v (.i .i64 ((k:Int)-1)))],[(1025,⟨0,[.v (N (pp pr k%M))],false,some 22⟩),(1017,⟨0,az (pr.map (·.1)),false,none⟩),(1000,⟨0,[.v (N M), .v (.s o)],false,none⟩)],_⟩) (fun j=>j≤k) k (fun _=>au _) (au _) ?_ ?_
   ·rw[hn0]
    (refine AS.Le.of (by first|decide|omega) ?_ ?_<;>simp[cl,cj,aF,ar,AV.bd,AV.bd.bdL,u8,ah,ai,aq])
    exact⟨by rw[htop,hM1],fun c hc=>cZ hc⟩
   ·intro k' hk' R hR
    cases k' with
    |zero=>
     repeat' first|simp only[go_sem,seval]|refine sB ?_|(first|apply pX|apply bX)<;>intro hc|refine⟨oD,?_⟩|exact oD|fail
    |succ k'=>
     have hgo:=hR k' (by omega) (by omega)
     obtain⟨z,hz⟩: ∃z,z=pp pr (k'+1)%M:=⟨_,rfl⟩;have hzm:z<M:=by rw[hz];exact aG _ (by omega)
     have e1: ∀ _:True,((k'+1:Nat):Int)-1=(k':Int):=fun _=>by omega
     have hge: ∀ _:True,decide ((k':Int)≥0)=true:=fun _=>by simp
     have hwk: ∀ _:True,IntKind.i64.wrap ((k':Int)-1)=(k':Int)-1:=fun _=>IntWalk.i64_in _ (by omega)
     have hstep:pp pr k'%M=(z*z%M)*(pb pr k')%M:=by
      rw[hz,←cz,iV,NY]
     rw[←hz];have hx1:=fun nm=>kK 1025 1000 nm (by decide) o (some 22) none (a:=z) (b:=z) (m:=M) (by omega) (by omega) (by omega) (by omega)
     clear hR;repeat' first|simp only[go_sem,seval,e1 trivial,hge trivial,cb,bI,om,ll]|(refine br (hx1 _) (by simp[ar]) ?_)|refine sB ?_|(first|apply pX|apply bX)<;>intro hc|refine⟨oD,?_⟩|exact oD|fail
     refine aj (α:=Nat) (fun j=>n-j) (fun j=>⟨[(2, .v (.sl (es.map eg))),(9, .rs 1017 0 0 n 1),(15, .p 1025 0 0),(16, .fn (.func 127) [] [.p 1025 0 0, .p 1000 0 0]),(17, .v (.i .i64 (k':Int))),(85, .rs 1017 0 0 n 1),(86,E' n),(87,E' j)],[(1025,⟨0,[.v (N ((z*z%M)*pb (pr.take j) k'%M))],false,some 22⟩),(1017,⟨0,az (pr.map (·.1)),false,none⟩),(1000,⟨0,[.v (N M), .v (.s o)],false,none⟩)],_⟩) (fun j=>j≤n) 0 (fun _=>au _) (aL _) ?_ ?_
     ·(refine AS.Le.of (by first|decide|omega) ?_ ?_<;>simp[cl,cj,aF,ar,AV.bd,AV.bd.bdL,u8,ah,ai,aq])
      exact⟨by simp[pb],fun c hc=>cZ hc⟩
     ·intro j hj R' hR'
      by_cases hjn:j<n
      ·have hgo':=hR' (j+1) (by omega) (by omega)
       have e2:=getD_map eg es kZ (i:=j) (by omega)
       have hb:=hbit j hjn k' (by omega)
       have hy:=hyg j hjn;obtain⟨-,-,hym⟩:=hxM j hjn;have zj:=zg j hjn;rw[bj (0,0) (by omega),NW]at hgo'
       have hdec:(num (es.getD j kZ).2).testBit k'=decide ((pr.getD j (0,0)).2/2^k'%2=1):=by rw[zj];exact jS
       rw[hdec]at hb;clear zj hdec;generalize pr.getD j (0,0)=p at*;obtain⟨y,q⟩:=p;simp only at hym hb hy hgo';obtain⟨e,hee⟩: ∃e,e=es.getD j kZ:=⟨_,rfl⟩;rw[←hee]at e2 hb;obtain⟨en,ea⟩:=e;simp only[eg]at e2;obtain⟨v,hv⟩: ∃v,v=z*z%M*pb (pr.take j) k'%M:=⟨_,rfl⟩;have hvm:v<M:=by rw[hv];exact aG _ (by omega)
       rw[←bY,cz,←hv]at hgo';rw[←hv];have hx2:=fun nm=>kK 1025 1000 nm (by decide) o (some 22) none (a:=v) (b:=y) (m:=M) (by omega) (by omega) (by omega) (by omega)
       clear hR' hx1 hbit hyg hxM zg
       by_cases hq:q/2^k'%2=1
       ·rw[decide_eq_true hq]at hb;rw[hq,Nat.pow_one,bA hym]at hgo';repeat' first|simp only[go_sem,seval,l2,ll,e2,hy]|refine cP hb ?_|(refine br (hx2 _) (by simp[ar]) ?_)|refine sB ?_|(first|apply pX|apply bX)<;>intro hc|refine⟨oD,?_⟩|exact oD|fail
        refine hgo' _ ?_
        (refine AS.Le.of (by first|decide|omega) ?_ ?_<;>simp[cl,cj,aF,ar,AV.bd,AV.bd.bdL,u8,ah,ai,aq])
        exact fun c hc=>cZ hc
       ·rw[decide_eq_false hq]at hb;rw[show q/2^k'%2=0 by omega,Nat.pow_zero,hM1,dP,bA hvm]at hgo'
        repeat' first|simp only[go_sem,seval,l2,ll,e2,hy]|refine cP hb ?_|refine sB ?_|(first|apply pX|apply bX)<;>intro hc|refine⟨oD,?_⟩|exact oD|fail
        refine hgo' _ ?_
        (refine AS.Le.of (by first|decide|omega) ?_ ?_<;>simp[cl,cj,aF,ar,AV.bd,AV.bd.bdL,u8,ah,ai,aq])
        exact fun c hc=>cZ hc
      ·obtain rfl:j=n:=by omega
       rw[bM (by omega),←hstep]
       repeat' first|simp only[go_sem,seval,ll,hwk trivial]|refine sB ?_|(first|apply pX|apply bX)<;>intro hc|refine⟨oD,?_⟩|exact oD|fail
       refine hgo _ ?_
       (refine AS.Le.of (by first|decide|omega) ?_ ?_<;>simp[cl,cj,aF,ar,AV.bd,AV.bd.bdL,u8,ah,ai,aq])
       exact fun c hc=>cZ hc
def Gi (x:Bool×Bytes):Int:=if x.1 then-(num x.2:Int)else num x.2
theorem A6 (x:Bool×Bytes):(Gi x).natAbs=num x.2:=by unfold Gi;split<;>omega
theorem Fp {x:Bool×Bytes} (h:db x=true):lf (Gi x)=x:=by
 obtain⟨n,a⟩:=x;simp only[db,aZ,fF]at h;have hz:=qB h.1;have hb:aP (num a)=a:=fW h.1;cases n
 ·simp[lf,Gi,zs,zb,hb]
 ·have:a≠[]:=by simpa using h.2
  have hp:num a≠0:=fun e=>this (hz.1 e)
  simp[lf,Gi,zs,zb,hb];omega
theorem r5 {z:Int} (h:z.natAbs<du):db (lf z)=true:=SI h
theorem WG:eQ Zp 2:=⟨fun _=>rfl,fun x y hy=>by simp[Zp,eg,lf,PV.cells]at hy;rcases hy with rfl|rfl<;>rfl,fun h=>by omega,fun _ x=>rfl⟩
def tz (w:List Int) (t:fR):Int:=Gi (t.neg,t.abs)*w.getD t.var.toNat 0
def WB (ts:List fR) (w:List Int):Prop:= ∀t∈ts,0≤t.var∧t.var<w.length∧db (t.neg,t.abs)=true∧(w.getD t.var.toNat 0).natAbs<du∧(Gi (t.neg,t.abs)).natAbs*(w.getD t.var.toNat 0).natAbs<du
theorem Un:eQ (fun t:fR=>PV.s t.base) 1:=⟨fun _=>rfl,fun _ y hy=>by cases cO.1 hy;rfl,fun _ _=>rfl,fun h=>absurd rfl h⟩
theorem UK (w:List Int):eQ (fun t=>Zp (tz w t)) 2:=⟨fun x=>WG.len _,fun x y hy=>WG.one _ y hy,fun h=>by omega,fun _ x=>rfl⟩
theorem Bo (n nm:Nat) (g:Int) (tg:Bytes) {ts:List fR} {w:List Int} (hn:ts.length<1000000) (hw:WB ts w):ik Tryz.prog 325 nm [(n,⟨0,[.v (.sl (w.map Zp))],false,none⟩)] [.v (eE.pv ⟨g,tg,ts⟩), .p n 0 0] (.tup [.v (.sl (ts.map fun t=> .s t.base)), .v (.sl (ts.map fun t=>Zp (tz w t))), .v (E 0)]) []:=by
 have l4:(ts.map fR.pv).length=ts.length:=aH ..;have l5:(w.map Zp).length=w.length:=aH ..
 by_cases h0:ts=[]
 ·subst h0;simp only[eE.pv,bG];refine ik.w mixed Tryz.call325 Tryz.func325 rfl (iL.1 _ _ _ (by cbv)) (iL.2 _ _ (by cbv)) (obs:=[⟨0,[.v (.sl (w.map Zp))],false,none⟩]) (args:=[.v (.agg [.i .i64 g, .s tg, .sl []]), .p 0 0 0]) (fs:=[none]) (j:=none) (nw:=none) (v:= .tup [.v (.sl []), .v (.sl []), .v (E 0)]) (ns:=[n]) (obsA:=[⟨0,[.v (.sl (w.map Zp))],false,none⟩]) rfl ?_ (by simp) (by simp) rfl (by simp[aQ,ax.aI,AV.aI,AV.aI.renL]) (by simp[aQ,AV.aI,cf]) (by simp[AV.aI,AV.aI.renL]) (by simp[eH,outs,ax.aI,AV.aI,AV.aI.renL])
  simp only[go_sem,seval];repeat' first|simp only[go_sem,seval,true_or,or_true,false_or,or_false,af,fU,dH,fG,eY,eZ,dJ,mR,nM,ft,fK,cJ,aE,AV.aI,AV.aI.renL,aA]|(refine ae ?_)|refine sB ?_|(first|apply pX|apply bX)<;>intro hc|refine⟨oD,?_⟩|exact oD|fail
  all_goals first|rfl|trivial|skip
 have hpos:0<ts.length:=ky.2 h0;simp only[eE.pv];refine ik.w mixed Tryz.call325 Tryz.func325 rfl (iL.1 _ _ _ (by cbv)) (iL.2 _ _ (by cbv)) (obs:=[⟨0,[.v (.sl (w.map Zp))],false,none⟩]) (args:=[.v (.agg [.i .i64 g, .s tg, .sl (ts.map fR.pv)]), .p 0 0 0]) (fs:=[none]) (j:=none) (nw:=none) (v:= .tup [.v (.sl (ts.map fun t=> .s t.base)), .v (.sl (ts.map fun t=>Zp (tz w t))), .v (E 0)]) (ns:=[n]) (obsA:=[⟨0,[.v (.sl (w.map Zp))],false,none⟩]) rfl ?_ (by simp) (by simp) rfl (by simp[aQ,ax.aI,AV.aI,AV.aI.renL]) (by simp[aQ,AV.aI,cf]) (by simp[AV.aI,AV.aI.renL]) (by simp[eH,outs,ax.aI,AV.aI,AV.aI.renL])
 simp only[go_sem,seval];repeat' first|simp only[go_sem,seval,l4]|refine sB ?_|(first|apply pX|apply bX)<;>intro hc|refine⟨oD,?_⟩|exact oD|fail
 refine ae ?_;have e1:=getD_map fR.pv ts ka hpos;obtain⟨t1,t2,t3,t4,t5⟩:=hw _ (ay ka hpos);have r1:bJ (fun t:fR=>PV.s t.base) (ts.take (0+1))=bJ (fun t:fR=>PV.s t.base) (ts.take 0)++[.v (.s (ts.getD 0 ka).base)]:=by rw[bj ka hpos,dM];rfl
 have r2:bJ (fun t=>Zp (tz w t)) (ts.take (0+1))=bJ (fun t=>Zp (tz w t)) (ts.take 0)++[.v (.b (zs (tz w (ts.getD 0 ka)))), .v (.s (zb (tz w (ts.getD 0 ka))))]:=by rw[bj ka hpos,dM];rfl
 have htz:tz w (ts.getD 0 ka)=Gi ((ts.getD 0 ka).neg,(ts.getD 0 ka).abs)*w.getD (ts.getD 0 ka).var.toNat 0:=rfl;obtain⟨y,hy⟩: ∃y,y=ts.getD 0 ka:=⟨_,rfl⟩;rw[←hy]at e1 t1 t2 t3 t4 t5 r1 r2 htz;clear hy;obtain⟨b,v,n,a⟩:=y;simp only at t1 t2 t3 t4 t5 r1 htz;have hx:=JN (x:=Gi (n,a)) (y:=w.getD v.toNat 0) (by rw[A6];simp only[db,aZ]at t3;exact sk t3.1) t4 t5
 have e2:=getD_map Zp w 0 (i:=v.toNat) (by omega)
 have ez:Z (Gi (n,a))= .agg [.b n, .s a]:=congrArg eg (Fp t3);rw[ez,←htz]at hx;clear t3 t4 t5 ez htz;generalize tz w ⟨b,v,n,a⟩=z at*;generalize w.getD v.toNat 0=wv at*;simp only[fR.pv]at e1;simp only[Zp,eg,lf]at e2;repeat' first|simp only[go_sem,seval,l4,l5,e1,e2]|refine cP hx ?_|refine sB ?_|(first|apply pX|apply bX)<;>intro hc|refine⟨oD,?_⟩|exact oD|fail
 have hB:=Un;have hZ:=UK w;refine aj (α:=Nat) (fun j=>ts.length-(j+1)) (fun j=>⟨[(1, .p 0 0 0),(6, .rs 1035 j 0 (j+1) 1),(7, .rs 1039 j 0 (j+1) 2),(13, .v (.sl (ts.map fR.pv))),(14,E' ts.length),(15,E' (j+1))],[(0,⟨0,[.v (.sl (w.map Zp))],false,none⟩),(1035,⟨j,bJ (fun t:fR=>PV.s t.base) (ts.take (j+1)),true,some 22⟩),(1039,⟨j,bJ (fun t=>Zp (tz w t)) (ts.take (j+1)),true,some 49⟩)],1044⟩) (fun j=>j+1≤ts.length) 0 (fun _=>bQ rfl) hpos ?_ ?_
 ·rw[cW,r1,r2,List.take_zero,show bJ (fun t:fR=>PV.s t.base) []=[]from rfl,show bJ (fun t=>Zp (tz w t)) []=[]from rfl]
  exact lE
 ·clear e1 e2 hx r1 r2 t1 t2;intro j hj R hR;have hj1:(ts.take (j+1)).length=j+1:=by rw[cG];omega
  have q1:=dI hB (ts.take (j+1));have q2:=dT hB (ts.take (j+1));have q5:=dI hZ (ts.take (j+1));have q6:=dT hZ (ts.take (j+1));rw[hj1]at q1 q2 q5 q6;rw[dP]at q1 q2
  by_cases hlt:j+1<ts.length
  ·have hgo:=hR (j+1) (by omega) (by omega)
   clear hR;have e1:=getD_map fR.pv ts ka hlt;obtain⟨t1,t2,t3,t4,t5⟩:=hw _ (ay ka hlt);have r1:bJ (fun t:fR=>PV.s t.base) (ts.take ((j+1)+1))=bJ (fun t:fR=>PV.s t.base) (ts.take (j+1))++[.v (.s (ts.getD (j+1) ka).base)]:=by rw[bj ka hlt,dM];rfl
   have r2:bJ (fun t=>Zp (tz w t)) (ts.take ((j+1)+1))=bJ (fun t=>Zp (tz w t)) (ts.take (j+1))++[.v (.b (zs (tz w (ts.getD (j+1) ka)))), .v (.s (zb (tz w (ts.getD (j+1) ka))))]:=by rw[bj ka hlt,dM];rfl
   have htz:tz w (ts.getD (j+1) ka)=Gi ((ts.getD (j+1) ka).neg,(ts.getD (j+1) ka).abs)*w.getD (ts.getD (j+1) ka).var.toNat 0:=rfl;obtain⟨y,hy⟩: ∃y,y=ts.getD (j+1) ka:=⟨_,rfl⟩;rw[←hy]at e1 t1 t2 t3 t4 t5 r1 r2 htz;clear hy;obtain⟨b,v,n,a⟩:=y;simp only at t1 t2 t3 t4 t5 r1 htz;have hx:=JN (x:=Gi (n,a)) (y:=w.getD v.toNat 0) (by rw[A6];simp only[db,aZ]at t3;exact sk t3.1) t4 t5
   have e2:=getD_map Zp w 0 (i:=v.toNat) (by omega)
   have ez:Z (Gi (n,a))= .agg [.b n, .s a]:=congrArg eg (Fp t3);rw[ez,←htz]at hx;clear t3 t4 t5 ez htz;generalize tz w ⟨b,v,n,a⟩=z at*;generalize w.getD v.toNat 0=wv at*;simp only[fR.pv]at e1;simp only[Zp,eg,lf]at e2;rw[r1,r2]at hgo;repeat' first|simp only[go_sem,seval,l4,l5,e1,e2,q1,q2,q5,q6]|refine cP hx ?_|refine sB ?_|(first|apply pX|apply bX)<;>intro hc|refine⟨oD,?_⟩|exact oD|fail
   refine hgo _ ?_
   (refine AS.Le.of (by first|decide|omega) ?_ ?_<;>simp[cl,cj,aF,ar,AV.bd,AV.bd.bdL,u8,ah,ai,aq])
   all_goals (refine⟨?_,?_⟩<;>(intro c hc;rcases hc with h|h<;>first|exact ey h|(rcases h with rfl|rfl<;>rfl)|(subst h;rfl)))
  ·obtain hjv:j+1=ts.length:=by omega
   rw[hjv,cM]at q1 q2 q5 q6;rw[hjv,cM];have q3:=fx hB ts;have q4:chunk 1 ts.length (ts.flatMap fun x=>[PV.s x.base])=ts.map fun t=> .s t.base:=dL hB ts
   have q7:=fx hZ ts;have q8:chunk 2 ts.length (ts.flatMap fun x=>(Zp (tz w x)).cells)=ts.map fun t=>Zp (tz w t):=dL hZ ts
   repeat' first|simp only[go_sem,seval,true_or,or_true,false_or,or_false,af,fU,dH,fG,eY,eZ,dJ,mR,nM,ft,fK,cJ,aE,AV.aI,AV.aI.renL,aA,l4,q1,q2,q3,q4,q5,q6,q7,q8,fy]|refine sB ?_|(first|apply pX|apply bX)<;>intro hc|refine⟨oD,?_⟩|exact oD|fail
   all_goals first|rfl|trivial|skip
noncomputable def Q6 (gs:List (Bytes×Bytes)) (w:List Int) (q:eE):Nat:=C9 (num (gs.getD q.lF.toNat gO).1) (q.terms.map fun t=>(num t.base,lf (tz w t)))
noncomputable def vT (s:dy) (w:List Int):List Bytes:=s.eqs.map fun q=>aP (Q6 s.groups w q)
theorem zC (s:dy) (w:List Int):(vT s w).length=s.eqs.length:=aH ..
theorem KX {l:List Bytes} {i:Nat} (h:i<l.length):bJ PV.s (l.take (i+1))=bJ PV.s (l.take i)++[.v (.s (l.getD i []))]:=by
 rw[bj [] h,dM];rfl
theorem Px {m:Bytes} (lm:m.length≤8) {o:Bytes} (lo:o.length≤8) (hE:gE m o=0) {ts:List fR} {w:List Int} (hn:ts.length<1000000) (hg: ∀t∈ts,jg m o t.base=true) (hw:WB ts w):aD Tryz.prog 69 [G m o, .sl (ts.map fun t=> .s t.base), .sl (ts.map fun t=>Zp (tz w t))] (.tup [N (C9 (num m) (ts.map fun t=>(num t.base,lf (tz w t)))),E 0]):=by
 have h:=zx lm lo hE (xs:=ts.map fun t=>num t.base) (es:=ts.map fun t=>lf (tz w t)) (fun x hx=>by
  obtain⟨t,ht,rfl⟩:=a5.1 hx;exact((dp hE).1 (hg t ht)).2) (fun e he=>by
  obtain⟨t,ht,rfl⟩:=a5.1 he;obtain⟨-,-,-,h4,h5⟩:=hw t ht;exact r5 (by rw[tz,kC];exact h5)) (by simp) (by simpa using hn)
 rw[List.zip_map',jE,jE]at h;rw[show(ts.map fun t=>PV.s t.base)=ts.map (cA∘fun t=>num t.base)from l9 fun t ht=>(fq (px hE (hg t ht))).symm]
 exact h
theorem Fm {s:dy} (hs:Be s) {w:List Int} (hw: ∀q∈s.eqs,WB q.terms w):aD Tryz.prog 255 [s.pv, .sl (w.map Zp)] (.tup [.sl ((vT s w).map .s),E 0]):=by
 obtain⟨L,hLd⟩: ∃L,L=vT s w:=⟨_,rfl⟩;have hI:=fun i (h:i<s.eqs.length)=>(show L.getD i []=aP (Q6 s.groups w (s.eqs.getD i ku)) by rw[hLd,vT];simp[aX,h])
 have hL:L.length=s.eqs.length:=by rw[hLd,zC]
 rw[←hLd];clear hLd;obtain⟨gs,vs,es⟩:=s;obtain⟨-,hg,hv,hq,ng,nv,ne,-⟩:=hs;simp only at hg hv hq ng nv ne hw hI hL;have l1:(gs.map gG).length=gs.length:=aH ..;have l3:(es.map eE.pv).length=es.length:=aH ..;unfold dy.pv;simp only
 by_cases h0:es=[]
 ·subst h0;obtain rfl:L=[]:=jz.1 hL;simp only[bG];refine eW Tryz.call255 Tryz.func255 ?_;repeat' first|simp only[go_sem,seval]|(refine ae ?_)|refine sB ?_|(first|apply pX|apply bX)<;>intro hc|refine⟨oD,?_⟩|exact oD|fail
 have hpos:0<es.length:=ky.2 h0;refine eW Tryz.call255 Tryz.func255 ?_;repeat' first|simp only[go_sem,seval,l3]|refine sB ?_|(first|apply pX|apply bX)<;>intro hc|refine⟨oD,?_⟩|exact oD|fail
 refine ae ?_;have e1:=getD_map eE.pv es ku hpos;obtain⟨q1,q2,q3,q4,q5⟩:=hq _ (ay ku hpos);have kw:=hw _ (ay ku hpos);have r1:=KX (l:=L) (i:=0) (by rw[hL];exact hpos)
 have r2:=hI 0 hpos;obtain⟨x,hx⟩: ∃x,x=es.getD 0 ku:=⟨_,rfl⟩;rw[←hx]at e1 q1 q2 q3 q4 q5 kw r2;clear hx;obtain⟨gr,tg,ts⟩:=x;simp only at q1 q2 q3 q4 q5 kw;have hgl:gr.toNat<gs.length:=by omega
 have kg:=hg _ (ay gO hgl);have e3:=getD_map gG gs gO hgl;simp only[Q6]at r2;obtain⟨z,hz⟩: ∃z,z=gs.getD gr.toNat gO:=⟨_,rfl⟩;rw[←hz]at q5 kg e3 r2;clear hz q3;obtain⟨m,o⟩:=z;simp only at q5 kg r2;have hcl:=fun nm=>Bo 1001 nm gr tg (ts:=ts) (w:=w) (by omega) kw
 have xe:=Px kg.2.1 kg.2.2 kg.1 (ts:=ts) (w:=w) (by omega) (fun t ht=>(q5 t ht).2.2.1) kw
 have xe:aD Tryz.prog 69 [G m o, .sl (ts.map fun t=> .s t.base), .sl (ts.map fun t=>Zp (tz w t))] (.tup [.s (L.getD 0 []),E 0]):=by rw[r2];exact xe
 clear r2 kw kg q5;simp only[gG]at e3;simp only[eE.pv]at e1 hcl;repeat' first|simp only[go_sem,seval,l1,l3,e1,e3,aN]|(refine br (hcl _) (by simp[ar]) ?_)|refine cP xe ?_|refine sB ?_|(first|apply pX|apply bX)<;>intro hc|refine⟨oD,?_⟩|exact oD|fail
 have hM:eQ PV.s 1:=eQ.s;refine aj (α:=Nat) (fun j=>es.length-(j+1)) (fun j=>⟨[(2, .p 1000 0 0),(6, .fn (.func 325) [] [.p 1001 0 0]),(7, .rs 1047 j 0 (j+1) 1),(16, .v (.sl (es.map eE.pv))),(17,E' es.length),(18,E' (j+1))],[(1000,⟨0,[.v (.sl (gs.map gG)), .v (.sl (vs.map dC)), .v (.sl (es.map eE.pv))],false,none⟩),(1001,⟨0,[.v (.sl (w.map Zp))],false,none⟩),(1047,⟨j,bJ PV.s (L.take (j+1)),true,some 22⟩)],1051⟩) (fun j=>j+1≤es.length) 0 (fun _=>bQ rfl) hpos ?_ ?_
 ·rw[cW,r1,List.take_zero,show bJ PV.s ([]:List Bytes)=[]from rfl]
  exact lE
 ·clear e1 e3 q1 q2 q4 xe hcl r1;intro i hi R hR;have hj1:(L.take (i+1)).length=i+1:=by rw[cG];omega
  have p1:=dI hM (L.take (i+1));have p2:=dT hM (L.take (i+1));rw[hj1,dP]at p1 p2
  by_cases hlt:i+1<es.length
  ·have hgo:=hR (i+1) (by omega) (by omega)
   clear hR;have e1:=getD_map eE.pv es ku hlt;obtain⟨q1,q2,q3,q4,q5⟩:=hq _ (ay ku hlt);have kw:=hw _ (ay ku hlt);have r1:=KX (l:=L) (i:=(i+1)) (by rw[hL];exact hlt)
   have r2:=hI (i+1) hlt;obtain⟨x,hx⟩: ∃x,x=es.getD (i+1) ku:=⟨_,rfl⟩;rw[←hx]at e1 q1 q2 q3 q4 q5 kw r2;clear hx;obtain⟨gr,tg,ts⟩:=x;simp only at q1 q2 q3 q4 q5 kw;have hgl:gr.toNat<gs.length:=by omega
   have kg:=hg _ (ay gO hgl);have e3:=getD_map gG gs gO hgl;simp only[Q6]at r2;obtain⟨z,hz⟩: ∃z,z=gs.getD gr.toNat gO:=⟨_,rfl⟩;rw[←hz]at q5 kg e3 r2;clear hz q3;obtain⟨m,o⟩:=z;simp only at q5 kg r2;have hcl:=fun nm=>Bo 1001 nm gr tg (ts:=ts) (w:=w) (by omega) kw
   have xe:=Px kg.2.1 kg.2.2 kg.1 (ts:=ts) (w:=w) (by omega) (fun t ht=>(q5 t ht).2.2.1) kw
   have xe:aD Tryz.prog 69 [G m o, .sl (ts.map fun t=> .s t.base), .sl (ts.map fun t=>Zp (tz w t))] (.tup [.s (L.getD (i+1) []),E 0]):=by rw[r2];exact xe
   clear r2 kw kg q5;simp only[gG]at e3;simp only[eE.pv]at e1 hcl;rw[r1]at hgo;repeat' first|simp only[go_sem,seval,l1,l3,e1,e3,aN,p1,p2]|(refine br (hcl _) (by simp[ar]) ?_)|refine cP xe ?_|refine sB ?_|(first|apply pX|apply bX)<;>intro hc|refine⟨oD,?_⟩|exact oD|fail
   refine hgo _ ?_
   (refine AS.Le.of (by first|decide|omega) ?_ ?_<;>simp[cl,cj,aF,ar,AV.bd,AV.bd.bdL,u8,ah,ai,aq])
   all_goals (intro c hc;rcases hc with h|h<;>first|exact ey h|(subst h;rfl))
  ·obtain hjv:i+1=es.length:=by omega
   rw[hjv]at p1 p2;have hLt:L.take es.length=L:=bM (by omega)
   rw[hLt]at p1 p2;rw[hjv,hLt];have p3:=fx hM L;have p4:=dL hM L;rw[hL]at p4;repeat' first|simp only[go_sem,seval,l3,p1,p2,p3,p4,fy]|refine sB ?_|(first|apply pX|apply bX)<;>intro hc|refine⟨oD,?_⟩|exact oD|fail
   all_goals exact congrArg (fun l=>PV.tup [PV.sl l,E 0]) p4
theorem NB (x:Bool×Bytes):aD Tryz.prog 323 [eg x] (.b (!db x)):=by
 obtain⟨n,a⟩:=x;have hv:=fJ n a;rw[show(aa a&& !(n&&a==[]))=db (n,a)from rfl]at hv
 generalize db (n,a)=b at*;simp only[eg];refine eW Tryz.call323 Tryz.func323 ?_;repeat' first|simp only[go_sem,seval]|refine cP hv ?_|refine sB ?_|(first|apply pX|apply bX)<;>intro hc|refine⟨oD,?_⟩|exact oD|fail
end Go.Proofs.YtmobkhegihemeaaGreatDoor
