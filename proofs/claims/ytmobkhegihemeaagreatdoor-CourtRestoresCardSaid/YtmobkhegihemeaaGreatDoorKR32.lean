/-
  Part of the proof, part KR32. Own work.
-/
import Derived.Test.YtmobkhegihemeaaGreatDoorKR31
set_option linter.all false
namespace Go.Proofs.YtmobkhegihemeaaGreatDoor
open Go Go.Dom Go.Num
set_option maxRecDepth 100000
set_option maxHeartbeats 16000000
def aA (l:List Nat):List AV:=l.map fun x=> .v (N x)
theorem aU (l:List Nat):(aA l).length=l.length:=by simp[aA]
theorem fw (n:Nat):(List.replicate n [AV.v (.s [])]).flatten=aA (List.replicate n 0):=by
 unfold aA
 induction n with
 |zero=>rfl
 |succ n ih=>rw[List.replicate_succ,List.flatten_cons,ih];rfl
theorem eB {l:List Nat} {i:Nat} (h:i<l.length):(aA l).getD i .u= .v (N (l.getD i 0)):=by
 simp[aA,List.getD_eq_getElem?_getD,h]
theorem y2 {l:List Nat} {o x:Nat}:(aA l).set o (.v (N x))=aA (l.set o x):=by
 simp[aA,List.map_set]
theorem dF {l:List Nat} {o x:Nat} (h:o<l.length):(aA l).take o++[.v (N x)]++(aA l).drop (o+1)=aA (l.set o x):=by
 rw[←y2,List.set_eq_take_append_cons_drop,if_pos (by rw[aU];exact h)];simp
theorem de {l:List Nat} {c:AV} {n:Nat} (h:c∈aA l):c.bd n=true:=by
 obtain⟨x,-,rfl⟩:=List.mem_map.1 h;rfl
def bO (x:Nat):PV:=N x
theorem ny (xs:List Nat) {i:Nat} (h:i<xs.length):(xs.map bO).getD i .fn0=N (xs.getD i 0):=getD_map bO xs 0 h
theorem Iz {m:Bytes} (lm:m.length≤8) {o:Bytes} (lo:o.length≤8) (hE:gE m o=0) {xs:List Nat} {es:List (Bool×Bytes)} (hx: ∀x∈xs,GP m o x) (he: ∀e∈es,bH e=true) (n1:xs.length<1000000) (n2:es.length<1000000):aB Tryz.prog 124 [G m o, .sl (xs.map bO), .sl (es.map cu), .b true] (E 0):=by
 have l1:(xs.map bO).length=xs.length:=List.length_map ..;have l2:(es.map cu).length=es.length:=List.length_map ..;have c3:=fp lm lo;rw[hE]at c3;have hn:=cE lm;refine eW Tryz.call124 Tryz.func124 ?_;repeat' first|simp only[go_sem,seval,l1]|refine sB ?_|(first|apply pX|apply bX)<;>intro hc|refine⟨oD,?_⟩|exact oD|fail
 refine aj (α:=Nat) (fun i=>xs.length-i) (fun i=>⟨[(1, .v (.sl (xs.map bO))),(2, .v (.sl (es.map cu))),(3, .v (.b true)),(4, .p 1000 0 0),(16, .v (.sl (xs.map bO))),(17,E' xs.length),(18,E' i)],[(1000,⟨0,[.v (.s m), .v (.s o)],false,none⟩)],_⟩) (fun i=>i≤xs.length) 0 (fun _=>Nat.le_refl _) (Nat.zero_le _) ?_ ?_
 ·exact lE
 ·intro i hi R hR
  by_cases hlt:i<xs.length
  ·have e1:=ny xs hlt;have k:=hx _ (au 0 hlt);have hgo:=hR (i+1) (by omega) (by omega)
   have c1:=aF (aK (xs.getD i 0));rw[vN (show xs.getD i 0<18446744073709551616 by have:=k.lt;omega)]at c1
   clear hR k;generalize xs.getD i 0=x at*;repeat' first|simp only[go_sem,seval,l1,e1]|refine cP c1 ?_|refine sB ?_|(first|apply pX|apply bX)<;>intro hc|refine⟨oD,?_⟩|exact oD|fail
   refine hgo _ ?_;exact lE
  ·obtain rfl:i=xs.length:=by omega
   clear hR;repeat' first|simp only[go_sem,seval,l1,l2]|refine sB ?_|(first|apply pX|apply bX)<;>intro hc|refine⟨oD,?_⟩|exact oD|fail
   refine aj (α:=Nat) (fun i=>es.length-i) (fun i=>⟨[(1, .v (.sl (xs.map bO))),(3, .v (.b true)),(4, .p 1000 0 0),(26, .v (.sl (es.map cu))),(27,E' es.length),(28,E' i)],[(1000,⟨0,[.v (.s m), .v (.s o)],false,none⟩)],_⟩) (fun i=>i≤es.length) 0 (fun _=>Nat.le_refl _) (Nat.zero_le _) ?_ ?_
   ·exact lE
   ·intro i hi R hR
    by_cases hlt:i<es.length
    ·have e1:=getD_map cu es ie hlt;have k:=he _ (au ie hlt);have hgo:=hR (i+1) (by omega) (by omega)
     obtain⟨x,hxx⟩: ∃x,x=es.getD i ie:=⟨_,rfl⟩;rw[←hxx]at e1 k;clear hR hxx;obtain⟨n,a⟩:=x;have c2:=dJ n a;rw[show(aa a&& !(n&&a==[]))=true from k]at c2
     simp only[cu]at e1;repeat' first|simp only[go_sem,seval,l2,e1]|refine cP c2 ?_|refine sB ?_|(first|apply pX|apply bX)<;>intro hc|refine⟨oD,?_⟩|exact oD|fail
     refine hgo _ ?_;exact lE
    ·obtain rfl:i=es.length:=by omega
     clear hR;repeat' first|simp only[go_sem,seval,l1,l2]|refine cP c3 ?_|refine sB ?_|(first|apply pX|apply bX)<;>intro hc|refine⟨oD,?_⟩|exact oD|fail
     refine aj (α:=Nat) (fun i=>xs.length-i) (fun i=>⟨[(4, .p 1000 0 0),(43, .v (.sl (xs.map bO))),(44,E' xs.length),(45,E' i)],[(1000,⟨0,[.v (.s m), .v (.s o)],false,none⟩)],_⟩) (fun i=>i≤xs.length) 0 (fun _=>Nat.le_refl _) (Nat.zero_le _) ?_ ?_
     ·exact lE
     ·intro i hi R hR
      by_cases hlt:i<xs.length
      ·have e1:=ny xs hlt;have k:=hx _ (au 0 hlt);have hgo:=hR (i+1) (by omega) (by omega)
       have c4:=me lm o (aK (xs.getD i 0));rw[k.has hE lm]at c4;clear hR k;generalize xs.getD i 0=x at*;repeat' first|simp only[go_sem,seval,l1,e1]|refine cP c4 ?_|refine sB ?_|(first|apply pX|apply bX)<;>intro hc|refine⟨oD,?_⟩|exact oD|fail
       refine hgo _ ?_;exact lE
      ·obtain rfl:i=xs.length:=by omega
       repeat' first|simp only[go_sem,seval,l1]|refine sB ?_|(first|apply pX|apply bX)<;>intro hc|refine⟨oD,?_⟩|exact oD|fail
theorem LP {e:Bytes} (he:aa e=true):dh (num e)<1000000:=by
 have h1:num e<2^1024:=by
  refine Nat.lt_of_lt_of_le (bR e) ?_;have le:e.length≤128:=by simp[aa]at he;exact he.1
  exact Nat.le_trans (Nat.pow_le_pow_right (by decide) le) (by decide+kernel)
 unfold dh;split
 ·decide
 ·rename_i h;have:=(Nat.log2_lt h).2 h1;omega
theorem GZ {xs:List Nat} {es:List (Bool×Bytes)} (M:Nat) (hl:es.length=xs.length):((xs.zip es).map fun p=>(Kl M p.1 p.2,num p.2.2)).length=xs.length∧ ∀i,i<xs.length→((xs.zip es).map fun p=>(Kl M p.1 p.2,num p.2.2)).getD i (0,0)=(Kl M (xs.getD i 0) (es.getD i ie),num (es.getD i ie).2):=by
 constructor
 ·simp;omega
 ·intro i hi;have h2:i<es.length:=by omega
  have e:(xs.zip es)[i]?=some (xs[i],es[i]):=List.getElem?_zip_eq_some.2 ⟨List.getElem?_eq_getElem hi,List.getElem?_eq_getElem h2⟩;rw[List.getD_eq_getElem?_getD,List.getElem?_map,e,List.getD_eq_getElem?_getD,List.getElem?_eq_getElem hi,List.getD_eq_getElem?_getD,List.getElem?_eq_getElem h2];rfl
theorem D0 (n:Nat):n<2^dh n:=by
 unfold dh;split
 ·rename_i h;subst h;decide
 ·exact Nat.lt_log2_self
theorem oU {m:Bytes} (lm:m.length≤8) {o:Bytes} (lo:o.length≤8) (hE:gE m o=0) {xs:List Nat} {es:List (Bool×Bytes)} (hx: ∀x∈xs,GP m o x) (he: ∀e∈es,bH e=true) (hl:es.length=xs.length) (n1:xs.length<1000000):aB Tryz.prog 69 [G m o, .sl (xs.map bO), .sl (es.map cu)] (.tup [N (uH (num m) (xs.zip es)),E 0]):=by
 have l1:(xs.map bO).length=xs.length:=List.length_map ..;have l2:(es.map cu).length=xs.length:=by rw[List.length_map];exact hl
 have hch:=Iz lm lo hE hx he n1 (by omega)
 obtain⟨vm,vo,m1,-,-⟩:=fb hE;have hn:=cE lm;obtain⟨zl,zg⟩:=GZ (num m) hl;unfold uH;generalize hpr:((xs.zip es).map fun p=>(Kl (num m) p.1 p.2,num p.2.2))=pr at*
 clear hpr;obtain⟨M,hM⟩: ∃M,M=num m:=⟨_,rfl⟩;have eG:G m o= .agg [N M, .s o]:=by rw[hM,show N (num m)= .s m from congrArg PV.s (dZ vm)]
 rw[eG]at hch⊢;have hxM: ∀i,i<xs.length→xs.getD i 0<M∧Nat.gcd (xs.getD i 0) M=1∧(pr.getD i (0,0)).1<M:=fun i hi=>by
  have k:=hx _ (au 0 hi);refine⟨by rw[hM];exact k.lt,by rw[hM];exact k.LZ,?_⟩
  rw[zg i hi,hM];unfold Kl;split
  ·exact k.unit.inv.1
  ·exact k.lt
 rw[←hM]at hn m1 zg⊢;clear hx hM eG lm lo hE vm vo;have hM1:1%M=1:=Nat.mod_eq_of_lt (by omega)
 have hN:(aA (List.replicate xs.length 0)).length=xs.length:=by simp[aA]
 refine eW Tryz.call69 Tryz.func69 ?_;repeat' first|simp only[go_sem,seval,l1,l2,fw,hN,cA,beq_self_eq_true]|refine cP hch ?_|refine sB ?_|(first|apply pX|apply bX)<;>intro hc|refine⟨oD,?_⟩|exact oD|fail
 refine aj (α:=Nat×List Nat×Nat) (fun s=>xs.length-s.1) (fun s=>⟨[(1, .v (.sl (xs.map bO))),(2, .v (.sl (es.map cu))),(3, .p 1000 0 0),(9, .rs 1017 0 0 xs.length 1),(10,E' s.2.2),(35, .v (.sl (xs.map bO))),(36,E' xs.length),(37,E' s.1)],[(1000,⟨0,[.v (N M), .v (.s o)],false,none⟩),(1017,⟨0,aA s.2.1,false,none⟩)],_⟩) (fun s=>s.1≤xs.length∧s.2.1.length=xs.length∧s.2.2<1000000∧ ∀j,j<s.1→s.2.1.getD j 0=(pr.getD j (0,0)).1∧(pr.getD j (0,0)).2<2^s.2.2) (0,List.replicate xs.length 0,0) (fun _=>Nat.le_refl _) ⟨Nat.zero_le _,by simp,(by decide:0<1000000),fun j hj=>absurd hj (Nat.not_lt_zero _)⟩ ?_ ?_
 ·(refine AS.Le.of (by first|decide|omega) ?_ ?_<;>simp[bL,bK,aD,ai,AV.bd,AV.bd.bdL,u8,af,ah,ak])
  exact fun c hc=>de hc
 ·rintro⟨i,l,k⟩ ⟨hi,hll,hk,hj⟩ R hR;simp only at hi hll hk hj;have ll:(aA l).length=xs.length:=by rw[aU];exact hll
  by_cases hlt:i<xs.length
  ·have e1:=ny xs hlt;have e2:=getD_map cu es ie (i:=i) (by omega)
   have ke:=he _ (au ie (show i<es.length by omega))
   obtain⟨x1,x2,x3⟩:=hxM i hlt;have zi:=zg i hlt;obtain⟨x,hxx⟩: ∃x,x=xs.getD i 0:=⟨_,rfl⟩;obtain⟨e,hee⟩: ∃e,e=es.getD i ie:=⟨_,rfl⟩;rw[←hxx]at e1 x1 x2 zi;rw[←hee]at e2 ke zi;clear hxx hee;obtain⟨n,a⟩:=e;simp only[bH,Bool.and_eq_true]at ke;have hbt:=oO ke.1;have hbe:=LP ke.1;have hmx: ∀ _:True,(if(dh (num a):Int)>(k:Int)then(dh (num a):Int)else(k:Int))=((max k (dh (num a)):Nat):Int):=fun _=>by split<;>omega
   have hinv:=kO (a:=x) (m:=M) (by omega) hn (by omega) x2
   have hgo:=fun y (hy:y=(pr.getD i (0,0)).1)=>hR (i+1,l.set i y,max k (dh (num a))) ⟨by show i+1≤ _;omega,by simp[hll],by show max k _< _;omega,fun j hj2=>by
    by_cases hji:j=i
    ·subst hji;refine⟨by simp[List.getD_eq_getElem?_getD,hll,hlt,hy],?_⟩
     rw[zi];exact Nat.lt_of_lt_of_le (D0 _) (Nat.pow_le_pow_right (by decide) (Nat.le_max_right _ _))
    ·obtain⟨h1,h2⟩:=hj j (by simp only at hj2;omega)
     refine⟨?_,Nat.lt_of_lt_of_le h2 (Nat.pow_le_pow_right (by decide) (Nat.le_max_left _ _))⟩
     rw[←h1];simp[List.getD_eq_getElem?_getD,List.getElem?_set,Ne.symm hji]⟩ (by show xs.length-(i+1)<xs.length-i;omega)
   rw[zi]at hgo;simp only[cu]at e2;clear hR hj hch zg hxM he;have p1: ∀y,List.take i (aA l)++[AV.v (.s (aK y))]++List.drop (i+1) (aA l)=aA (l.set i y):=fun y=>dF (by omega)
   have p2: ∀x y,List.take i (aA (l.set i x))++[AV.v (.s (aK y))]++List.drop (i+1) (aA (l.set i x))=aA (l.set i y):=fun x y=>by rw[dF (by rw[List.length_set];omega),List.set_set]
   have p3: ∀y,(aA (l.set i y)).length=xs.length:=fun y=>by rw[aU,List.length_set,hll]
   cases n
   ·have hgo:=hgo x (by simp[Kl])
    repeat' first|simp only[go_sem,seval,l1,l2,ll,e1,e2,p1,p3,hmx trivial]|refine cP hbt ?_|refine sB ?_|(first|apply pX|apply bX)<;>intro hc|refine⟨oD,?_⟩|exact oD|fail
    refine hgo _ ?_
    (refine AS.Le.of (by first|decide|omega) ?_ ?_<;>simp[bL,bK,aD,ai,AV.bd,AV.bd.bdL,u8,af,ah,ak])
    exact fun c hc=>de hc
   ·have hgo:=hgo (cL x M) (by simp[Kl])
    repeat' first|simp only[go_sem,seval,l1,l2,ll,e1,e2,p1,p2,p3,hmx trivial]|refine cP hbt ?_|refine cP hinv ?_|refine sB ?_|(first|apply pX|apply bX)<;>intro hc|refine⟨oD,?_⟩|exact oD|fail
    refine hgo _ ?_
    (refine AS.Le.of (by first|decide|omega) ?_ ?_<;>simp[bL,bK,aD,ai,AV.bd,AV.bd.bdL,u8,af,ah,ak])
    exact fun c hc=>de hc
  ·obtain rfl:i=xs.length:=by omega
   have hlp:l=pr.map (·.1):=by
    refine List.ext_getElem (by simp[hll,zl]) fun j h1 h2=> ?_
    have:=(hj j (by omega)).1
    rw[List.getD_eq_getElem?_getD,List.getElem?_eq_getElem h1,List.getD_eq_getElem?_getD,List.getElem?_eq_getElem (by omega:j<pr.length)]at this
    simpa using this
   have htop:pp pr k=1:=Nc fun p hp=>by
    obtain⟨j,hj2,rfl⟩:=List.getElem_of_mem hp;have:=(hj j (by omega)).2
    rw[List.getD_eq_getElem?_getD,List.getElem?_eq_getElem hj2]at this;exact this
   have h0:pp pr 0%M=pp pr 0%M:=rfl;have hw1: ∀ _:True,IntKind.i64.wrap ((k:Int)-1)=(k:Int)-1:=fun _=>IntWalk.i64_in _ (by omega)
   clear hR hj;repeat' first|simp only[go_sem,seval,hw1 trivial,cA]|refine cP lH ?_|refine sB ?_|(first|apply pX|apply bX)<;>intro hc|refine⟨oD,?_⟩|exact oD|fail
   rw[hlp]at ll;have hbit:=fun j (hj:j<xs.length)=>pj (a:=(es.getD j ie).2) (by have:=he _ (au ie (show j<es.length by omega));simp only[bH,Bool.and_eq_true]at this;exact this.1)
   have hyg: ∀j,j<xs.length→(aA (pr.map (·.1))).getD j .u= .v (N (pr.getD j (0,0)).1):=fun j hj=>by
    rw[eB (by simpa[zl]using hj)]
    simp[List.getD_eq_getElem?_getD,zl,hj]
   subst hlp;obtain⟨n,hn0⟩: ∃n,n=xs.length:=⟨_,rfl⟩;rw[←hn0]at ll hyg hbit zg zl l1 l2 hi hll n1 hxM hl;clear hch hlt;refine aj (α:=Nat) (fun k=>k) (fun k=>⟨[(2, .v (.sl (es.map cu))),(9, .rs 1017 0 0 n 1),(15, .p 1025 0 0),(16, .fn (.func 127) [] [.p 1025 0 0, .p 1000 0 0]),(17, .v (.i .i64 ((k:Int)-1)))],[(1025,⟨0,[.v (N (pp pr k%M))],false,some 22⟩),(1017,⟨0,aA (pr.map (·.1)),false,none⟩),(1000,⟨0,[.v (N M), .v (.s o)],false,none⟩)],_⟩) (fun j=>j≤k) k (fun _=>Nat.le_refl _) (Nat.le_refl _) ?_ ?_
   ·rw[hn0]
    (refine AS.Le.of (by first|decide|omega) ?_ ?_<;>simp[bL,bK,aD,ai,AV.bd,AV.bd.bdL,u8,af,ah,ak])
    exact⟨by rw[htop,hM1],fun c hc=>de hc⟩
   ·intro k' hk' R hR
    cases k' with
    |zero=>
     repeat' first|simp only[go_sem,seval]|refine sB ?_|(first|apply pX|apply bX)<;>intro hc|refine⟨oD,?_⟩|exact oD|fail
    |succ k'=>
     have hgo:=hR k' (by omega) (by omega)
     obtain⟨z,hz⟩: ∃z,z=pp pr (k'+1)%M:=⟨_,rfl⟩;have hzm:z<M:=by rw[hz];exact Nat.mod_lt _ (by omega)
     have e1: ∀ _:True,((k'+1:Nat):Int)-1=(k':Int):=fun _=>by omega
     have hge: ∀ _:True,decide ((k':Int)≥0)=true:=fun _=>by simp
     have hwk: ∀ _:True,IntKind.i64.wrap ((k':Int)-1)=(k':Int)-1:=fun _=>IntWalk.i64_in _ (by omega)
     have hstep:pp pr k'%M=(z*z%M)*(pb pr k')%M:=by
      rw[hz,←Nat.mul_mod,Nat.mod_mul_mod,Jj]
     rw[←hz];have hx1:=fun nm=>gM 1025 1000 nm (by decide) o (some 22) none (a:=z) (b:=z) (m:=M) (by omega) (by omega) (by omega) (by omega)
     clear hR;repeat' first|simp only[go_sem,seval,e1 trivial,hge trivial,List.getD_cons_zero,List.getD_cons_succ,j6,ll]|(refine aP (hx1 _) (by simp[ai]) ?_)|refine sB ?_|(first|apply pX|apply bX)<;>intro hc|refine⟨oD,?_⟩|exact oD|fail
     refine aj (α:=Nat) (fun j=>n-j) (fun j=>⟨[(2, .v (.sl (es.map cu))),(9, .rs 1017 0 0 n 1),(15, .p 1025 0 0),(16, .fn (.func 127) [] [.p 1025 0 0, .p 1000 0 0]),(17, .v (.i .i64 (k':Int))),(85, .rs 1017 0 0 n 1),(86,E' n),(87,E' j)],[(1025,⟨0,[.v (N ((z*z%M)*pb (pr.take j) k'%M))],false,some 22⟩),(1017,⟨0,aA (pr.map (·.1)),false,none⟩),(1000,⟨0,[.v (N M), .v (.s o)],false,none⟩)],_⟩) (fun j=>j≤n) 0 (fun _=>Nat.le_refl _) (Nat.zero_le _) ?_ ?_
     ·(refine AS.Le.of (by first|decide|omega) ?_ ?_<;>simp[bL,bK,aD,ai,AV.bd,AV.bd.bdL,u8,af,ah,ak])
      exact⟨by simp[pb],fun c hc=>de hc⟩
     ·intro j hj R' hR'
      by_cases hjn:j<n
      ·have hgo':=hR' (j+1) (by omega) (by omega)
       have e2:=getD_map cu es ie (i:=j) (by omega)
       have hb:=hbit j hjn k' (by omega)
       have hy:=hyg j hjn;obtain⟨-,-,hym⟩:=hxM j hjn;have zj:=zg j hjn;rw[aN (0,0) (by omega),Jg]at hgo'
       have hdec:(num (es.getD j ie).2).testBit k'=decide ((pr.getD j (0,0)).2/2^k'%2=1):=by rw[zj];exact Nat.testBit_eq_decide_div_mod_eq
       rw[hdec]at hb;clear zj hdec;generalize pr.getD j (0,0)=p at*;obtain⟨y,q⟩:=p;simp only at hym hb hy hgo';obtain⟨e,hee⟩: ∃e,e=es.getD j ie:=⟨_,rfl⟩;rw[←hee]at e2 hb;obtain⟨en,ea⟩:=e;simp only[cu]at e2;obtain⟨v,hv⟩: ∃v,v=z*z%M*pb (pr.take j) k'%M:=⟨_,rfl⟩;have hvm:v<M:=by rw[hv];exact Nat.mod_lt _ (by omega)
       rw[←Nat.mul_assoc,Nat.mul_mod,←hv]at hgo';rw[←hv];have hx2:=fun nm=>gM 1025 1000 nm (by decide) o (some 22) none (a:=v) (b:=y) (m:=M) (by omega) (by omega) (by omega) (by omega)
       clear hR' hx1 hbit hyg hxM zg
       by_cases hq:q/2^k'%2=1
       ·rw[decide_eq_true hq]at hb;rw[hq,Nat.pow_one,Nat.mod_eq_of_lt hym]at hgo';repeat' first|simp only[go_sem,seval,l2,ll,e2,hy]|refine cP hb ?_|(refine aP (hx2 _) (by simp[ai]) ?_)|refine sB ?_|(first|apply pX|apply bX)<;>intro hc|refine⟨oD,?_⟩|exact oD|fail
        refine hgo' _ ?_
        (refine AS.Le.of (by first|decide|omega) ?_ ?_<;>simp[bL,bK,aD,ai,AV.bd,AV.bd.bdL,u8,af,ah,ak])
        exact fun c hc=>de hc
       ·rw[decide_eq_false hq]at hb;rw[show q/2^k'%2=0 by omega,Nat.pow_zero,hM1,Nat.mul_one,Nat.mod_eq_of_lt hvm]at hgo'
        repeat' first|simp only[go_sem,seval,l2,ll,e2,hy]|refine cP hb ?_|refine sB ?_|(first|apply pX|apply bX)<;>intro hc|refine⟨oD,?_⟩|exact oD|fail
        refine hgo' _ ?_
        (refine AS.Le.of (by first|decide|omega) ?_ ?_<;>simp[bL,bK,aD,ai,AV.bd,AV.bd.bdL,u8,af,ah,ak])
        exact fun c hc=>de hc
      ·obtain rfl:j=n:=by omega
       rw[List.take_of_length_le (by omega),←hstep]
       repeat' first|simp only[go_sem,seval,ll,hwk trivial]|refine sB ?_|(first|apply pX|apply bX)<;>intro hc|refine⟨oD,?_⟩|exact oD|fail
       refine hgo _ ?_
       (refine AS.Le.of (by first|decide|omega) ?_ ?_<;>simp[bL,bK,aD,ai,AV.bd,AV.bd.bdL,u8,af,ah,ak])
       exact fun c hc=>de hc
def zS (x:Bool×Bytes):Int:=if x.1 then-(num x.2:Int)else num x.2
theorem vn (x:Bool×Bytes):(zS x).natAbs=num x.2:=by unfold zS;split<;>omega
theorem AM {x:Bool×Bytes} (h:bH x=true):gJ (zS x)=x:=by
 obtain⟨n,a⟩:=x;simp only[bH,Bool.and_eq_true,Bool.not_eq_true']at h;have hz:=qC h.1;have hb:aK (num a)=a:=dZ h.1;cases n
 ·simp[gJ,zS,zs,zb,hb]
 ·have:a≠[]:=by simpa using h.2
  have hp:num a≠0:=fun e=>this (hz.1 e)
  simp[gJ,zS,zs,zb,hb];omega
theorem nC {z:Int} (h:z.natAbs<dt):bH (gJ z)=true:=P3 h
theorem RZ:cC Zp 2:=⟨fun _=>rfl,fun x y hy=>by simp[Zp,cu,gJ,PV.cells]at hy;rcases hy with rfl|rfl<;>rfl,fun h=>by omega,fun _ x=>rfl⟩
def tz (w:List Int) (t:dL):Int:=zS (t.neg,t.abs)*w.getD t.var.toNat 0
def WB (ts:List dL) (w:List Int):Prop:= ∀t∈ts,0≤t.var∧t.var<w.length∧bH (t.neg,t.abs)=true∧(w.getD t.var.toNat 0).natAbs<dt∧(zS (t.neg,t.abs)).natAbs*(w.getD t.var.toNat 0).natAbs<dt
theorem Pt:cC (fun t:dL=>PV.s t.base) 1:=⟨fun _=>rfl,fun _ y hy=>by cases List.mem_singleton.1 hy;rfl,fun _ _=>rfl,fun h=>absurd rfl h⟩
theorem PO (w:List Int):cC (fun t=>Zp (tz w t)) 2:=⟨fun x=>RZ.len _,fun x y hy=>RZ.one _ y hy,fun h=>by omega,fun _ x=>rfl⟩
theorem vX (n nm:Nat) (g:Int) (tg:Bytes) {ts:List dL} {w:List Int} (hn:ts.length<1000000) (hw:WB ts w):ew Tryz.prog 325 nm [(n,⟨0,[.v (.sl (w.map Zp))],false,none⟩)] [.v (cG.pv ⟨g,tg,ts⟩), .p n 0 0] (.tup [.v (.sl (ts.map fun t=> .s t.base)), .v (.sl (ts.map fun t=>Zp (tz w t))), .v (E 0)]) []:=by
 have l4:(ts.map dL.pv).length=ts.length:=List.length_map ..;have l5:(w.map Zp).length=w.length:=List.length_map ..
 by_cases h0:ts=[]
 ·subst h0;simp only[cG.pv,List.map_nil];refine ew.w mixed Tryz.call325 Tryz.func325 rfl (eT.1 _ _ _ (by cbv)) (eT.2 _ _ (by cbv)) (obs:=[⟨0,[.v (.sl (w.map Zp))],false,none⟩]) (args:=[.v (.agg [.i .i64 g, .s tg, .sl []]), .p 0 0 0]) (fs:=[none]) (j:=none) (nw:=none) (v:= .tup [.v (.sl []), .v (.sl []), .v (E 0)]) (ns:=[n]) (obsA:=[⟨0,[.v (.sl (w.map Zp))],false,none⟩]) rfl ?_ (by simp) (by simp) rfl (by simp[aI,aq.aC,AV.aC,AV.aC.renL]) (by simp[aI,AV.aC,aY]) (by simp[AV.aC,AV.aC.renL]) (by simp[cI,outs,aq.aC,AV.aC,AV.aC.renL])
  simp only[go_sem,seval];repeat' first|simp only[go_sem,seval,true_or,or_true,false_or,or_false,Option.some.injEq,dN,b9,dH,c9,da,ca,jm,jG,dq,dK,br,az,AV.aC,AV.aC.renL,ar]|(refine ae ?_)|refine sB ?_|(first|apply pX|apply bX)<;>intro hc|refine⟨oD,?_⟩|exact oD|fail
  all_goals first|rfl|trivial|skip
 have hpos:0<ts.length:=List.length_pos_iff.2 h0;simp only[cG.pv];refine ew.w mixed Tryz.call325 Tryz.func325 rfl (eT.1 _ _ _ (by cbv)) (eT.2 _ _ (by cbv)) (obs:=[⟨0,[.v (.sl (w.map Zp))],false,none⟩]) (args:=[.v (.agg [.i .i64 g, .s tg, .sl (ts.map dL.pv)]), .p 0 0 0]) (fs:=[none]) (j:=none) (nw:=none) (v:= .tup [.v (.sl (ts.map fun t=> .s t.base)), .v (.sl (ts.map fun t=>Zp (tz w t))), .v (E 0)]) (ns:=[n]) (obsA:=[⟨0,[.v (.sl (w.map Zp))],false,none⟩]) rfl ?_ (by simp) (by simp) rfl (by simp[aI,aq.aC,AV.aC,AV.aC.renL]) (by simp[aI,AV.aC,aY]) (by simp[AV.aC,AV.aC.renL]) (by simp[cI,outs,aq.aC,AV.aC,AV.aC.renL])
 simp only[go_sem,seval];repeat' first|simp only[go_sem,seval,l4]|refine sB ?_|(first|apply pX|apply bX)<;>intro hc|refine⟨oD,?_⟩|exact oD|fail
 refine ae ?_;have e1:=getD_map dL.pv ts fV hpos;obtain⟨t1,t2,t3,t4,t5⟩:=hw _ (au fV hpos);have r1:aQ (fun t:dL=>PV.s t.base) (ts.take (0+1))=aQ (fun t:dL=>PV.s t.base) (ts.take 0)++[.v (.s (ts.getD 0 fV).base)]:=by rw[aN fV hpos,bz];rfl
 have r2:aQ (fun t=>Zp (tz w t)) (ts.take (0+1))=aQ (fun t=>Zp (tz w t)) (ts.take 0)++[.v (.b (zs (tz w (ts.getD 0 fV)))), .v (.s (zb (tz w (ts.getD 0 fV))))]:=by rw[aN fV hpos,bz];rfl
 have htz:tz w (ts.getD 0 fV)=zS ((ts.getD 0 fV).neg,(ts.getD 0 fV).abs)*w.getD (ts.getD 0 fV).var.toNat 0:=rfl;obtain⟨y,hy⟩: ∃y,y=ts.getD 0 fV:=⟨_,rfl⟩;rw[←hy]at e1 t1 t2 t3 t4 t5 r1 r2 htz;clear hy;obtain⟨b,v,n,a⟩:=y;simp only at t1 t2 t3 t4 t5 r1 htz;have hx:=EX (x:=zS (n,a)) (y:=w.getD v.toNat 0) (by rw[vn];simp only[bH,Bool.and_eq_true]at t3;exact uB t3.1) t4 t5
 have e2:=getD_map Zp w 0 (i:=v.toNat) (by omega)
 have ez:Z (zS (n,a))= .agg [.b n, .s a]:=congrArg cu (AM t3);rw[ez,←htz]at hx;clear t3 t4 t5 ez htz;generalize tz w ⟨b,v,n,a⟩=z at*;generalize w.getD v.toNat 0=wv at*;simp only[dL.pv]at e1;simp only[Zp,cu,gJ]at e2;repeat' first|simp only[go_sem,seval,l4,l5,e1,e2]|refine cP hx ?_|refine sB ?_|(first|apply pX|apply bX)<;>intro hc|refine⟨oD,?_⟩|exact oD|fail
 have hB:=Pt;have hZ:=PO w;refine aj (α:=Nat) (fun j=>ts.length-(j+1)) (fun j=>⟨[(1, .p 0 0 0),(6, .rs 1035 j 0 (j+1) 1),(7, .rs 1039 j 0 (j+1) 2),(13, .v (.sl (ts.map dL.pv))),(14,E' ts.length),(15,E' (j+1))],[(0,⟨0,[.v (.sl (w.map Zp))],false,none⟩),(1035,⟨j,aQ (fun t:dL=>PV.s t.base) (ts.take (j+1)),true,some 22⟩),(1039,⟨j,aQ (fun t=>Zp (tz w t)) (ts.take (j+1)),true,some 49⟩)],1044⟩) (fun j=>j+1≤ts.length) 0 (fun _=>Nat.le_of_ble_eq_true rfl) hpos ?_ ?_
 ·rw[Nat.zero_add,r1,r2,List.take_zero,show aQ (fun t:dL=>PV.s t.base) []=[]from rfl,show aQ (fun t=>Zp (tz w t)) []=[]from rfl]
  exact lE
 ·clear e1 e2 hx r1 r2 t1 t2;intro j hj R hR;have hj1:(ts.take (j+1)).length=j+1:=by rw[List.length_take];omega
  have q1:=a9 hB (ts.take (j+1));have q2:=a5 hB (ts.take (j+1));have q5:=a9 hZ (ts.take (j+1));have q6:=a5 hZ (ts.take (j+1));rw[hj1]at q1 q2 q5 q6;rw[Nat.mul_one]at q1 q2
  by_cases hlt:j+1<ts.length
  ·have hgo:=hR (j+1) (by omega) (by omega)
   clear hR;have e1:=getD_map dL.pv ts fV hlt;obtain⟨t1,t2,t3,t4,t5⟩:=hw _ (au fV hlt);have r1:aQ (fun t:dL=>PV.s t.base) (ts.take ((j+1)+1))=aQ (fun t:dL=>PV.s t.base) (ts.take (j+1))++[.v (.s (ts.getD (j+1) fV).base)]:=by rw[aN fV hlt,bz];rfl
   have r2:aQ (fun t=>Zp (tz w t)) (ts.take ((j+1)+1))=aQ (fun t=>Zp (tz w t)) (ts.take (j+1))++[.v (.b (zs (tz w (ts.getD (j+1) fV)))), .v (.s (zb (tz w (ts.getD (j+1) fV))))]:=by rw[aN fV hlt,bz];rfl
   have htz:tz w (ts.getD (j+1) fV)=zS ((ts.getD (j+1) fV).neg,(ts.getD (j+1) fV).abs)*w.getD (ts.getD (j+1) fV).var.toNat 0:=rfl;obtain⟨y,hy⟩: ∃y,y=ts.getD (j+1) fV:=⟨_,rfl⟩;rw[←hy]at e1 t1 t2 t3 t4 t5 r1 r2 htz;clear hy;obtain⟨b,v,n,a⟩:=y;simp only at t1 t2 t3 t4 t5 r1 htz;have hx:=EX (x:=zS (n,a)) (y:=w.getD v.toNat 0) (by rw[vn];simp only[bH,Bool.and_eq_true]at t3;exact uB t3.1) t4 t5
   have e2:=getD_map Zp w 0 (i:=v.toNat) (by omega)
   have ez:Z (zS (n,a))= .agg [.b n, .s a]:=congrArg cu (AM t3);rw[ez,←htz]at hx;clear t3 t4 t5 ez htz;generalize tz w ⟨b,v,n,a⟩=z at*;generalize w.getD v.toNat 0=wv at*;simp only[dL.pv]at e1;simp only[Zp,cu,gJ]at e2;rw[r1,r2]at hgo;repeat' first|simp only[go_sem,seval,l4,l5,e1,e2,q1,q2,q5,q6]|refine cP hx ?_|refine sB ?_|(first|apply pX|apply bX)<;>intro hc|refine⟨oD,?_⟩|exact oD|fail
   refine hgo _ ?_
   (refine AS.Le.of (by first|decide|omega) ?_ ?_<;>simp[bL,bK,aD,ai,AV.bd,AV.bd.bdL,u8,af,ah,ak])
   all_goals (refine⟨?_,?_⟩<;>(intro c hc;rcases hc with h|h<;>first|exact cb h|(rcases h with rfl|rfl<;>rfl)|(subst h;rfl)))
  ·obtain hjv:j+1=ts.length:=by omega
   rw[hjv,List.take_length]at q1 q2 q5 q6;rw[hjv,List.take_length];have q3:=ct hB ts;have q4:chunk 1 ts.length (ts.flatMap fun x=>[PV.s x.base])=ts.map fun t=> .s t.base:=bj hB ts
   have q7:=ct hZ ts;have q8:chunk 2 ts.length (ts.flatMap fun x=>(Zp (tz w x)).cells)=ts.map fun t=>Zp (tz w t):=bj hZ ts
   repeat' first|simp only[go_sem,seval,true_or,or_true,false_or,or_false,Option.some.injEq,dN,b9,dH,c9,da,ca,jm,jG,dq,dK,br,az,AV.aC,AV.aC.renL,ar,l4,q1,q2,q3,q4,q5,q6,q7,q8,cj]|refine sB ?_|(first|apply pX|apply bX)<;>intro hc|refine⟨oD,?_⟩|exact oD|fail
   all_goals first|rfl|trivial|skip
noncomputable def Ky (gs:List (Bytes×Bytes)) (w:List Int) (q:cG):Nat:=uH (num (gs.getD q.iE.toNat ed).1) (q.terms.map fun t=>(num t.base,gJ (tz w t)))
noncomputable def oV (s:bQ) (w:List Int):List Bytes:=s.eqs.map fun q=>aK (Ky s.groups w q)
theorem ue (s:bQ) (w:List Int):(oV s w).length=s.eqs.length:=List.length_map ..
theorem Gh {l:List Bytes} {i:Nat} (h:i<l.length):aQ PV.s (l.take (i+1))=aQ PV.s (l.take i)++[.v (.s (l.getD i []))]:=by
 rw[aN [] h,bz];rfl
theorem KH {m:Bytes} (lm:m.length≤8) {o:Bytes} (lo:o.length≤8) (hE:gE m o=0) {ts:List dL} {w:List Int} (hn:ts.length<1000000) (hg: ∀t∈ts,fW m o t.base=true) (hw:WB ts w):aB Tryz.prog 69 [G m o, .sl (ts.map fun t=> .s t.base), .sl (ts.map fun t=>Zp (tz w t))] (.tup [N (uH (num m) (ts.map fun t=>(num t.base,gJ (tz w t)))),E 0]):=by
 have h:=oU lm lo hE (xs:=ts.map fun t=>num t.base) (es:=ts.map fun t=>gJ (tz w t)) (fun x hx=>by
  obtain⟨t,ht,rfl⟩:=List.mem_map.1 hx;exact((a7 hE).1 (hg t ht)).2) (fun e he=>by
  obtain⟨t,ht,rfl⟩:=List.mem_map.1 he;obtain⟨-,-,-,h4,h5⟩:=hw t ht;exact nC (by rw[tz,Int.natAbs_mul];exact h5)) (by simp) (by simpa using hn)
 rw[List.zip_map',List.map_map,List.map_map]at h;rw[show(ts.map fun t=>PV.s t.base)=ts.map (bO∘fun t=>num t.base)from List.map_congr_left fun t ht=>(dy (kV hE (hg t ht))).symm]
 exact h
theorem AK {s:bQ} (hs:vH s) {w:List Int} (hw: ∀q∈s.eqs,WB q.terms w):aB Tryz.prog 255 [s.pv, .sl (w.map Zp)] (.tup [.sl ((oV s w).map .s),E 0]):=by
 obtain⟨L,hLd⟩: ∃L,L=oV s w:=⟨_,rfl⟩;have hI:=fun i (h:i<s.eqs.length)=>(show L.getD i []=aK (Ky s.groups w (s.eqs.getD i gH)) by rw[hLd,oV];simp[List.getD_eq_getElem?_getD,h])
 have hL:L.length=s.eqs.length:=by rw[hLd,ue]
 rw[←hLd];clear hLd;obtain⟨gs,vs,es⟩:=s;obtain⟨-,hg,hv,hq,ng,nv,ne,-⟩:=hs;simp only at hg hv hq ng nv ne hw hI hL;have l1:(gs.map dU).length=gs.length:=List.length_map ..;have l3:(es.map cG.pv).length=es.length:=List.length_map ..;unfold bQ.pv;simp only
 by_cases h0:es=[]
 ·subst h0;obtain rfl:L=[]:=List.length_eq_zero_iff.1 hL;simp only[List.map_nil];refine eW Tryz.call255 Tryz.func255 ?_;repeat' first|simp only[go_sem,seval]|(refine ae ?_)|refine sB ?_|(first|apply pX|apply bX)<;>intro hc|refine⟨oD,?_⟩|exact oD|fail
 have hpos:0<es.length:=List.length_pos_iff.2 h0;refine eW Tryz.call255 Tryz.func255 ?_;repeat' first|simp only[go_sem,seval,l3]|refine sB ?_|(first|apply pX|apply bX)<;>intro hc|refine⟨oD,?_⟩|exact oD|fail
 refine ae ?_;have e1:=getD_map cG.pv es gH hpos;obtain⟨q1,q2,q3,q4,q5⟩:=hq _ (au gH hpos);have kw:=hw _ (au gH hpos);have r1:=Gh (l:=L) (i:=0) (by rw[hL];exact hpos)
 have r2:=hI 0 hpos;obtain⟨x,hx⟩: ∃x,x=es.getD 0 gH:=⟨_,rfl⟩;rw[←hx]at e1 q1 q2 q3 q4 q5 kw r2;clear hx;obtain⟨gr,tg,ts⟩:=x;simp only at q1 q2 q3 q4 q5 kw;have hgl:gr.toNat<gs.length:=by omega
 have kg:=hg _ (au ed hgl);have e3:=getD_map dU gs ed hgl;simp only[Ky]at r2;obtain⟨z,hz⟩: ∃z,z=gs.getD gr.toNat ed:=⟨_,rfl⟩;rw[←hz]at q5 kg e3 r2;clear hz q3;obtain⟨m,o⟩:=z;simp only at q5 kg r2;have hcl:=fun nm=>vX 1001 nm gr tg (ts:=ts) (w:=w) (by omega) kw
 have xe:=KH kg.2.1 kg.2.2 kg.1 (ts:=ts) (w:=w) (by omega) (fun t ht=>(q5 t ht).2.2.1) kw
 have xe:aB Tryz.prog 69 [G m o, .sl (ts.map fun t=> .s t.base), .sl (ts.map fun t=>Zp (tz w t))] (.tup [.s (L.getD 0 []),E 0]):=by rw[r2];exact xe
 clear r2 kw kg q5;simp only[dU]at e3;simp only[cG.pv]at e1 hcl;repeat' first|simp only[go_sem,seval,l1,l3,e1,e3,aH]|(refine aP (hcl _) (by simp[ai]) ?_)|refine cP xe ?_|refine sB ?_|(first|apply pX|apply bX)<;>intro hc|refine⟨oD,?_⟩|exact oD|fail
 have hM:cC PV.s 1:=cC.s;refine aj (α:=Nat) (fun j=>es.length-(j+1)) (fun j=>⟨[(2, .p 1000 0 0),(6, .fn (.func 325) [] [.p 1001 0 0]),(7, .rs 1047 j 0 (j+1) 1),(16, .v (.sl (es.map cG.pv))),(17,E' es.length),(18,E' (j+1))],[(1000,⟨0,[.v (.sl (gs.map dU)), .v (.sl (vs.map bV)), .v (.sl (es.map cG.pv))],false,none⟩),(1001,⟨0,[.v (.sl (w.map Zp))],false,none⟩),(1047,⟨j,aQ PV.s (L.take (j+1)),true,some 22⟩)],1051⟩) (fun j=>j+1≤es.length) 0 (fun _=>Nat.le_of_ble_eq_true rfl) hpos ?_ ?_
 ·rw[Nat.zero_add,r1,List.take_zero,show aQ PV.s ([]:List Bytes)=[]from rfl]
  exact lE
 ·clear e1 e3 q1 q2 q4 xe hcl r1;intro i hi R hR;have hj1:(L.take (i+1)).length=i+1:=by rw[List.length_take];omega
  have p1:=a9 hM (L.take (i+1));have p2:=a5 hM (L.take (i+1));rw[hj1,Nat.mul_one]at p1 p2
  by_cases hlt:i+1<es.length
  ·have hgo:=hR (i+1) (by omega) (by omega)
   clear hR;have e1:=getD_map cG.pv es gH hlt;obtain⟨q1,q2,q3,q4,q5⟩:=hq _ (au gH hlt);have kw:=hw _ (au gH hlt);have r1:=Gh (l:=L) (i:=(i+1)) (by rw[hL];exact hlt)
   have r2:=hI (i+1) hlt;obtain⟨x,hx⟩: ∃x,x=es.getD (i+1) gH:=⟨_,rfl⟩;rw[←hx]at e1 q1 q2 q3 q4 q5 kw r2;clear hx;obtain⟨gr,tg,ts⟩:=x;simp only at q1 q2 q3 q4 q5 kw;have hgl:gr.toNat<gs.length:=by omega
   have kg:=hg _ (au ed hgl);have e3:=getD_map dU gs ed hgl;simp only[Ky]at r2;obtain⟨z,hz⟩: ∃z,z=gs.getD gr.toNat ed:=⟨_,rfl⟩;rw[←hz]at q5 kg e3 r2;clear hz q3;obtain⟨m,o⟩:=z;simp only at q5 kg r2;have hcl:=fun nm=>vX 1001 nm gr tg (ts:=ts) (w:=w) (by omega) kw
   have xe:=KH kg.2.1 kg.2.2 kg.1 (ts:=ts) (w:=w) (by omega) (fun t ht=>(q5 t ht).2.2.1) kw
   have xe:aB Tryz.prog 69 [G m o, .sl (ts.map fun t=> .s t.base), .sl (ts.map fun t=>Zp (tz w t))] (.tup [.s (L.getD (i+1) []),E 0]):=by rw[r2];exact xe
   clear r2 kw kg q5;simp only[dU]at e3;simp only[cG.pv]at e1 hcl;rw[r1]at hgo;repeat' first|simp only[go_sem,seval,l1,l3,e1,e3,aH,p1,p2]|(refine aP (hcl _) (by simp[ai]) ?_)|refine cP xe ?_|refine sB ?_|(first|apply pX|apply bX)<;>intro hc|refine⟨oD,?_⟩|exact oD|fail
   refine hgo _ ?_
   (refine AS.Le.of (by first|decide|omega) ?_ ?_<;>simp[bL,bK,aD,ai,AV.bd,AV.bd.bdL,u8,af,ah,ak])
   all_goals (intro c hc;rcases hc with h|h<;>first|exact cb h|(subst h;rfl))
  ·obtain hjv:i+1=es.length:=by omega
   rw[hjv]at p1 p2;have hLt:L.take es.length=L:=List.take_of_length_le (by omega)
   rw[hLt]at p1 p2;rw[hjv,hLt];have p3:=ct hM L;have p4:=bj hM L;rw[hL]at p4;repeat' first|simp only[go_sem,seval,l3,p1,p2,p3,p4,cj]|refine sB ?_|(first|apply pX|apply bX)<;>intro hc|refine⟨oD,?_⟩|exact oD|fail
   all_goals exact congrArg (fun l=>PV.tup [PV.sl l,E 0]) p4
theorem IX (x:Bool×Bytes):aB Tryz.prog 323 [cu x] (.b (!bH x)):=by
 obtain⟨n,a⟩:=x;have hv:=dJ n a;rw[show(aa a&& !(n&&a==[]))=bH (n,a)from rfl]at hv
 generalize bH (n,a)=b at*;simp only[cu];refine eW Tryz.call323 Tryz.func323 ?_;repeat' first|simp only[go_sem,seval]|refine cP hv ?_|refine sB ?_|(first|apply pX|apply bX)<;>intro hc|refine⟨oD,?_⟩|exact oD|fail
end Go.Proofs.YtmobkhegihemeaaGreatDoor
