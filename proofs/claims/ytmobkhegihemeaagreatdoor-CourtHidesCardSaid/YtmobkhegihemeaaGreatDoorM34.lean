/-
  Part of the proof, part 34. Own work.
-/
import Derived.Test.YtmobkhegihemeaaGreatDoorM33
set_option linter.all false
namespace Go.Proofs.YtmobkhegihemeaaGreatDoor
open Go Go.Dom Go.Num
set_option maxRecDepth 100000
set_option maxHeartbeats 16000000
def ncells (l:List Nat):List AV:=l.map fun x=> .v (N x)
theorem ncells_len (l:List Nat):(ncells l).length=l.length:=by simp[ncells]
theorem ncells_rep (n:Nat):(List.replicate n [AV.v (.s [])]).flatten=ncells (List.replicate n 0):=by
 unfold ncells
 induction n with
 |zero=>rfl
 |succ n ih=>rw[List.replicate_succ,List.flatten_cons,ih];rfl
theorem ncells_get {l:List Nat} {i:Nat} (h:i<l.length):(ncells l).getD i .u= .v (N (l.getD i 0)):=by
 simp[ncells,List.getD_eq_getElem?_getD,h]
theorem ncells_set {l:List Nat} {o x:Nat}:(ncells l).set o (.v (N x))=ncells (l.set o x):=by
 simp[ncells,List.map_set]
theorem ncells_put {l:List Nat} {o x:Nat} (h:o<l.length):(ncells l).take o++[.v (N x)]++(ncells l).drop (o+1)=ncells (l.set o x):=by
 rw[←ncells_set,List.set_eq_take_append_cons_drop,if_pos (by rw[ncells_len];exact h)];simp
theorem bd_nc {l:List Nat} {c:AV} {n:Nat} (h:c∈ncells l):c.bd n=true:=by
 obtain⟨x,-,rfl⟩:=List.mem_map.1 h;rfl
def Npv (x:Nat):PV:=N x
theorem getN (xs:List Nat) {i:Nat} (h:i<xs.length):(xs.map Npv).getD i .fn0=N (xs.getD i 0):=getD_map Npv xs 0 h
theorem gChk_ok {m:Bytes} (lm:m.length≤8) {o:Bytes} (lo:o.length≤8) (hE:gE m o=0) {xs:List Nat} {es:List (Bool×Bytes)} (hx: ∀x∈xs,GP m o x) (he: ∀e∈es,izok e=true) (n1:xs.length<1000000) (n2:es.length<1000000):EvP Tryz.prog 124 [G m o, .sl (xs.map Npv), .sl (es.map ipv), .b true] (E 0):=by
 have l1:(xs.map Npv).length=xs.length:=List.length_map ..;have l2:(es.map ipv).length=es.length:=List.length_map ..;have c3:=gCheck_ok lm lo;rw[hE]at c3;have hn:=num8 lm;refine eW Tryz.call124 Tryz.func124 ?_;repeat' first|simp only[go_sem,seval,l1]|refine sB ?_|(first|apply pX|apply bX)<;>intro hc|refine⟨oD,?_⟩|exact oD|fail
 refine loop_run (α:=Nat) (fun i=>xs.length-i) (fun i=>⟨[(1, .v (.sl (xs.map Npv))),(2, .v (.sl (es.map ipv))),(3, .v (.b true)),(4, .p 1000 0 0),(16, .v (.sl (xs.map Npv))),(17,E' xs.length),(18,E' i)],[(1000,⟨0,[.v (.s m), .v (.s o)],false,none⟩)],_⟩) (fun i=>i≤xs.length) 0 (fun _=>Nat.le_refl _) (Nat.zero_le _) ?_ ?_
 ·exact lE
 ·intro i hi R hR
  by_cases hlt:i<xs.length
  ·have e1:=getN xs hlt;have k:=hx _ (mem_getD 0 hlt);have hgo:=hR (i+1) (by omega) (by omega)
   have c1:=natValid (bts (xs.getD i 0));rw[vN (show xs.getD i 0<18446744073709551616 by have:=k.lt;omega)]at c1
   clear hR k;generalize xs.getD i 0=x at*;repeat' first|simp only[go_sem,seval,l1,e1]|refine cP c1 ?_|refine sB ?_|(first|apply pX|apply bX)<;>intro hc|refine⟨oD,?_⟩|exact oD|fail
   refine hgo _ ?_;exact lE
  ·obtain rfl:i=xs.length:=by omega
   clear hR;repeat' first|simp only[go_sem,seval,l1,l2]|refine sB ?_|(first|apply pX|apply bX)<;>intro hc|refine⟨oD,?_⟩|exact oD|fail
   refine loop_run (α:=Nat) (fun i=>es.length-i) (fun i=>⟨[(1, .v (.sl (xs.map Npv))),(3, .v (.b true)),(4, .p 1000 0 0),(26, .v (.sl (es.map ipv))),(27,E' es.length),(28,E' i)],[(1000,⟨0,[.v (.s m), .v (.s o)],false,none⟩)],_⟩) (fun i=>i≤es.length) 0 (fun _=>Nat.le_refl _) (Nat.zero_le _) ?_ ?_
   ·exact lE
   ·intro i hi R hR
    by_cases hlt:i<es.length
    ·have e1:=getD_map ipv es d0I hlt;have k:=he _ (mem_getD d0I hlt);have hgo:=hR (i+1) (by omega) (by omega)
     obtain⟨x,hxx⟩: ∃x,x=es.getD i d0I:=⟨_,rfl⟩;rw[←hxx]at e1 k;clear hR hxx;obtain⟨n,a⟩:=x;have c2:=iValid_ok n a;rw[show(validN a&& !(n&&a==[]))=true from k]at c2
     simp only[ipv]at e1;repeat' first|simp only[go_sem,seval,l2,e1]|refine cP c2 ?_|refine sB ?_|(first|apply pX|apply bX)<;>intro hc|refine⟨oD,?_⟩|exact oD|fail
     refine hgo _ ?_;exact lE
    ·obtain rfl:i=es.length:=by omega
     clear hR;repeat' first|simp only[go_sem,seval,l1,l2]|refine cP c3 ?_|refine sB ?_|(first|apply pX|apply bX)<;>intro hc|refine⟨oD,?_⟩|exact oD|fail
     refine loop_run (α:=Nat) (fun i=>xs.length-i) (fun i=>⟨[(4, .p 1000 0 0),(43, .v (.sl (xs.map Npv))),(44,E' xs.length),(45,E' i)],[(1000,⟨0,[.v (.s m), .v (.s o)],false,none⟩)],_⟩) (fun i=>i≤xs.length) 0 (fun _=>Nat.le_refl _) (Nat.zero_le _) ?_ ?_
     ·exact lE
     ·intro i hi R hR
      by_cases hlt:i<xs.length
      ·have e1:=getN xs hlt;have k:=hx _ (mem_getD 0 hlt);have hgo:=hR (i+1) (by omega) (by omega)
       have c4:=ghas_ok lm o (bts (xs.getD i 0));rw[k.has hE lm]at c4;clear hR k;generalize xs.getD i 0=x at*;repeat' first|simp only[go_sem,seval,l1,e1]|refine cP c4 ?_|refine sB ?_|(first|apply pX|apply bX)<;>intro hc|refine⟨oD,?_⟩|exact oD|fail
       refine hgo _ ?_;exact lE
      ·obtain rfl:i=xs.length:=by omega
       repeat' first|simp only[go_sem,seval,l1]|refine sB ?_|(first|apply pX|apply bX)<;>intro hc|refine⟨oD,?_⟩|exact oD|fail
theorem blen_e {e:Bytes} (he:validN e=true):blen (num e)<1000000:=by
 have h1:num e<2^1024:=by
  refine Nat.lt_of_lt_of_le (num_lt e) ?_;have le:e.length≤128:=by simp[validN]at he;exact he.1
  exact Nat.le_trans (Nat.pow_le_pow_right (by decide) le) (by decide+kernel)
 unfold blen;split
 ·decide
 ·rename_i h;have:=(Nat.log2_lt h).2 h1;omega
theorem zip_getD {xs:List Nat} {es:List (Bool×Bytes)} (M:Nat) (hl:es.length=xs.length):((xs.zip es).map fun p=>(bsZ M p.1 p.2,num p.2.2)).length=xs.length∧ ∀i,i<xs.length→((xs.zip es).map fun p=>(bsZ M p.1 p.2,num p.2.2)).getD i (0,0)=(bsZ M (xs.getD i 0) (es.getD i d0I),num (es.getD i d0I).2):=by
 constructor
 ·simp;omega
 ·intro i hi;have h2:i<es.length:=by omega
  have e:(xs.zip es)[i]?=some (xs[i],es[i]):=List.getElem?_zip_eq_some.2 ⟨List.getElem?_eq_getElem hi,List.getElem?_eq_getElem h2⟩;rw[List.getD_eq_getElem?_getD,List.getElem?_map,e,List.getD_eq_getElem?_getD,List.getElem?_eq_getElem hi,List.getD_eq_getElem?_getD,List.getElem?_eq_getElem h2];rfl
theorem blen_lt (n:Nat):n<2^blen n:=by
 unfold blen;split
 ·rename_i h;subst h;decide
 ·exact Nat.lt_log2_self
theorem gPrd_ok {m:Bytes} (lm:m.length≤8) {o:Bytes} (lo:o.length≤8) (hE:gE m o=0) {xs:List Nat} {es:List (Bool×Bytes)} (hx: ∀x∈xs,GP m o x) (he: ∀e∈es,izok e=true) (hl:es.length=xs.length) (n1:xs.length<1000000):EvP Tryz.prog 69 [G m o, .sl (xs.map Npv), .sl (es.map ipv)] (.tup [N (prZ (num m) (xs.zip es)),E 0]):=by
 have l1:(xs.map Npv).length=xs.length:=List.length_map ..;have l2:(es.map ipv).length=xs.length:=by rw[List.length_map];exact hl
 have hch:=gChk_ok lm lo hE hx he n1 (by omega)
 obtain⟨vm,vo,m1,-,-⟩:=gE_m hE;have hn:=num8 lm;obtain⟨zl,zg⟩:=zip_getD (num m) hl;unfold prZ;generalize hpr:((xs.zip es).map fun p=>(bsZ (num m) p.1 p.2,num p.2.2))=pr at*
 clear hpr;obtain⟨M,hM⟩: ∃M,M=num m:=⟨_,rfl⟩;have eG:G m o= .agg [N M, .s o]:=by rw[hM,show N (num m)= .s m from congrArg PV.s (bts_of vm)]
 rw[eG]at hch⊢;have hxM: ∀i,i<xs.length→xs.getD i 0<M∧Nat.gcd (xs.getD i 0) M=1∧(pr.getD i (0,0)).1<M:=fun i hi=>by
  have k:=hx _ (mem_getD 0 hi);refine⟨by rw[hM];exact k.lt,by rw[hM];exact k.cop,?_⟩
  rw[zg i hi,hM];unfold bsZ;split
  ·exact k.unit.inv.1
  ·exact k.lt
 rw[←hM]at hn m1 zg⊢;clear hx hM eG lm lo hE vm vo;have hM1:1%M=1:=Nat.mod_eq_of_lt (by omega)
 have hN:(ncells (List.replicate xs.length 0)).length=xs.length:=by simp[ncells]
 refine eW Tryz.call69 Tryz.func69 ?_;repeat' first|simp only[go_sem,seval,l1,l2,ncells_rep,hN,one_eq,beq_self_eq_true]|refine cP hch ?_|refine sB ?_|(first|apply pX|apply bX)<;>intro hc|refine⟨oD,?_⟩|exact oD|fail
 refine loop_run (α:=Nat×List Nat×Nat) (fun s=>xs.length-s.1) (fun s=>⟨[(1, .v (.sl (xs.map Npv))),(2, .v (.sl (es.map ipv))),(3, .p 1000 0 0),(9, .rs 1017 0 0 xs.length 1),(10,E' s.2.2),(35, .v (.sl (xs.map Npv))),(36,E' xs.length),(37,E' s.1)],[(1000,⟨0,[.v (N M), .v (.s o)],false,none⟩),(1017,⟨0,ncells s.2.1,false,none⟩)],_⟩) (fun s=>s.1≤xs.length∧s.2.1.length=xs.length∧s.2.2<1000000∧ ∀j,j<s.1→s.2.1.getD j 0=(pr.getD j (0,0)).1∧(pr.getD j (0,0)).2<2^s.2.2) (0,List.replicate xs.length 0,0) (fun _=>Nat.le_refl _) ⟨Nat.zero_le _,by simp,(by decide:0<1000000),fun j hj=>absurd hj (Nat.not_lt_zero _)⟩ ?_ ?_
 ·(refine AS.Le.of (by first|decide|omega) ?_ ?_<;>simp[LeT,LeH,tget,hget,AV.bd,AV.bd.bdL,u8,bd_cellsOf,bcells_bd,icells_bd])
  exact fun c hc=>bd_nc hc
 ·rintro⟨i,l,k⟩ ⟨hi,hll,hk,hj⟩ R hR;simp only at hi hll hk hj;have ll:(ncells l).length=xs.length:=by rw[ncells_len];exact hll
  by_cases hlt:i<xs.length
  ·have e1:=getN xs hlt;have e2:=getD_map ipv es d0I (i:=i) (by omega)
   have ke:=he _ (mem_getD d0I (show i<es.length by omega))
   obtain⟨x1,x2,x3⟩:=hxM i hlt;have zi:=zg i hlt;obtain⟨x,hxx⟩: ∃x,x=xs.getD i 0:=⟨_,rfl⟩;obtain⟨e,hee⟩: ∃e,e=es.getD i d0I:=⟨_,rfl⟩;rw[←hxx]at e1 x1 x2 zi;rw[←hee]at e2 ke zi;clear hxx hee;obtain⟨n,a⟩:=e;simp only[izok,Bool.and_eq_true]at ke;have hbt:=Bits_ok ke.1;have hbe:=blen_e ke.1;have hmx: ∀ _:True,(if(blen (num a):Int)>(k:Int)then(blen (num a):Int)else(k:Int))=((max k (blen (num a)):Nat):Int):=fun _=>by split<;>omega
   have hinv:=Inverse_ok (a:=x) (m:=M) (by omega) hn (by omega) x2
   have hgo:=fun y (hy:y=(pr.getD i (0,0)).1)=>hR (i+1,l.set i y,max k (blen (num a))) ⟨by show i+1≤ _;omega,by simp[hll],by show max k _< _;omega,fun j hj2=>by
    by_cases hji:j=i
    ·subst hji;refine⟨by simp[List.getD_eq_getElem?_getD,hll,hlt,hy],?_⟩
     rw[zi];exact Nat.lt_of_lt_of_le (blen_lt _) (Nat.pow_le_pow_right (by decide) (Nat.le_max_right _ _))
    ·obtain⟨h1,h2⟩:=hj j (by simp only at hj2;omega)
     refine⟨?_,Nat.lt_of_lt_of_le h2 (Nat.pow_le_pow_right (by decide) (Nat.le_max_left _ _))⟩
     rw[←h1];simp[List.getD_eq_getElem?_getD,List.getElem?_set,Ne.symm hji]⟩ (by show xs.length-(i+1)<xs.length-i;omega)
   rw[zi]at hgo;simp only[ipv]at e2;clear hR hj hch zg hxM he;have p1: ∀y,List.take i (ncells l)++[AV.v (.s (bts y))]++List.drop (i+1) (ncells l)=ncells (l.set i y):=fun y=>ncells_put (by omega)
   have p2: ∀x y,List.take i (ncells (l.set i x))++[AV.v (.s (bts y))]++List.drop (i+1) (ncells (l.set i x))=ncells (l.set i y):=fun x y=>by rw[ncells_put (by rw[List.length_set];omega),List.set_set]
   have p3: ∀y,(ncells (l.set i y)).length=xs.length:=fun y=>by rw[ncells_len,List.length_set,hll]
   cases n
   ·have hgo:=hgo x (by simp[bsZ])
    repeat' first|simp only[go_sem,seval,l1,l2,ll,e1,e2,p1,p3,hmx trivial]|refine cP hbt ?_|refine sB ?_|(first|apply pX|apply bX)<;>intro hc|refine⟨oD,?_⟩|exact oD|fail
    refine hgo _ ?_
    (refine AS.Le.of (by first|decide|omega) ?_ ?_<;>simp[LeT,LeH,tget,hget,AV.bd,AV.bd.bdL,u8,bd_cellsOf,bcells_bd,icells_bd])
    exact fun c hc=>bd_nc hc
   ·have hgo:=hgo (invN x M) (by simp[bsZ])
    repeat' first|simp only[go_sem,seval,l1,l2,ll,e1,e2,p1,p2,p3,hmx trivial]|refine cP hbt ?_|refine cP hinv ?_|refine sB ?_|(first|apply pX|apply bX)<;>intro hc|refine⟨oD,?_⟩|exact oD|fail
    refine hgo _ ?_
    (refine AS.Le.of (by first|decide|omega) ?_ ?_<;>simp[LeT,LeH,tget,hget,AV.bd,AV.bd.bdL,u8,bd_cellsOf,bcells_bd,icells_bd])
    exact fun c hc=>bd_nc hc
  ·obtain rfl:i=xs.length:=by omega
   have hlp:l=pr.map (·.1):=by
    refine List.ext_getElem (by simp[hll,zl]) fun j h1 h2=> ?_
    have:=(hj j (by omega)).1
    rw[List.getD_eq_getElem?_getD,List.getElem?_eq_getElem h1,List.getD_eq_getElem?_getD,List.getElem?_eq_getElem (by omega:j<pr.length)]at this
    simpa using this
   have htop:pp pr k=1:=pp_top fun p hp=>by
    obtain⟨j,hj2,rfl⟩:=List.getElem_of_mem hp;have:=(hj j (by omega)).2
    rw[List.getD_eq_getElem?_getD,List.getElem?_eq_getElem hj2]at this;exact this
   have h0:pp pr 0%M=pp pr 0%M:=rfl;have hw1: ∀ _:True,IntKind.i64.wrap ((k:Int)-1)=(k:Int)-1:=fun _=>IntWalk.i64_in _ (by omega)
   clear hR hj;repeat' first|simp only[go_sem,seval,hw1 trivial,one_eq]|refine cP Of1 ?_|refine sB ?_|(first|apply pX|apply bX)<;>intro hc|refine⟨oD,?_⟩|exact oD|fail
   rw[hlp]at ll;have hbit:=fun j (hj:j<xs.length)=>Bit_ok (a:=(es.getD j d0I).2) (by have:=he _ (mem_getD d0I (show j<es.length by omega));simp only[izok,Bool.and_eq_true]at this;exact this.1)
   have hyg: ∀j,j<xs.length→(ncells (pr.map (·.1))).getD j .u= .v (N (pr.getD j (0,0)).1):=fun j hj=>by
    rw[ncells_get (by simpa[zl]using hj)]
    simp[List.getD_eq_getElem?_getD,zl,hj]
   subst hlp;obtain⟨n,hn0⟩: ∃n,n=xs.length:=⟨_,rfl⟩;rw[←hn0]at ll hyg hbit zg zl l1 l2 hi hll n1 hxM hl;clear hch hlt;refine loop_run (α:=Nat) (fun k=>k) (fun k=>⟨[(2, .v (.sl (es.map ipv))),(9, .rs 1017 0 0 n 1),(15, .p 1025 0 0),(16, .fn (.func 127) [] [.p 1025 0 0, .p 1000 0 0]),(17, .v (.i .i64 ((k:Int)-1)))],[(1025,⟨0,[.v (N (pp pr k%M))],false,some 22⟩),(1017,⟨0,ncells (pr.map (·.1)),false,none⟩),(1000,⟨0,[.v (N M), .v (.s o)],false,none⟩)],_⟩) (fun j=>j≤k) k (fun _=>Nat.le_refl _) (Nat.le_refl _) ?_ ?_
   ·rw[hn0]
    (refine AS.Le.of (by first|decide|omega) ?_ ?_<;>simp[LeT,LeH,tget,hget,AV.bd,AV.bd.bdL,u8,bd_cellsOf,bcells_bd,icells_bd])
    exact⟨by rw[htop,hM1],fun c hc=>bd_nc hc⟩
   ·intro k' hk' R hR
    cases k' with
    |zero=>
     repeat' first|simp only[go_sem,seval]|refine sB ?_|(first|apply pX|apply bX)<;>intro hc|refine⟨oD,?_⟩|exact oD|fail
    |succ k'=>
     have hgo:=hR k' (by omega) (by omega)
     obtain⟨z,hz⟩: ∃z,z=pp pr (k'+1)%M:=⟨_,rfl⟩;have hzm:z<M:=by rw[hz];exact Nat.mod_lt _ (by omega)
     have e1: ∀ _:True,((k'+1:Nat):Int)-1=(k':Int):=fun _=>by omega
     have hge: ∀ _:True,decide ((k':Int)≥0)=true:=fun _=>by simp
     have hwk: ∀ _:True,IntKind.i64.wrap ((k':Int)-1)=(k':Int)-1:=fun _=>IntWalk.i64_in _ (by omega)
     have hstep:pp pr k'%M=(z*z%M)*(pb pr k')%M:=by
      rw[hz,←Nat.mul_mod,Nat.mod_mul_mod,pp_step]
     rw[←hz];have hx1:=fun nm=>times1_ok 1025 1000 nm (by decide) o (some 22) none (a:=z) (b:=z) (m:=M) (by omega) (by omega) (by omega) (by omega)
     clear hR;repeat' first|simp only[go_sem,seval,e1 trivial,hge trivial,List.getD_cons_zero,List.getD_cons_succ,take1,ll]|(refine CR_eff (hx1 _) (by simp[hget]) ?_)|refine sB ?_|(first|apply pX|apply bX)<;>intro hc|refine⟨oD,?_⟩|exact oD|fail
     refine loop_run (α:=Nat) (fun j=>n-j) (fun j=>⟨[(2, .v (.sl (es.map ipv))),(9, .rs 1017 0 0 n 1),(15, .p 1025 0 0),(16, .fn (.func 127) [] [.p 1025 0 0, .p 1000 0 0]),(17, .v (.i .i64 (k':Int))),(85, .rs 1017 0 0 n 1),(86,E' n),(87,E' j)],[(1025,⟨0,[.v (N ((z*z%M)*pb (pr.take j) k'%M))],false,some 22⟩),(1017,⟨0,ncells (pr.map (·.1)),false,none⟩),(1000,⟨0,[.v (N M), .v (.s o)],false,none⟩)],_⟩) (fun j=>j≤n) 0 (fun _=>Nat.le_refl _) (Nat.zero_le _) ?_ ?_
     ·(refine AS.Le.of (by first|decide|omega) ?_ ?_<;>simp[LeT,LeH,tget,hget,AV.bd,AV.bd.bdL,u8,bd_cellsOf,bcells_bd,icells_bd])
      exact⟨by simp[pb],fun c hc=>bd_nc hc⟩
     ·intro j hj R' hR'
      by_cases hjn:j<n
      ·have hgo':=hR' (j+1) (by omega) (by omega)
       have e2:=getD_map ipv es d0I (i:=j) (by omega)
       have hb:=hbit j hjn k' (by omega)
       have hy:=hyg j hjn;obtain⟨-,-,hym⟩:=hxM j hjn;have zj:=zg j hjn;rw[take_succ_getD (0,0) (by omega),pb_snoc]at hgo'
       have hdec:(num (es.getD j d0I).2).testBit k'=decide ((pr.getD j (0,0)).2/2^k'%2=1):=by rw[zj];exact Nat.testBit_eq_decide_div_mod_eq
       rw[hdec]at hb;clear zj hdec;generalize pr.getD j (0,0)=p at*;obtain⟨y,q⟩:=p;simp only at hym hb hy hgo';obtain⟨e,hee⟩: ∃e,e=es.getD j d0I:=⟨_,rfl⟩;rw[←hee]at e2 hb;obtain⟨en,ea⟩:=e;simp only[ipv]at e2;obtain⟨v,hv⟩: ∃v,v=z*z%M*pb (pr.take j) k'%M:=⟨_,rfl⟩;have hvm:v<M:=by rw[hv];exact Nat.mod_lt _ (by omega)
       rw[←Nat.mul_assoc,Nat.mul_mod,←hv]at hgo';rw[←hv];have hx2:=fun nm=>times1_ok 1025 1000 nm (by decide) o (some 22) none (a:=v) (b:=y) (m:=M) (by omega) (by omega) (by omega) (by omega)
       clear hR' hx1 hbit hyg hxM zg
       by_cases hq:q/2^k'%2=1
       ·rw[decide_eq_true hq]at hb;rw[hq,Nat.pow_one,Nat.mod_eq_of_lt hym]at hgo';repeat' first|simp only[go_sem,seval,l2,ll,e2,hy]|refine cP hb ?_|(refine CR_eff (hx2 _) (by simp[hget]) ?_)|refine sB ?_|(first|apply pX|apply bX)<;>intro hc|refine⟨oD,?_⟩|exact oD|fail
        refine hgo' _ ?_
        (refine AS.Le.of (by first|decide|omega) ?_ ?_<;>simp[LeT,LeH,tget,hget,AV.bd,AV.bd.bdL,u8,bd_cellsOf,bcells_bd,icells_bd])
        exact fun c hc=>bd_nc hc
       ·rw[decide_eq_false hq]at hb;rw[show q/2^k'%2=0 by omega,Nat.pow_zero,hM1,Nat.mul_one,Nat.mod_eq_of_lt hvm]at hgo'
        repeat' first|simp only[go_sem,seval,l2,ll,e2,hy]|refine cP hb ?_|refine sB ?_|(first|apply pX|apply bX)<;>intro hc|refine⟨oD,?_⟩|exact oD|fail
        refine hgo' _ ?_
        (refine AS.Le.of (by first|decide|omega) ?_ ?_<;>simp[LeT,LeH,tget,hget,AV.bd,AV.bd.bdL,u8,bd_cellsOf,bcells_bd,icells_bd])
        exact fun c hc=>bd_nc hc
      ·obtain rfl:j=n:=by omega
       rw[List.take_of_length_le (by omega),←hstep]
       repeat' first|simp only[go_sem,seval,ll,hwk trivial]|refine sB ?_|(first|apply pX|apply bX)<;>intro hc|refine⟨oD,?_⟩|exact oD|fail
       refine hgo _ ?_
       (refine AS.Le.of (by first|decide|omega) ?_ ?_<;>simp[LeT,LeH,tget,hget,AV.bd,AV.bd.bdL,u8,bd_cellsOf,bcells_bd,icells_bd])
       exact fun c hc=>bd_nc hc
def zOf (x:Bool×Bytes):Int:=if x.1 then-(num x.2:Int)else num x.2
theorem zOf_abs (x:Bool×Bytes):(zOf x).natAbs=num x.2:=by unfold zOf;split<;>omega
theorem ipz_zOf {x:Bool×Bytes} (h:izok x=true):ipz (zOf x)=x:=by
 obtain⟨n,a⟩:=x;simp only[izok,Bool.and_eq_true,Bool.not_eq_true']at h;have hz:=num_zero h.1;have hb:bts (num a)=a:=bts_of h.1;cases n
 ·simp[ipz,zOf,zs,zb,hb]
 ·have:a≠[]:=by simpa using h.2
  have hp:num a≠0:=fun e=>this (hz.1 e)
  simp[ipz,zOf,zs,zb,hb];omega
theorem izok_z {z:Int} (h:z.natAbs<LIM):izok (ipz z)=true:=zval h
theorem zRw:RowOK Zp 2:=⟨fun _=>rfl,fun x y hy=>by simp[Zp,ipv,ipz,PV.cells]at hy;rcases hy with rfl|rfl<;>rfl,fun h=>by omega,fun _ x=>rfl⟩
def tz (w:List Int) (t:Trm):Int:=zOf (t.neg,t.abs)*w.getD t.var.toNat 0
def WB (ts:List Trm) (w:List Int):Prop:= ∀t∈ts,0≤t.var∧t.var<w.length∧izok (t.neg,t.abs)=true∧(w.getD t.var.toNat 0).natAbs<LIM∧(zOf (t.neg,t.abs)).natAbs*(w.getD t.var.toNat 0).natAbs<LIM
theorem trRow:RowOK (fun t:Trm=>PV.s t.base) 1:=⟨fun _=>rfl,fun _ y hy=>by cases List.mem_singleton.1 hy;rfl,fun _ _=>rfl,fun h=>absurd rfl h⟩
theorem tzRow (w:List Int):RowOK (fun t=>Zp (tz w t)) 2:=⟨fun x=>zRw.len _,fun x y hy=>zRw.one _ y hy,fun h=>by omega,fun _ x=>rfl⟩
theorem collectG (n nm:Nat) (g:Int) (tg:Bytes) {ts:List Trm} {w:List Int} (hn:ts.length<1000000) (hw:WB ts w):EvA Tryz.prog 325 nm [(n,⟨0,[.v (.sl (w.map Zp))],false,none⟩)] [.v (Eqn.pv ⟨g,tg,ts⟩), .p n 0 0] (.tup [.v (.sl (ts.map fun t=> .s t.base)), .v (.sl (ts.map fun t=>Zp (tz w t))), .v (E 0)]) []:=by
 have l4:(ts.map Trm.pv).length=ts.length:=List.length_map ..;have l5:(w.map Zp).length=w.length:=List.length_map ..
 by_cases h0:ts=[]
 ·subst h0;simp only[Eqn.pv,List.map_nil];refine EvA.w mixed Tryz.call325 Tryz.func325 rfl (tyC.1 _ _ _ (by cbv)) (tyC.2 _ _ (by cbv)) (obs:=[⟨0,[.v (.sl (w.map Zp))],false,none⟩]) (args:=[.v (.agg [.i .i64 g, .s tg, .sl []]), .p 0 0 0]) (fs:=[none]) (j:=none) (nw:=none) (v:= .tup [.v (.sl []), .v (.sl []), .v (E 0)]) (ns:=[n]) (obsA:=[⟨0,[.v (.sl (w.map Zp))],false,none⟩]) rfl ?_ (by simp) (by simp) rfl (by simp[mapO,AObj.ren,AV.ren,AV.ren.renL]) (by simp[mapO,AV.ren,ixOf]) (by simp[AV.ren,AV.ren.renL]) (by simp[upsOf,outs,AObj.ren,AV.ren,AV.ren.renL])
  simp only[go_sem,seval];repeat' first|simp only[go_sem,seval,true_or,or_true,false_or,or_false,Option.some.injEq,RetA,resLA,outV,outC,outO,viewC,hfV,foV,finH,finN,mkResA,mapO_outC_bcells,AV.ren,AV.ren.renL,renL_bcells]|(refine loop_unroll' ?_)|refine sB ?_|(first|apply pX|apply bX)<;>intro hc|refine⟨oD,?_⟩|exact oD|fail
  all_goals first|rfl|trivial|skip
 have hpos:0<ts.length:=List.length_pos_iff.2 h0;simp only[Eqn.pv];refine EvA.w mixed Tryz.call325 Tryz.func325 rfl (tyC.1 _ _ _ (by cbv)) (tyC.2 _ _ (by cbv)) (obs:=[⟨0,[.v (.sl (w.map Zp))],false,none⟩]) (args:=[.v (.agg [.i .i64 g, .s tg, .sl (ts.map Trm.pv)]), .p 0 0 0]) (fs:=[none]) (j:=none) (nw:=none) (v:= .tup [.v (.sl (ts.map fun t=> .s t.base)), .v (.sl (ts.map fun t=>Zp (tz w t))), .v (E 0)]) (ns:=[n]) (obsA:=[⟨0,[.v (.sl (w.map Zp))],false,none⟩]) rfl ?_ (by simp) (by simp) rfl (by simp[mapO,AObj.ren,AV.ren,AV.ren.renL]) (by simp[mapO,AV.ren,ixOf]) (by simp[AV.ren,AV.ren.renL]) (by simp[upsOf,outs,AObj.ren,AV.ren,AV.ren.renL])
 simp only[go_sem,seval];repeat' first|simp only[go_sem,seval,l4]|refine sB ?_|(first|apply pX|apply bX)<;>intro hc|refine⟨oD,?_⟩|exact oD|fail
 refine loop_unroll' ?_;have e1:=getD_map Trm.pv ts d0T hpos;obtain⟨t1,t2,t3,t4,t5⟩:=hw _ (mem_getD d0T hpos);have r1:rowF (fun t:Trm=>PV.s t.base) (ts.take (0+1))=rowF (fun t:Trm=>PV.s t.base) (ts.take 0)++[.v (.s (ts.getD 0 d0T).base)]:=by rw[take_succ_getD d0T hpos,rowF_snoc];rfl
 have r2:rowF (fun t=>Zp (tz w t)) (ts.take (0+1))=rowF (fun t=>Zp (tz w t)) (ts.take 0)++[.v (.b (zs (tz w (ts.getD 0 d0T)))), .v (.s (zb (tz w (ts.getD 0 d0T))))]:=by rw[take_succ_getD d0T hpos,rowF_snoc];rfl
 have htz:tz w (ts.getD 0 d0T)=zOf ((ts.getD 0 d0T).neg,(ts.getD 0 d0T).abs)*w.getD (ts.getD 0 d0T).var.toNat 0:=rfl;obtain⟨y,hy⟩: ∃y,y=ts.getD 0 d0T:=⟨_,rfl⟩;rw[←hy]at e1 t1 t2 t3 t4 t5 r1 r2 htz;clear hy;obtain⟨b,v,n,a⟩:=y;simp only at t1 t2 t3 t4 t5 r1 htz;have hx:=iMulL (x:=zOf (n,a)) (y:=w.getD v.toNat 0) (by rw[zOf_abs];simp only[izok,Bool.and_eq_true]at t3;exact num_of t3.1) t4 t5
 have e2:=getD_map Zp w 0 (i:=v.toNat) (by omega)
 have ez:Z (zOf (n,a))= .agg [.b n, .s a]:=congrArg ipv (ipz_zOf t3);rw[ez,←htz]at hx;clear t3 t4 t5 ez htz;generalize tz w ⟨b,v,n,a⟩=z at*;generalize w.getD v.toNat 0=wv at*;simp only[Trm.pv]at e1;simp only[Zp,ipv,ipz]at e2;repeat' first|simp only[go_sem,seval,l4,l5,e1,e2]|refine cP hx ?_|refine sB ?_|(first|apply pX|apply bX)<;>intro hc|refine⟨oD,?_⟩|exact oD|fail
 have hB:=trRow;have hZ:=tzRow w;refine loop_run (α:=Nat) (fun j=>ts.length-(j+1)) (fun j=>⟨[(1, .p 0 0 0),(6, .rs 1035 j 0 (j+1) 1),(7, .rs 1039 j 0 (j+1) 2),(13, .v (.sl (ts.map Trm.pv))),(14,E' ts.length),(15,E' (j+1))],[(0,⟨0,[.v (.sl (w.map Zp))],false,none⟩),(1035,⟨j,rowF (fun t:Trm=>PV.s t.base) (ts.take (j+1)),true,some 22⟩),(1039,⟨j,rowF (fun t=>Zp (tz w t)) (ts.take (j+1)),true,some 49⟩)],1044⟩) (fun j=>j+1≤ts.length) 0 (fun _=>Nat.le_of_ble_eq_true rfl) hpos ?_ ?_
 ·rw[Nat.zero_add,r1,r2,List.take_zero,show rowF (fun t:Trm=>PV.s t.base) []=[]from rfl,show rowF (fun t=>Zp (tz w t)) []=[]from rfl]
  exact lE
 ·clear e1 e2 hx r1 r2 t1 t2;intro j hj R hR;have hj1:(ts.take (j+1)).length=j+1:=by rw[List.length_take];omega
  have q1:=rowF_len hB (ts.take (j+1));have q2:=rowF_take hB (ts.take (j+1));have q5:=rowF_len hZ (ts.take (j+1));have q6:=rowF_take hZ (ts.take (j+1));rw[hj1]at q1 q2 q5 q6;rw[Nat.mul_one]at q1 q2
  by_cases hlt:j+1<ts.length
  ·have hgo:=hR (j+1) (by omega) (by omega)
   clear hR;have e1:=getD_map Trm.pv ts d0T hlt;obtain⟨t1,t2,t3,t4,t5⟩:=hw _ (mem_getD d0T hlt);have r1:rowF (fun t:Trm=>PV.s t.base) (ts.take ((j+1)+1))=rowF (fun t:Trm=>PV.s t.base) (ts.take (j+1))++[.v (.s (ts.getD (j+1) d0T).base)]:=by rw[take_succ_getD d0T hlt,rowF_snoc];rfl
   have r2:rowF (fun t=>Zp (tz w t)) (ts.take ((j+1)+1))=rowF (fun t=>Zp (tz w t)) (ts.take (j+1))++[.v (.b (zs (tz w (ts.getD (j+1) d0T)))), .v (.s (zb (tz w (ts.getD (j+1) d0T))))]:=by rw[take_succ_getD d0T hlt,rowF_snoc];rfl
   have htz:tz w (ts.getD (j+1) d0T)=zOf ((ts.getD (j+1) d0T).neg,(ts.getD (j+1) d0T).abs)*w.getD (ts.getD (j+1) d0T).var.toNat 0:=rfl;obtain⟨y,hy⟩: ∃y,y=ts.getD (j+1) d0T:=⟨_,rfl⟩;rw[←hy]at e1 t1 t2 t3 t4 t5 r1 r2 htz;clear hy;obtain⟨b,v,n,a⟩:=y;simp only at t1 t2 t3 t4 t5 r1 htz;have hx:=iMulL (x:=zOf (n,a)) (y:=w.getD v.toNat 0) (by rw[zOf_abs];simp only[izok,Bool.and_eq_true]at t3;exact num_of t3.1) t4 t5
   have e2:=getD_map Zp w 0 (i:=v.toNat) (by omega)
   have ez:Z (zOf (n,a))= .agg [.b n, .s a]:=congrArg ipv (ipz_zOf t3);rw[ez,←htz]at hx;clear t3 t4 t5 ez htz;generalize tz w ⟨b,v,n,a⟩=z at*;generalize w.getD v.toNat 0=wv at*;simp only[Trm.pv]at e1;simp only[Zp,ipv,ipz]at e2;rw[r1,r2]at hgo;repeat' first|simp only[go_sem,seval,l4,l5,e1,e2,q1,q2,q5,q6]|refine cP hx ?_|refine sB ?_|(first|apply pX|apply bX)<;>intro hc|refine⟨oD,?_⟩|exact oD|fail
   refine hgo _ ?_
   (refine AS.Le.of (by first|decide|omega) ?_ ?_<;>simp[LeT,LeH,tget,hget,AV.bd,AV.bd.bdL,u8,bd_cellsOf,bcells_bd,icells_bd])
   all_goals (refine⟨?_,?_⟩<;>(intro c hc;rcases hc with h|h<;>first|exact bd_row h|(rcases h with rfl|rfl<;>rfl)|(subst h;rfl)))
  ·obtain hjv:j+1=ts.length:=by omega
   rw[hjv,List.take_length]at q1 q2 q5 q6;rw[hjv,List.take_length];have q3:=rowF_all hB ts;have q4:chunk 1 ts.length (ts.flatMap fun x=>[PV.s x.base])=ts.map fun t=> .s t.base:=rowF_chunk hB ts
   have q7:=rowF_all hZ ts;have q8:chunk 2 ts.length (ts.flatMap fun x=>(Zp (tz w x)).cells)=ts.map fun t=>Zp (tz w t):=rowF_chunk hZ ts
   repeat' first|simp only[go_sem,seval,true_or,or_true,false_or,or_false,Option.some.injEq,RetA,resLA,outV,outC,outO,viewC,hfV,foV,finH,finN,mkResA,mapO_outC_bcells,AV.ren,AV.ren.renL,renL_bcells,l4,q1,q2,q3,q4,q5,q6,q7,q8,rowF_mapO]|refine sB ?_|(first|apply pX|apply bX)<;>intro hc|refine⟨oD,?_⟩|exact oD|fail
   all_goals first|rfl|trivial|skip
noncomputable def imQ (gs:List (Bytes×Bytes)) (w:List Int) (q:Eqn):Nat:=prZ (num (gs.getD q.grp.toNat d0G).1) (q.terms.map fun t=>(num t.base,ipz (tz w t)))
noncomputable def imG (s:Stm) (w:List Int):List Bytes:=s.eqs.map fun q=>bts (imQ s.groups w q)
theorem imG_len (s:Stm) (w:List Int):(imG s w).length=s.eqs.length:=List.length_map ..
theorem rowS_g {l:List Bytes} {i:Nat} (h:i<l.length):rowF PV.s (l.take (i+1))=rowF PV.s (l.take i)++[.v (.s (l.getD i []))]:=by
 rw[take_succ_getD [] h,rowF_snoc];rfl
theorem prodG {m:Bytes} (lm:m.length≤8) {o:Bytes} (lo:o.length≤8) (hE:gE m o=0) {ts:List Trm} {w:List Int} (hn:ts.length<1000000) (hg: ∀t∈ts,gHas m o t.base=true) (hw:WB ts w):EvP Tryz.prog 69 [G m o, .sl (ts.map fun t=> .s t.base), .sl (ts.map fun t=>Zp (tz w t))] (.tup [N (prZ (num m) (ts.map fun t=>(num t.base,ipz (tz w t)))),E 0]):=by
 have h:=gPrd_ok lm lo hE (xs:=ts.map fun t=>num t.base) (es:=ts.map fun t=>ipz (tz w t)) (fun x hx=>by
  obtain⟨t,ht,rfl⟩:=List.mem_map.1 hx;exact((gHas_iff hE).1 (hg t ht)).2) (fun e he=>by
  obtain⟨t,ht,rfl⟩:=List.mem_map.1 he;obtain⟨-,-,-,h4,h5⟩:=hw t ht;exact izok_z (by rw[tz,Int.natAbs_mul];exact h5)) (by simp) (by simpa using hn)
 rw[List.zip_map',List.map_map,List.map_map]at h;rw[show(ts.map fun t=>PV.s t.base)=ts.map (Npv∘fun t=>num t.base)from List.map_congr_left fun t ht=>(N_of (gHas_valid hE (hg t ht))).symm]
 exact h
theorem imagesG {s:Stm} (hs:StG s) {w:List Int} (hw: ∀q∈s.eqs,WB q.terms w):EvP Tryz.prog 255 [s.pv, .sl (w.map Zp)] (.tup [.sl ((imG s w).map .s),E 0]):=by
 obtain⟨L,hLd⟩: ∃L,L=imG s w:=⟨_,rfl⟩;have hI:=fun i (h:i<s.eqs.length)=>(show L.getD i []=bts (imQ s.groups w (s.eqs.getD i d0Q)) by rw[hLd,imG];simp[List.getD_eq_getElem?_getD,h])
 have hL:L.length=s.eqs.length:=by rw[hLd,imG_len]
 rw[←hLd];clear hLd;obtain⟨gs,vs,es⟩:=s;obtain⟨-,hg,hv,hq,ng,nv,ne,-⟩:=hs;simp only at hg hv hq ng nv ne hw hI hL;have l1:(gs.map gpv).length=gs.length:=List.length_map ..;have l3:(es.map Eqn.pv).length=es.length:=List.length_map ..;unfold Stm.pv;simp only
 by_cases h0:es=[]
 ·subst h0;obtain rfl:L=[]:=List.length_eq_zero_iff.1 hL;simp only[List.map_nil];refine eW Tryz.call255 Tryz.func255 ?_;repeat' first|simp only[go_sem,seval]|(refine loop_unroll' ?_)|refine sB ?_|(first|apply pX|apply bX)<;>intro hc|refine⟨oD,?_⟩|exact oD|fail
 have hpos:0<es.length:=List.length_pos_iff.2 h0;refine eW Tryz.call255 Tryz.func255 ?_;repeat' first|simp only[go_sem,seval,l3]|refine sB ?_|(first|apply pX|apply bX)<;>intro hc|refine⟨oD,?_⟩|exact oD|fail
 refine loop_unroll' ?_;have e1:=getD_map Eqn.pv es d0Q hpos;obtain⟨q1,q2,q3,q4,q5⟩:=hq _ (mem_getD d0Q hpos);have kw:=hw _ (mem_getD d0Q hpos);have r1:=rowS_g (l:=L) (i:=0) (by rw[hL];exact hpos)
 have r2:=hI 0 hpos;obtain⟨x,hx⟩: ∃x,x=es.getD 0 d0Q:=⟨_,rfl⟩;rw[←hx]at e1 q1 q2 q3 q4 q5 kw r2;clear hx;obtain⟨gr,tg,ts⟩:=x;simp only at q1 q2 q3 q4 q5 kw;have hgl:gr.toNat<gs.length:=by omega
 have kg:=hg _ (mem_getD d0G hgl);have e3:=getD_map gpv gs d0G hgl;simp only[imQ]at r2;obtain⟨z,hz⟩: ∃z,z=gs.getD gr.toNat d0G:=⟨_,rfl⟩;rw[←hz]at q5 kg e3 r2;clear hz q3;obtain⟨m,o⟩:=z;simp only at q5 kg r2;have hcl:=fun nm=>collectG 1001 nm gr tg (ts:=ts) (w:=w) (by omega) kw
 have xe:=prodG kg.2.1 kg.2.2 kg.1 (ts:=ts) (w:=w) (by omega) (fun t ht=>(q5 t ht).2.2.1) kw
 have xe:EvP Tryz.prog 69 [G m o, .sl (ts.map fun t=> .s t.base), .sl (ts.map fun t=>Zp (tz w t))] (.tup [.s (L.getD 0 []),E 0]):=by rw[r2];exact xe
 clear r2 kw kg q5;simp only[gpv]at e3;simp only[Eqn.pv]at e1 hcl;repeat' first|simp only[go_sem,seval,l1,l3,e1,e3,viewN]|(refine CR_eff (hcl _) (by simp[hget]) ?_)|refine cP xe ?_|refine sB ?_|(first|apply pX|apply bX)<;>intro hc|refine⟨oD,?_⟩|exact oD|fail
 have hM:RowOK PV.s 1:=RowOK.s;refine loop_run (α:=Nat) (fun j=>es.length-(j+1)) (fun j=>⟨[(2, .p 1000 0 0),(6, .fn (.func 325) [] [.p 1001 0 0]),(7, .rs 1047 j 0 (j+1) 1),(16, .v (.sl (es.map Eqn.pv))),(17,E' es.length),(18,E' (j+1))],[(1000,⟨0,[.v (.sl (gs.map gpv)), .v (.sl (vs.map vpv)), .v (.sl (es.map Eqn.pv))],false,none⟩),(1001,⟨0,[.v (.sl (w.map Zp))],false,none⟩),(1047,⟨j,rowF PV.s (L.take (j+1)),true,some 22⟩)],1051⟩) (fun j=>j+1≤es.length) 0 (fun _=>Nat.le_of_ble_eq_true rfl) hpos ?_ ?_
 ·rw[Nat.zero_add,r1,List.take_zero,show rowF PV.s ([]:List Bytes)=[]from rfl]
  exact lE
 ·clear e1 e3 q1 q2 q4 xe hcl r1;intro i hi R hR;have hj1:(L.take (i+1)).length=i+1:=by rw[List.length_take];omega
  have p1:=rowF_len hM (L.take (i+1));have p2:=rowF_take hM (L.take (i+1));rw[hj1,Nat.mul_one]at p1 p2
  by_cases hlt:i+1<es.length
  ·have hgo:=hR (i+1) (by omega) (by omega)
   clear hR;have e1:=getD_map Eqn.pv es d0Q hlt;obtain⟨q1,q2,q3,q4,q5⟩:=hq _ (mem_getD d0Q hlt);have kw:=hw _ (mem_getD d0Q hlt);have r1:=rowS_g (l:=L) (i:=(i+1)) (by rw[hL];exact hlt)
   have r2:=hI (i+1) hlt;obtain⟨x,hx⟩: ∃x,x=es.getD (i+1) d0Q:=⟨_,rfl⟩;rw[←hx]at e1 q1 q2 q3 q4 q5 kw r2;clear hx;obtain⟨gr,tg,ts⟩:=x;simp only at q1 q2 q3 q4 q5 kw;have hgl:gr.toNat<gs.length:=by omega
   have kg:=hg _ (mem_getD d0G hgl);have e3:=getD_map gpv gs d0G hgl;simp only[imQ]at r2;obtain⟨z,hz⟩: ∃z,z=gs.getD gr.toNat d0G:=⟨_,rfl⟩;rw[←hz]at q5 kg e3 r2;clear hz q3;obtain⟨m,o⟩:=z;simp only at q5 kg r2;have hcl:=fun nm=>collectG 1001 nm gr tg (ts:=ts) (w:=w) (by omega) kw
   have xe:=prodG kg.2.1 kg.2.2 kg.1 (ts:=ts) (w:=w) (by omega) (fun t ht=>(q5 t ht).2.2.1) kw
   have xe:EvP Tryz.prog 69 [G m o, .sl (ts.map fun t=> .s t.base), .sl (ts.map fun t=>Zp (tz w t))] (.tup [.s (L.getD (i+1) []),E 0]):=by rw[r2];exact xe
   clear r2 kw kg q5;simp only[gpv]at e3;simp only[Eqn.pv]at e1 hcl;rw[r1]at hgo;repeat' first|simp only[go_sem,seval,l1,l3,e1,e3,viewN,p1,p2]|(refine CR_eff (hcl _) (by simp[hget]) ?_)|refine cP xe ?_|refine sB ?_|(first|apply pX|apply bX)<;>intro hc|refine⟨oD,?_⟩|exact oD|fail
   refine hgo _ ?_
   (refine AS.Le.of (by first|decide|omega) ?_ ?_<;>simp[LeT,LeH,tget,hget,AV.bd,AV.bd.bdL,u8,bd_cellsOf,bcells_bd,icells_bd])
   all_goals (intro c hc;rcases hc with h|h<;>first|exact bd_row h|(subst h;rfl))
  ·obtain hjv:i+1=es.length:=by omega
   rw[hjv]at p1 p2;have hLt:L.take es.length=L:=List.take_of_length_le (by omega)
   rw[hLt]at p1 p2;rw[hjv,hLt];have p3:=rowF_all hM L;have p4:=rowF_chunk hM L;rw[hL]at p4;repeat' first|simp only[go_sem,seval,l3,p1,p2,p3,p4,rowF_mapO]|refine sB ?_|(first|apply pX|apply bX)<;>intro hc|refine⟨oD,?_⟩|exact oD|fail
   all_goals exact congrArg (fun l=>PV.tup [PV.sl l,E 0]) p4
theorem lrd1_ok (x:Bool×Bytes):EvP Tryz.prog 323 [ipv x] (.b (!izok x)):=by
 obtain⟨n,a⟩:=x;have hv:=iValid_ok n a;rw[show(validN a&& !(n&&a==[]))=izok (n,a)from rfl]at hv
 generalize izok (n,a)=b at*;simp only[ipv];refine eW Tryz.call323 Tryz.func323 ?_;repeat' first|simp only[go_sem,seval]|refine cP hv ?_|refine sB ?_|(first|apply pX|apply bX)<;>intro hc|refine⟨oD,?_⟩|exact oD|fail
end Go.Proofs.YtmobkhegihemeaaGreatDoor
